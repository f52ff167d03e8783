import Derived.ArgAppend
import Derived.BigQuiet
import Derived.Deep.DeepCutAuto
import Derived.Deep.RegionHeld3
import Derived.Lib.SlBytesConst
import Derived.Outline
import Derived.Test.YtjdimgigbgafbaaDoorZLogReads1
/-
  What the law leans on, part 2: WDiskE, DiskAbs, WDiskF, WDiskG, WDiskH, WDiskI, WDiskP, AppB, TextP, SealP, WSealA, WCrcs, WFrames, FrAPlain, LogPlain, LogData, LogMem.
-/
namespace Go.Proofs.YtjdimgigbgafbaaDoor
set_option maxRecDepth 100000
open Go.RowKit H
set_option linter.unusedVariables false
theorem flat_take {l : List (List Int)} {i : Nat} (hi : i < l.length) : (l.take (i + 1)).flatten = (l.take i).flatten ++ l.getD i [] := by
  rw [List.take_add_one, List.getElem?_eq_getElem hi, List.flatten_append]
  simp [List.getD, hi]
theorem flat_len {l : List (List Int)} (h : ∀ x ∈ l, x.length = 1024) (i : Nat) (hi : i ≤ l.length) : ((l.take i).flatten).length = i * 1024 := by
  induction i with
  | zero => simp
  | succ i ih =>
    rw [flat_take (by omega), List.length_append, ih (by omega)]
    have : l.getD i [] = l[i] := by simp [List.getD, show i < l.length by omega]
    rw [this, h _ (List.getElem_mem _)]
    omega
namespace Dk
variable {v : Dk} {N : Nat} {C : Nat → Prop} {w : World}
def dat (v : Dk) : List (List Int) := v.kp.map (·.2)
theorem At.dlen (h : v.At N C w) : ∀ x ∈ v.dat, x.length = 1024 := by
  intro x hx
  obtain ⟨y, hy, rfl⟩ := List.mem_map.1 hx
  exact (h.kd y hy).len
theorem At.image_ (h : v.At N C w) : Calls Tryd.prog 26 #[v.ptr] w fun e w' => ∃ A c, e = .returned (.slice A (v.kp.length * 1024) c) ∧ w'.ownsRow w.heap.size 5 1 (.slice A (v.kp.length * 1024) c) (v.kp.length * 1024) (nums .u8 v.dat.flatten) ∧ Ext w w' := by
  have hb := h.hb
  have h1 := h.h1
  have hdl : v.dat.length = v.kp.length := by simp [dat]
  have hfl := flat_len h.dlen
  refine enter Tryd.func26 rfl (by kernel_rfl) ?_
  refine J.seq ?_
  refine J.region ?_
  refine L.va rfl (X.assign (by conv => lhs; whnf)) ?_
  refine L.nil ?_
  refine J.seq ?_
  refine J.seq ?_
  refine J.region ?_
  refine L.va rfl (X.move (by conv => lhs; whnf)) ?_
  refine L.call rfl en_49 rfl (h.is) ?_
  rintro e _ ⟨rfl, rfl⟩
  refine ⟨_, rfl, ?_⟩
  refine L.va rfl (X.not rfl) ?_
  refine L.nil ?_
  refine J.iteF rfl ?_
  refine J.skip ?_
  refine J.seq ?_
  refine J.region ?_
  refine L.va rfl (X.move (by conv => lhs; whnf)) ?_
  refine L.va rfl (X.nilCheck rfl) ?_
  refine L.va rfl (X.fieldAddr rfl Tryd.underlying105 rfl sz_30 (by decide)) ?_
  refine L.va rfl (X.load rfl sc_30 (by first | exact Ld.blk hb rfl)) ?_
  refine L.va rfl (X.len rfl Tryd.underlying30) ?_
  refine L.va rfl (X.mul rfl rfl (by omega)) ?_
  refine L.make (q := 0) (c := v.kp.length * 1024) rfl rfl rfl Tryd.underlying39 el_5 (by omega) ?_
  intro b1 w1 hb1 hs1 hk1 he1
  rw [made_nums] at hk1
  have ho1 : w1.ownsRow w.heap.size 5 1 (.slice (some ⟨b1, 0, none⟩) 0 (v.kp.length * 1024)) 0 (nums .u8 []) := blk_own (size := 1) hk1 (by omega) (Nat.zero_le _) (by unfold maxLen; omega) (by simp [nums])
  replace hb := hb.ext he1
  refine L.va rfl (X.assign (by conv => lhs; whnf)) ?_
  refine L.nil ?_
  refine J.seq ?_
  refine J.seq ?_
  refine J.region ?_
  refine L.va rfl (X.move (by conv => lhs; whnf)) ?_
  refine L.va rfl (X.nilCheck rfl) ?_
  refine L.va rfl (X.fieldAddr rfl Tryd.underlying105 rfl sz_30 (by decide)) ?_
  refine L.va rfl (X.load rfl sc_30 (by first | exact Ld.blk hb rfl)) ?_
  refine L.va rfl (X.len rfl Tryd.underlying30) ?_
  refine L.va rfl (X.move (by conv => lhs; whnf)) ?_
  refine L.nil ?_
  refine J.block ?_
  refine J.loop (X := Nat × Option Addr × Nat) [3, 5, 21, 22, 23, 24, 25, 26, 27, 28] (fun x => [(21, .int .i64 (x.1 : Int)), (3, .slice x.2.1 (x.1 * 1024) x.2.2)]) (fun x w' => x.1 ≤ v.kp.length ∧ w'.ownsRow w.heap.size 5 1 (.slice x.2.1 (x.1 * 1024) x.2.2) (x.1 * 1024) (nums .u8 ((v.dat.take x.1).flatten)) ∧ Ext w w') (fun x => v.kp.length - x.1) ((0, some ⟨b1, 0, none⟩, v.kp.length * 1024)) (At2 (by first | rfl | exact at_int rfl (by omega) | exact at_slice rfl (by omega) | exact at_int rfl (by simp)) (by first | rfl | exact at_int rfl (by omega) | exact at_slice rfl (by omega) | exact at_int rfl (by simp))) ?_ ?_
  · exact ⟨by dsimp only; omega, ho1, he1⟩
  · rintro ⟨i, A, c⟩ g w2 ⟨hi, ho2, he2⟩
    dsimp only at hi ho2
    have q1 : ((i, A, c) : Nat × Option Addr × Nat).1 = i := rfl
    have H2 := h.ext he2
    have hb2 := H2.hb
    have hz2 := he2.le
    refine J.seq ?_
    refine J.region ?_
    refine L.va rfl (X.lss rfl rfl) ?_
    refine L.nil ?_
    refine J.seq ?_
    refine J.dec rfl (fun hlt => ?_) (fun hlt => ?_)
    · have hil : i < v.kp.length := by dsimp only at hlt; omega
      obtain ⟨A5, c5, e5, hr5⟩ := (H2.kDat hil).slice
      have hl5 := H2.kLd hil
      rw [e5] at hl5
      have hn := flat_take (l := v.dat) (i := i) (by omega)
      have hg : v.dat.getD i [] = (v.kp.getD i c0).2 := by
        have := getD_map (g := fun x : Cell => x.2) (l := v.kp) (i := i) (z := c0)
        exact this
      rw [hg] at hn
      refine J.skip ?_
      refine J.seq ?_
      refine J.block ?_
      refine J.seq ?_
      refine J.region ?_
      refine L.va rfl ((by first | exact X.index1n rfl rfl Tryd.underlying30 sz_39 (by first | exact Option.some_ne_none _ ) (by omega) | exact X.index1 rfl rfl Tryd.underlying30 sz_39 (by first | exact Option.some_ne_none _ ) (by omega))) ?_
      refine L.va rfl (X.load rfl sc_39 hl5) ?_
      refine L.va rfl (X.assign (by conv => lhs; whnf)) ?_
      refine L.nil ?_
      refine J.region ?_
      refine L.va rfl (X.move (by conv => lhs; whnf)) ?_
      refine L.va rfl (X.move (by conv => lhs; whnf)) ?_
      refine L.appendQ (q := (i + 1) * 1024) (ys := (v.dat.take i).flatten ++ (v.kp.getD i c0).2) rfl rfl rfl Tryd.underlying39 el_5 (ho2) (hr5) (by omega) (by simp) (by unfold maxLen; omega) (by omega) ?_
      intro A3 c3 w3 ho3 hg3 hb3 hor3
      rw [← hn] at ho3
      refine L.va rfl (X.assign (by conv => lhs; whnf)) ?_
      refine L.nil ?_
      refine J.region ?_
      refine L.va rfl (X.add rfl rfl (by omega)) ?_
      refine L.va rfl (X.move (by conv => lhs; whnf)) ?_
      refine L.nil ?_
      refine ⟨(i + 1, A3, c3), At2 (by first | rfl | exact at_int rfl (by omega) | exact at_slice rfl (by omega) | exact at_int rfl (by simp)) (by first | rfl | exact at_int rfl (by omega) | exact at_slice rfl (by omega) | exact at_int rfl (by simp)), (by (iterate 10 refine Agr.lk rfl ?_); exact Agr.lk rfl (Agr.hav rfl Agr.rfl')), ?_⟩
      exact ⟨⟨by dsimp only; omega, ho3, he2.low hb3 (Nat.le_refl _)⟩, by dsimp only; omega⟩
    · obtain rfl : i = v.kp.length := by dsimp only at hlt; omega
      rw [List.take_of_length_le (by omega)] at ho2
      refine J.exit ?_
      refine J.seq ?_
      refine J.region ?_
      refine L.va rfl (X.move (by conv => lhs; whnf)) ?_
      refine L.va rfl (X.assign (by conv => lhs; whnf)) ?_
      refine L.nil ?_
      refine J.ret ?_
      refine fin1 ?_
      exact ⟨A, c, rfl, ho2, he2⟩
end Dk
def ck (zs : List Int) (i : Nat) : List Int := (zs.drop (1024 * i)).take 1024
theorem Dat.grown {w w' : World} {x : Value} {zs : List Int} {r : Option Nat} (h : Dat w x zs) (hg : w.grownBy w' r) (hr : ∀ g, r = some g → ¬ IsT w g 5) : Dat w' x zs := by
  obtain ⟨g, off, c, cs, rfl, hl, hb, hc⟩ := h
  exact ⟨g, off, c, cs, rfl, hl, hb.grown hg (fun e => hr g e.symm hb.isT), hc⟩
theorem Dat.ext {w w' : World} {x : Value} {zs : List Int} (h : Dat w x zs) (he : Ext w w') : Dat w' x zs := h.grown (r := none) (grown_ext he) (fun g hg => by cases hg)
structure Mk (w w' : World) (d i : Nat) (A : Option Addr) (c : Nat) (kp : List Cell) (zs : List Int) : Prop where
  hb : Blk w' d 105 #[.bool false, .int .i64 (-1), .bool true, .slice A i c, .slice none 0 0, .int .i64 0, .int .i64 0, .int .i64 0]
  hk : w'.ownsRow w.heap.size 39 1 (.slice A i c) i (kp.map (·.1))
  kd : ∀ x ∈ kp, Dat w' x.1 x.2
  hz : kp.map (·.2) = (List.range i).map (ck zs)
  hl : kp.length = i
  he : Ext w w'
  hd : w.heap.size ≤ d
theorem load_ok {w : World} (A : Option Addr) (q c : Nat) (zs : List Int) (hr : Reads w w.heap.size 1 A (q * 1024) (nums .u8 zs)) (hc : q * 1024 ≤ c) (hq : 1 ≤ q ∧ q ≤ 8192) : Calls Tryd.prog 34 #[.slice A (q * 1024) c] w fun e w' =>
    ∃ v : Dk, e = .returned (.tuple #[v.ptr, .int .i64 0]) ∧ v.At w.heap.size (· < w.heap.size) w' ∧ v.off = false ∧ v.left = -1 ∧ v.rd = 0 ∧ v.wr = 0 ∧ v.fl = 0 ∧ v.pp = [] ∧ v.dat = (List.range q).map (ck zs) ∧ Ext w w' := by
  have e0 : ((q * 1024 : Nat) : Int) / 1024 = q := by omega
  refine enter Tryd.func34 rfl (by kernel_rfl) ?_
  refine J.seq ?_
  refine J.region ?_
  refine L.va rfl (X.assign (by conv => lhs; whnf)) ?_
  refine L.va rfl (X.assign (by conv => lhs; whnf)) ?_
  refine L.nil ?_
  refine J.seq ?_
  refine J.region ?_
  refine L.va rfl (X.move (by conv => lhs; whnf)) ?_
  refine L.va rfl (X.len rfl Tryd.underlying39) ?_
  refine L.va rfl (X.quo rfl rfl (by omega)) ?_
  refine L.va rfl (X.assign (by conv => lhs; whnf)) ?_
  refine L.nil ?_
  refine J.seq ?_
  refine J.seq ?_
  refine J.region ?_
  refine L.va rfl (X.move (by conv => lhs; whnf)) ?_
  refine L.va rfl (X.len rfl Tryd.underlying39) ?_
  refine L.va rfl (X.rem rfl rfl (by omega)) ?_
  refine L.va rfl (X.neq rfl rfl) ?_
  refine L.nil ?_
  refine J.ndecF rfl (by omega) ?_
  refine J.skip ?_
  refine J.seq ?_
  refine J.seq ?_
  refine J.region ?_
  refine L.va rfl (X.move (by conv => lhs; whnf)) ?_
  refine L.va rfl (X.lss rfl rfl) ?_
  refine L.va rfl (X.move (by conv => lhs; whnf)) ?_
  rw [e0]
  refine L.caseDecF (k := 16) rfl (by omega) ?_
  refine L.va rfl (X.move (by conv => lhs; whnf)) ?_
  refine L.va rfl (X.gtr rfl rfl) ?_
  refine L.va rfl (X.pickF rfl (by conv => lhs; whnf)) ?_
  refine L.nil ?_
  refine J.decF rfl (by omega) ?_
  refine J.skip ?_
  refine J.seq ?_
  refine J.region ?_
  refine L.va rfl (X.build (l := [_, _]) (Evs.cons (by conv => lhs; whnf) Evs.nil) (bld_run Tryd.underlying102 (bp_102 Tryd.underlying102) zr_102 rfl)) ?_
  refine L.va rfl (X.build (l := [_, _, _, _, _, _, _, _]) (Evs.cons (by conv => lhs; whnf) (Evs.cons (by conv => lhs; whnf) Evs.nil)) (bld_run Tryd.underlying105 (bp_105 Tryd.underlying105) zr_105 rfl)) ?_
  refine L.boxA (l := [_, _, _, _, _, _, _, _]) rfl rfl ?_
  intro b1 w1 hb1 hs1 hk1 he1
  have hk1 : Blk w1 b1 105 #[.bool false, .int .i64 (-1), .bool true, .slice none 0 0, .slice none 0 0, .int .i64 0, .int .i64 0, .int .i64 0] := hk1
  have hzl : zs.length = q * 1024 := by have := hr.1; simpa [nums] using this
  refine L.va rfl (X.assign (by conv => lhs; whnf)) ?_
  refine L.nil ?_
  refine J.seq ?_
  refine J.seq ?_
  refine J.region ?_
  refine L.va rfl (X.move (by conv => lhs; whnf)) ?_
  refine L.va rfl (X.move (by conv => lhs; whnf)) ?_
  refine L.nil ?_
  refine J.block ?_
  refine J.loop (X := Nat × Option Addr × Nat × List Cell) [6, 24, 25, 26, 27, 28, 29, 30, 31, 32, 33, 34, 35, 36, 37, 38, 39, 40, 41, 42, 43, 44] (fun x => [(24, .int .i64 (x.1 : Int))]) (fun x w' => x.1 ≤ q ∧ Mk w w' b1 x.1 x.2.1 x.2.2.1 x.2.2.2 zs) (fun x => q - x.1) ((0, none, 0, [])) (At1 (by first | rfl | exact at_int rfl (by omega) | exact at_slice rfl (by omega) | exact at_int rfl (by simp))) ?_ ?_
  · exact ⟨Nat.zero_le _, hk1, own_nil _ _ _ _, (fun x hx => by cases hx), rfl, rfl, he1, by omega⟩
  · rintro ⟨i, A0, c0, kp⟩ g w2 ⟨hi, M⟩
    dsimp only at hi M
    have hbM := M.hb
    refine J.seq ?_
    refine J.region ?_
    refine L.va rfl (X.lss rfl rfl) ?_
    refine L.nil ?_
    refine J.seq ?_
    refine J.dec rfl (fun hlt => ?_) (fun hlt => ?_)
    · have hlt : (i : Int) < q := hlt
      refine J.skip ?_
      refine J.seq ?_
      refine J.block ?_
      refine J.seq ?_
      refine J.region ?_
      refine L.va rfl (X.move (by conv => lhs; whnf)) ?_
      refine L.va rfl (X.assign (by conv => lhs; whnf)) ?_
      refine L.nil ?_
      refine J.draw (ℓ := 17) (S := (fun w' => Blk w' b1 105 #[.bool false, .int .i64 (-1), .bool true, .slice A0 i c0, .slice none 0 0, .int .i64 0, .int .i64 0, .int .i64 0])) mixed (fun w3 hSE hS_h => ?_)
      have hS : ((fun w' => Blk w' b1 105 #[.bool false, .int .i64 (-1), .bool true, .slice A0 i c0, .slice none 0 0, .int .i64 0, .int .i64 0, .int .i64 0])) w3 := hbM.ext hSE
      refine D.va 0 rfl (by kernel_rfl) (fun _ _ _ h => h) rfl (fun w' hw => X.move (by conv => lhs; whnf)) hS ?_
      refine D.va 1 rfl (by kernel_rfl) (fun _ _ _ h => h) rfl (fun w' hw => X.move (by conv => lhs; whnf)) hS ?_
      refine D.va 2 rfl (by kernel_rfl) (fun _ _ _ h => h) rfl (fun w' hw => X.nilCheck rfl) hS ?_
      refine D.va 3 rfl (by kernel_rfl) (fun _ _ _ h => h) rfl (fun w' hw => X.fieldAddr rfl Tryd.underlying105 rfl sz_30 (by decide)) hS ?_
      refine D.va 4 rfl (by kernel_rfl) (fun _ _ _ h => h) rfl (fun w' hw => X.load rfl sc_30 (Ld.blk hw rfl)) hS ?_
      refine D.va 5 rfl (by kernel_rfl) (fun _ _ _ h => h) rfl (fun w' hw => X.move (by conv => lhs; whnf)) hS ?_
      refine D.va 6 rfl (by kernel_rfl) (fun _ _ _ h => h) rfl (fun w' hw => X.move (by conv => lhs; whnf)) hS ?_
      refine D.va 7 rfl (by kernel_rfl) (fun _ _ _ h => h) rfl (fun w' hw => X.mul rfl rfl (by omega)) hS ?_
      refine D.va 8 rfl (by kernel_rfl) (fun _ _ _ h => h) rfl (fun w' hw => X.move (by conv => lhs; whnf)) hS ?_
      refine D.va 9 rfl (by kernel_rfl) (fun _ _ _ h => h) rfl (fun w' hw => X.add rfl rfl (by omega)) hS ?_
      refine D.va 10 rfl (by kernel_rfl) (fun _ _ _ h => h) rfl (fun w' hw => X.mul rfl rfl (by omega)) hS ?_
      refine D.va 11 rfl (by kernel_rfl) (fun _ _ _ h => h) rfl (fun w' hw => X.slicen (i := i * 1024) (j := (i + 1) * 1024) rfl rfl rfl Tryd.underlying39 sz_5 (by omega)) hS ?_
      have E3 : Ext w w3 := M.he.trans hSE
      have hrp := part_nums (c := c) (i := i * 1024) (j := (i + 1) * 1024) (hr.ext E3) (by omega) (by omega) hc
      rw [show (i + 1) * 1024 - i * 1024 = 1024 by omega] at hrp
      have e38 : (zs.drop (i * 1024)).take 1024 = ck zs i := by rw [ck, Nat.mul_comm]
      rw [e38] at hrp
      rw [show (i + 1) * 1024 - i * 1024 = 1024 by omega]
      refine D.one 12 (by kernel_rfl) rfl ?_
      refine L.appendQ (q := 1024) (ys := ck zs i) rfl rfl rfl Tryd.underlying39 el_5 (own_nilN _ w3.heap.size _ _) (hrp) (by omega) (by simp) (by unfold maxLen; omega) (by omega) ?_
      intro A4 c4 w4 ho4 hg4 hb4 hor4
      have hS1 := hS.ext (grown_none hg4)
      refine L.nil ?_
      refine ⟨fun _ => hS1, ?_⟩
      have he4 : Ext w3 w4 := grown_none hg4
      have hD4 := Dat.of_own ho4
      refine D.one 13 (by kernel_rfl) rfl ?_
      refine L.bslice (vs := [_]) rfl (Evs.cons (by conv => lhs; whnf) Evs.nil) rfl rfl rfl rfl Tryd.underlying30 sz_39 zr_39 (by decide) ?_
      intro b5 w5 hb5 hs5 hk5 he5
      have hS2 := hS1.ext he5
      refine L.nil ?_
      refine ⟨fun _ => hS2, ?_⟩
      have he35 : Ext w2 w5 := hSE.trans (he4.trans he5)
      have hD5 : Dat w5 (.slice A4 1024 c4) (ck zs i) := hD4.ext he5
      have hz5 := (M.he.trans he35).le
      have hp5 := M.hk.ext he35
      have hne5 : some b1 ≠ Value.ownBlock (.slice A0 i c0) := fun e => own_blk_ne hp5 hS2 (by decide) e.symm
      refine D.one 14 (by kernel_rfl) rfl ?_
      refine L.appendV (q := i + 1) (ys := (kp ++ [(Value.slice A4 1024 c4, ck zs i)]).map (·.1)) rfl rfl rfl Tryd.underlying30 el_39 (hp5) (blk_readsN (sz := 1) (q := 1) (l := [.slice A4 1024 c4]) hk5 (by omega : b5 < w5.heap.size) rfl) (by first | rfl | exact strs_ones _ | assumption) (by omega) (by simp) (by unfold maxLen; omega) (by omega) ?_
      intro A6 c6 w6 ho6 hg6 hb6 hor6
      have hS3 := hS2.grown hg6 hne5
      refine L.nil ?_
      refine ⟨fun _ => hS3, ?_⟩
      refine D.va 15 rfl (by kernel_rfl) (fun _ _ _ h => h) rfl (fun w' hw => X.nilCheck rfl) hS3 ?_
      refine D.va 16 rfl (by kernel_rfl) (fun _ _ _ h => h) rfl (fun w' hw => X.fieldAddr rfl Tryd.underlying105 rfl sz_30 (by decide)) hS3 ?_
      refine D.one 17 (by kernel_rfl) rfl ?_
      refine L.store rfl rfl (by conv => lhs; whnf) rfl sz_30 (hS3) (by first | decide | exact Nat.le_of_ble_eq_true rfl) ?_
      intro w7 hk7 hg7 hs7
      refine L.nil ?_
      refine ⟨fun h => absurd rfl h, ?_⟩
      refine D.done (by kernel_rfl) ?_
      refine J.region ?_
      refine L.va rfl (X.add rfl rfl (by omega)) ?_
      refine L.va rfl (X.move (by conv => lhs; whnf)) ?_
      refine L.nil ?_
      refine ⟨(i + 1, A6, c6, kp ++ [(Value.slice A4 1024 c4, ck zs i)]), At1 (by first | rfl | exact at_int rfl (by omega) | exact at_slice rfl (by omega) | exact at_int rfl (by simp)), (by (iterate 22 refine Agr.lk rfl ?_); exact Agr.lk rfl (Agr.hav rfl Agr.rfl')), ?_⟩
      have hnk : ∀ g, (Value.slice A0 i c0).ownBlock = some g → ¬ IsT w5 g 5 := fun g hg ht => absurd ((own_isT hp5 hg).1.fun_ ht) (by decide)
      have hnd : ∀ g, some b1 = some g → ¬ IsT w6 g 5 := fun g hg ht => by
        injection hg with hg
        subst hg
        exact absurd (hS3.isT.fun_ ht) (by decide)
      refine ⟨⟨by dsimp only; omega, hk7, ho6.kept hg7 (.inr (own_blk_ne ho6 hS3 (by decide))), fun x hx => ?_, ?_, ?_, ?_, M.hd⟩, by dsimp only; omega⟩
      · rcases List.mem_append.1 hx with hx | hx
        · exact ((M.kd x hx).ext he35).grown hg6 hnk |>.grown hg7 hnd
        · obtain rfl : x = (Value.slice A4 1024 c4, ck zs i) := by simpa using hx
          exact (hD5.grown hg6 hnk).grown hg7 hnd
      · dsimp only
        rw [List.map_append, M.hz, List.range_succ, List.map_append]
        rfl
      · dsimp only
        rw [List.length_append, M.hl]
        rfl
      · exact ((M.he.trans he35).grw hg6 (fun g hg => (own_isT hp5 hg).2)).grw hg7 (by intro g hg; injection hg with hg; have := M.hd; omega)
    · obtain rfl : i = q := by have : ¬ (i : Int) < q := hlt; omega
      refine J.exit ?_
      refine J.seq ?_
      refine J.region ?_
      refine L.va rfl (X.move (by conv => lhs; whnf)) ?_
      refine L.va rfl (X.assign (by conv => lhs; whnf)) ?_
      refine L.va rfl (X.assign (by conv => lhs; whnf)) ?_
      refine L.nil ?_
      refine J.ret ?_
      refine fin2 ?_
      obtain ⟨b, cap, hA, _, _⟩ := M.hk.form (by omega)
      injection hA with hA _ hc2
      subst hA hc2
      have hl := M.hl
      refine ⟨⟨b1, b, c0, none, 0, kp, [], false, -1, 0, 0, 0⟩, rfl, ?_, rfl, rfl, rfl, rfl, rfl, rfl, M.hz, M.he⟩
      have hb' := M.hb
      have hk' := M.hk
      refine ⟨?_, ?_, own_nil _ _ _ _, (fun g hg => by cases hg), fun g hg => Nat.lt_of_lt_of_le hg M.he.le, fun g hg => hg, M.kd, (fun x hx => by cases hx), M.hd, by dsimp only; omega, by dsimp only; omega⟩
      · show Blk w2 b1 105 #[.bool false, .int .i64 (-1), .bool true, .slice (some ⟨b, 0, none⟩) kp.length c0, .slice none 0 0, .int .i64 0, .int .i64 0, .int .i64 0]
        rw [hl]
        exact hb'
      · show w2.ownsRow w.heap.size 39 1 (.slice (some ⟨b, 0, none⟩) kp.length c0) kp.length (kp.map (·.1))
        rw [hl]
        exact hk'
theorem ck_zero (q i : Nat) (hi : i < q) : ck (List.replicate (q * 1024) 0) i = List.replicate 1024 0 := by
  unfold ck
  rw [List.drop_replicate, List.take_replicate]
  congr 1
  have : 1024 * i + 1024 ≤ q * 1024 := by omega
  omega
theorem new_ok {w : World} (q : Nat) (hq : 1 ≤ q ∧ q ≤ 8192) : Calls Tryd.prog 8 #[.int .i64 (q : Int)] w fun e w' =>
    ∃ v : Dk, e = .returned (.tuple #[v.ptr, .int .i64 0]) ∧ v.At w.heap.size (· < w.heap.size) w' ∧ v.off = false ∧ v.left = -1 ∧ v.rd = 0 ∧ v.wr = 0 ∧ v.fl = 0 ∧ v.pp = [] ∧ v.dat = (List.range q).map (fun _ => List.replicate 1024 0) ∧ Ext w w' := by
  refine enter Tryd.func8 rfl (by kernel_rfl) ?_
  refine J.seq ?_
  refine J.region ?_
  refine L.va rfl (X.assign (by conv => lhs; whnf)) ?_
  refine L.va rfl (X.assign (by conv => lhs; whnf)) ?_
  refine L.nil ?_
  refine J.seq ?_
  refine J.seq ?_
  refine J.region ?_
  refine L.va rfl (X.move (by conv => lhs; whnf)) ?_
  refine L.va rfl (X.lss rfl rfl) ?_
  refine L.va rfl (X.move (by conv => lhs; whnf)) ?_
  refine L.caseDecF (k := 6) rfl (by omega) ?_
  refine L.va rfl (X.move (by conv => lhs; whnf)) ?_
  refine L.va rfl (X.gtr rfl rfl) ?_
  refine L.va rfl (X.pickF rfl (by conv => lhs; whnf)) ?_
  refine L.nil ?_
  refine J.decF rfl (by omega) ?_
  refine J.skip ?_
  refine J.seq ?_
  refine J.region ?_
  refine L.va rfl (X.move (by conv => lhs; whnf)) ?_
  refine L.va rfl (X.mul rfl rfl (by omega)) ?_
  refine L.make (q := q * 1024) (c := q * 1024) rfl rfl rfl Tryd.underlying39 el_5 (by omega) ?_
  intro b1 w1 hb1 hs1 hk1 he1
  rw [made_nums] at hk1
  have hr1 : Reads w1 w1.heap.size 1 (some ⟨b1, 0, none⟩) (q * 1024) (nums .u8 (List.replicate (q * 1024) 0)) := blk_readsN hk1 hk1.lt (by simp [nums])
  refine L.call rfl en_34 rfl (load_ok _ q (q * 1024) _ hr1 (Nat.le_refl _) hq) ?_
  rintro e w2 ⟨v, rfl, hv, k1, k2, k3, k4, k5, k6, k7, he2⟩
  refine ⟨_, rfl, ?_⟩
  refine L.va rfl (X.extract rfl rfl) ?_
  refine L.va rfl (X.extract rfl rfl) ?_
  refine L.va rfl (X.assign (by conv => lhs; whnf)) ?_
  refine L.va rfl (X.assign (by conv => lhs; whnf)) ?_
  refine L.nil ?_
  refine J.ret ?_
  refine fin2 ?_
  have hz := he1.le
  refine ⟨v, rfl, ⟨hv.hb, hv.hk.mono hz, hv.hp.mono hz, fun g hg hC => ?_, fun g hg => ?_, fun g hg => hg, hv.kd, hv.pd, Nat.le_trans hz hv.hN, hv.h1, hv.hl⟩, k1, k2, k3, k4, k5, k6, ?_, he1.trans he2⟩
  · exact hv.hC g hg (Nat.lt_of_lt_of_le hC hz)
  · have := he2.le
    have hg : g < w.heap.size := hg
    omega
  · rw [k7]
    apply List.map_congr_left
    intro i hi
    exact ck_zero q i (List.mem_range.1 hi)
end Go.Proofs.YtjdimgigbgafbaaDoor
namespace Go.Proofs.YtjdimgigbgafbaaDoor
set_option maxRecDepth 100000
open Go.RowKit H
set_option linter.unusedVariables false
structure Ds where
  (kept : List (List Int)) (pend : List (Nat × List Int)) (off : Bool) (left rd wr fl : Int)
structure Dd where
  (kind n : Int) (data : List Int) (odd : Bool) (keep : List Bool)
def blkOf (zs : List Int) : List Int := (List.range 1024).map fun i => if 0 < zs.length then zs.getD (i % zs.length) 0 else 0
theorem blkOf_length (zs : List Int) : (blkOf zs).length = 1024 := by simp [blkOf]
def Dd.bytes (x : Dd) : List Int := if x.odd = true then x.data else blkOf x.data
namespace Ds
def now (s : Ds) (a : Nat) : List Int := nowI s.kept [] s.pend a s.pend.length
def do_ (s : Ds) (x : Dd) : Ds × List Int × Int :=
  if x.kind = 3 then ({ s with left := max x.n (-1) }, [], 0)
  else if x.kind = 4 then ({ s with kept := keI (Dk.kpF x.keep) s.kept [] s.pend s.pend.length, pend := [], off := false, left := -1 }, [], 0)
  else if s.off = true then (s, [], 14)
  else if x.kind ≠ 2 ∧ (x.n < 0 ∨ (s.kept.length : Int) ≤ x.n) then (s, [], 2)
  else if x.kind = 0 then ({ s with rd := s.rd + 1 }, s.now x.n.toNat, 0)
  else if x.kind = 1 ∧ x.bytes.length ≠ 1024 then (s, [], 6)
  else if s.left = 0 then ({ s with off := true }, [], 14)
  else if x.kind = 1 then ({ s with left := Dk.dec1 s.left, wr := s.wr + 1, pend := s.pend ++ [(x.n.toNat, x.bytes)] }, [], 0)
  else ({ s with left := Dk.dec1 s.left, fl := s.fl + 1, kept := keI (fun _ => true) s.kept [] s.pend s.pend.length, pend := [] }, [], 0)
structure Ok (s : Ds) (m : Nat) : Prop where
  hn : 1 ≤ s.kept.length ∧ s.kept.length ≤ 8192
  hk : ∀ x ∈ s.kept, x.length = 1024
  hp : ∀ x ∈ s.pend, x.1 < s.kept.length ∧ x.2.length = 1024
  hm : s.pend.length ≤ m ∧ (0 ≤ s.rd ∧ s.rd ≤ m) ∧ (0 ≤ s.wr ∧ s.wr ≤ m) ∧ (0 ≤ s.fl ∧ s.fl ≤ m)
  hl : -1 ≤ s.left ∧ s.left ≤ 9223372036854775807
theorem Ok.more {s : Ds} {m m' : Nat} (h : s.Ok m) (hm : m ≤ m') : s.Ok m' := by
  have := h.hm
  exact ⟨h.hn, h.hk, h.hp, by omega, h.hl⟩
theorem Ok.do_ {s : Ds} {m : Nat} (h : s.Ok m) (x : Dd) (hx : x.n ≤ 9223372036854775807) : (s.do_ x).1.Ok (m + 1) := by
  have hm := h.hm
  have hl := h.hl
  have hd : -1 ≤ Dk.dec1 s.left ∧ Dk.dec1 s.left ≤ 9223372036854775807 := by unfold Dk.dec1; split <;> omega
  have hke : ∀ f : Nat → Bool, (keI f s.kept [] s.pend s.pend.length).length = s.kept.length := fun f => keI_length _ _ _ _ _
  have hkm : ∀ f : Nat → Bool, ∀ y ∈ keI f s.kept [] s.pend s.pend.length, y.length = 1024 := fun f => keI_mem (p := fun y : List Int => y.length = 1024) h.hk (fun y hy => (h.hp y hy).2) _ (Nat.le_refl _)
  unfold Ds.do_
  split
  · exact ⟨h.hn, h.hk, h.hp, by dsimp only; omega, by dsimp only; omega⟩
  split
  · exact ⟨by dsimp only; rw [hke]; exact h.hn, hkm _, (fun y hy => by cases hy), by simp only [List.length_nil]; omega, by dsimp only; omega⟩
  split
  · exact h.more (by omega)
  split
  · exact h.more (by omega)
  split
  · exact ⟨h.hn, h.hk, h.hp, by dsimp only; omega, h.hl⟩
  split
  · exact h.more (by omega)
  split
  · exact ⟨h.hn, h.hk, h.hp, by dsimp only; omega, h.hl⟩
  split
  · rename_i h1 h2 h3 h4 h5 h6 h7 h8
    refine ⟨h.hn, h.hk, fun y hy => ?_, by simp only [List.length_append, List.length_cons, List.length_nil]; omega, hd⟩
    rcases List.mem_append.1 hy with hy | hy
    · exact h.hp y hy
    · obtain rfl : y = (x.n.toNat, x.bytes) := by simpa using hy
      dsimp only
      omega
  · exact ⟨by dsimp only; rw [hke]; exact h.hn, hkm _, (fun y hy => by cases hy), by simp only [List.length_nil]; omega, hd⟩
end Ds
def abs_ (kp : List Cell) (pp : List (Nat × Cell)) (off : Bool) (left rd wr fl : Int) : Ds := ⟨kp.map (·.2), pp.map (fun p => (p.1, p.2.2)), off, left, rd, wr, fl⟩
def Dk.abs (v : Dk) : Ds := abs_ v.kp v.pp v.off v.left v.rd v.wr v.fl
theorem abs_ke (f : Nat → Bool) (kp : List Cell) (pp : List (Nat × Cell)) : (keI f kp c0 pp pp.length).map (·.2) = keI f (kp.map (·.2)) [] (pp.map fun p => (p.1, p.2.2)) (pp.map fun p => (p.1, p.2.2)).length := by
  rw [List.length_map]
  exact (keI_map (fun x : Cell => x.2) f kp c0 pp pp.length).symm
theorem abs_now (kp : List Cell) (pp : List (Nat × Cell)) (a : Nat) : (nowI kp c0 pp a pp.length).2 = nowI (kp.map (·.2)) [] (pp.map fun p => (p.1, p.2.2)) a (pp.map fun p => (p.1, p.2.2)).length := by
  rw [List.length_map]
  exact (nowI_map (fun x : Cell => x.2) kp c0 pp a pp.length).symm
end Go.Proofs.YtjdimgigbgafbaaDoor
namespace Go.Proofs.YtjdimgigbgafbaaDoor
set_option maxRecDepth 100000
open Go.RowKit H
set_option linter.unusedVariables false
def fillI (L : List Int) (n i : Nat) : List Int := L.take i ++ List.replicate (n - i) 0
theorem fillI_set {L : List Int} {n i : Nat} (hl : L.length = n) (hi : i < n) : (fillI L n i).set i (L.getD i 0) = fillI L n (i + 1) := by
  unfold fillI
  rw [List.set_append_right _ _ (by simp; omega)]
  simp only [List.length_take]
  rw [show i - min i L.length = 0 by omega, show n - i = (n - (i + 1)) + 1 by omega, List.replicate_succ, List.set_cons_zero, List.take_add_one, List.getElem?_eq_getElem (by omega : i < L.length), List.append_assoc]
  simp [List.getD, show i < L.length by omega]
theorem fillI_all {L : List Int} {n : Nat} (hl : L.length = n) : fillI L n n = L := by
  unfold fillI
  rw [Nat.sub_self, List.take_of_length_le (by omega)]
  simp
theorem blkOf_at {zs : List Int} {i : Nat} (hi : i < 1024) : (blkOf zs).getD i 0 = if 0 < zs.length then zs.getD (i % zs.length) 0 else 0 := by
  unfold blkOf
  rw [List.getD, List.getElem?_map, List.getElem?_range hi]
  rfl
theorem block_ {w : World} (A : Option Addr) (n c : Nat) (zs : List Int) (hr : Reads w w.heap.size 1 A n (nums .u8 zs)) (hn : n ≤ 1000000) : Calls Tryd.prog 28 #[.slice A n c] w fun e w' =>
    ∃ A' c', e = .returned (.slice A' 1024 c') ∧ w'.ownsRow w.heap.size 5 1 (.slice A' 1024 c') 1024 (nums .u8 (blkOf zs)) ∧ Ext w w' := by
  have hzl : zs.length = n := by have := hr.1; simpa [nums] using this
  refine enter Tryd.func28 rfl (by kernel_rfl) ?_
  refine J.seq ?_
  refine J.region ?_
  refine L.va rfl (X.assign (by conv => lhs; whnf)) ?_
  refine L.nil ?_
  refine J.seq ?_
  refine J.region ?_
  refine L.make (q := 1024) (c := 1024) rfl rfl rfl Tryd.underlying39 el_5 (by omega) ?_
  intro b1 w1 hb1 hs1 hk1 he1
  rw [made_nums] at hk1
  have ho1 : w1.ownsRow w.heap.size 5 1 (.slice (some ⟨b1, 0, none⟩) 1024 1024) 1024 (nums .u8 (List.replicate 1024 0)) := by
    have := blk_own1 (q := 1024) hk1 (by omega : w.heap.size ≤ b1) (by decide) (by simp [nums])
    exact this
  refine L.va rfl (X.assign (by conv => lhs; whnf)) ?_
  refine L.nil ?_
  refine J.seq ?_
  refine J.seq ?_
  refine J.region ?_
  refine L.va rfl (X.assign (by conv => lhs; whnf)) ?_
  refine L.nil ?_
  refine J.block ?_
  refine J.loop (X := Nat) [4, 6, 7, 8, 9, 10, 11, 12, 13, 14, 15, 16, 17, 18, 19, 20, 21, 22] (fun i => [(4, .int .i64 (i : Int))]) (fun i w' => i ≤ 1024 ∧ w'.ownsRow w.heap.size 5 1 (.slice (some ⟨b1, 0, none⟩) 1024 1024) 1024 (nums .u8 (fillI (blkOf zs) 1024 i)) ∧ Ext w w') (fun i => 1024 - i) (0) (At1 (by first | rfl | exact at_int rfl (by omega) | exact at_slice rfl (by omega) | exact at_int rfl (by simp))) ?_ ?_
  · exact ⟨by omega, ho1, he1⟩
  · rintro i g w2 ⟨hi, ho2, he2⟩
    have hr2 := hr.ext he2
    refine J.seq ?_
    refine J.seq ?_
    refine J.region ?_
    refine L.va rfl (X.move (by conv => lhs; whnf)) ?_
    refine L.va rfl (X.lss rfl rfl) ?_
    refine L.nil ?_
    refine J.dec rfl (fun hlt => ?_) (fun hlt => ?_)
    · have hi4 : i < 1024 := by omega
      have hat := blkOf_at (zs := zs) hi4
      refine J.skip ?_
      refine J.seq ?_
      refine J.block ?_
      refine J.seq ?_
      refine J.region ?_
      refine L.va rfl (X.move (by conv => lhs; whnf)) ?_
      refine L.va rfl (X.len rfl Tryd.underlying39) ?_
      refine L.va rfl (X.gtr rfl rfl) ?_
      refine L.nil ?_
      refine J.dec rfl (fun hpos => ?_) (fun hpos => ?_)
      · have hmod : i % n < n := Nat.mod_lt _ (by omega)
        rw [if_pos (by omega), hzl] at hat
        refine J.region ?_
        refine L.va rfl (X.move (by conv => lhs; whnf)) ?_
        refine L.va rfl (X.move (by conv => lhs; whnf)) ?_
        refine L.va rfl (X.move (by conv => lhs; whnf)) ?_
        refine L.va rfl (X.move (by conv => lhs; whnf)) ?_
        refine L.va rfl (X.move (by conv => lhs; whnf)) ?_
        refine L.va rfl (X.len rfl Tryd.underlying39) ?_
        refine L.va rfl (X.rem rfl rfl (by omega)) ?_
        refine L.va rfl (X.index1n (j := i % n) rfl rfl Tryd.underlying39 sz_5 (hr2.some_ (by omega)) (by omega)) ?_
        refine L.va rfl (X.load rfl sc_5 (Ld.num hr2 hmod)) ?_
        refine L.va rfl ((by first | exact X.index1n rfl rfl Tryd.underlying39 sz_5 (by first | exact Option.some_ne_none _ ) (by omega) | exact X.index1 rfl rfl Tryd.underlying39 sz_5 (by first | exact Option.some_ne_none _ ) (by omega))) ?_
        refine L.storeON rfl rfl (by conv => lhs; whnf) sz_5 (ho2) (by omega) ?_
        intro w3 ho3 hg3 hb3 hs3
        rw [← hat, fillI_set (blkOf_length _) hi4] at ho3
        refine L.nil ?_
        refine J.region ?_
        refine L.va rfl (X.move (by conv => lhs; whnf)) ?_
        refine L.va rfl (X.add rfl rfl (by omega)) ?_
        refine L.va rfl (X.assign (by conv => lhs; whnf)) ?_
        refine L.nil ?_
        refine ⟨i + 1, At1 (by first | rfl | exact at_int rfl (by omega) | exact at_slice rfl (by omega) | exact at_int rfl (by simp)), (by (iterate 18 refine Agr.lk rfl ?_); exact Agr.lk rfl (Agr.hav rfl Agr.rfl')), ?_⟩
        exact ⟨⟨by omega, ho3, he2.low hb3 (Nat.le_refl _)⟩, by omega⟩
      · rw [if_neg (by omega)] at hat
        have e : fillI (blkOf zs) 1024 (i + 1) = fillI (blkOf zs) 1024 i := by
          rw [← fillI_set (blkOf_length _) hi4, hat]
          unfold fillI
          rw [List.set_append_right _ _ (by simp; omega)]
          simp only [List.length_take, blkOf_length]
          rw [show i - min i 1024 = 0 by omega, show 1024 - i = (1024 - (i + 1)) + 1 by omega, List.replicate_succ, List.set_cons_zero]
        refine J.skip ?_
        refine J.region ?_
        refine L.va rfl (X.move (by conv => lhs; whnf)) ?_
        refine L.va rfl (X.add rfl rfl (by omega)) ?_
        refine L.va rfl (X.assign (by conv => lhs; whnf)) ?_
        refine L.nil ?_
        refine ⟨i + 1, At1 (by first | rfl | exact at_int rfl (by omega) | exact at_slice rfl (by omega) | exact at_int rfl (by simp)), (by (iterate 8 refine Agr.lk rfl ?_); exact Agr.lk rfl (Agr.hav rfl Agr.rfl')), ?_⟩
        exact ⟨⟨by omega, by rw [e]; exact ho2, he2⟩, by omega⟩
    · obtain rfl : i = 1024 := by omega
      rw [fillI_all (blkOf_length _)] at ho2
      refine J.exit ?_
      refine J.seq ?_
      refine J.region ?_
      refine L.va rfl (X.move (by conv => lhs; whnf)) ?_
      refine L.va rfl (X.assign (by conv => lhs; whnf)) ?_
      refine L.nil ?_
      refine J.ret ?_
      refine fin1 ?_
      exact ⟨_, _, rfl, ho2, he2⟩
structure Dm where
  (kind n : Int) (dA : Option Addr) (dn dc : Nat) (odd : Bool) (kA : Option Addr) (kn kc : Nat) (data : List Int) (keep : List Bool)
abbrev Dm.vals (x : Dm) : List Value := [.int .i64 x.kind, .int .i64 x.n, .slice x.dA x.dn x.dc, .bool x.odd, .slice x.kA x.kn x.kc]
abbrev Dm.v (x : Dm) : Value := .agg x.vals.toArray
def Dm.dd (x : Dm) : Dd := ⟨x.kind, x.n, x.data, x.odd, x.keep⟩
structure Dm.At (x : Dm) (N : Nat) (w : World) : Prop where
  hd : Reads w N 1 x.dA x.dn (nums .u8 x.data)
  hk : Reads w N 1 x.kA x.kn (x.keep.map Value.bool)
  hb : ∀ z ∈ x.data, 0 ≤ z ∧ z < 256
  hn : -9223372036854775808 ≤ x.n ∧ x.n ≤ 9223372036854775807
  hl : x.dn ≤ maxLen ∧ x.kn ≤ maxLen
theorem Dm.At.low {x : Dm} {N : Nat} {w w' : World} (h : x.At N w) (hb : Below N w w') : x.At N w' := ⟨h.hd.low hb (Nat.le_refl _), h.hk.low hb (Nat.le_refl _), h.hb, h.hn, h.hl⟩
theorem Dm.At.len {x : Dm} {N : Nat} {w : World} (h : x.At N w) : x.data.length = x.dn := by have := h.hd.1; simpa [nums] using this
def RD (N : Nat) (w : World) (x : Value) (zs : List Int) : Prop := Dat w x zs ∨ ∃ A c, x = .slice A 1024 c ∧ Reads w N 1 A 1024 (nums .u8 zs)
theorem RD.slice {N : Nat} {w : World} {x : Value} {zs : List Int} (h : RD N w x zs) (hN : N ≤ w.heap.size) : ∃ A c, x = .slice A 1024 c ∧ Reads w w.heap.size 1 A 1024 (nums .u8 zs) := by
  rcases h with h | ⟨A, c, rfl, h⟩
  · exact h.slice
  · exact ⟨A, c, rfl, h.more hN⟩
theorem RD.one {N : Nat} {w : World} {x : Value} {zs : List Int} (h : RD N w x zs) : x.oneCell' = true := by
  rcases h with h | ⟨A, c, rfl, h⟩
  · exact h.one
  · rfl
theorem RD.len {N : Nat} {w : World} {x : Value} {zs : List Int} (h : RD N w x zs) : zs.length = 1024 := by
  rcases h with h | ⟨A, c, rfl, h⟩
  · exact h.len
  · have := h.1
    simpa [nums] using this
theorem RD.ext {N : Nat} {w w' : World} {x : Value} {zs : List Int} (h : RD N w x zs) (he : Ext w w') (hN : N ≤ w.heap.size) : RD N w' x zs := by
  rcases h with h | ⟨A, c, rfl, h⟩
  · exact .inl (h.ext he)
  · exact .inr ⟨A, c, rfl, h.low (Below.mono he hN) (Nat.le_refl _)⟩
theorem RD.kq {N N' : Nat} {v : Dk} {C : Nat → Prop} {w w' : World} {x : Value} {zs : List Int} (h : RD N w x zs) (hv : v.At N' C w) (k : Kq v.kb v.d C w w') (hN : N ≤ N') : RD N w' x zs := by
  rcases h with h | ⟨A, c, rfl, h⟩
  · exact .inl (h.kq hv k)
  · exact .inr ⟨A, c, rfl, h.low (Below.mono (hv.below k) hN) (Nat.le_refl _)⟩
def Cap (x : Value) : Prop := ∃ A n c, x = .slice A n c ∧ n ≤ c ∧ c ≤ maxLen
def Fsh (N : Nat) (x : Value) : Prop := (∀ g, sblk x = some g → N ≤ g) ∧ Cap x
theorem Dm.At.bytesF {x : Dm} {N : Nat} {w : World} (h : x.At N w) (hN : N ≤ w.heap.size) (hd : x.dn ≤ 1000000) : Calls Tryd.prog 52 #[x.v] w fun e w' =>
    ∃ A c, e = .returned (.slice A x.dd.bytes.length c) ∧ Reads w' w'.heap.size 1 A x.dd.bytes.length (nums .u8 x.dd.bytes) ∧ (x.dd.bytes.length = 1024 → RD N w' (.slice A 1024 c) x.dd.bytes) ∧ Ext w w' ∧ (x.odd = false → Fsh w.heap.size (.slice A x.dd.bytes.length c)) ∧ (x.odd = false → x.dd.bytes.length = 1024 → Dat w' (.slice A 1024 c) x.dd.bytes) := by
  have hl := h.len
  refine enter Tryd.func52 rfl (by kernel_rfl) ?_
  refine J.seq ?_
  refine J.region ?_
  refine L.boxA (l := [_, _, _, _, _]) rfl rfl ?_
  intro b1 w1 hb1 hs1 hk1 he1
  refine L.va rfl (X.assign (by conv => lhs; whnf)) ?_
  refine L.nil ?_
  refine J.seq ?_
  refine J.seq ?_
  refine J.region ?_
  refine L.va rfl (X.fieldAddr rfl Tryd.underlying58 rfl sz_4 (by decide)) ?_
  refine L.va rfl (X.load rfl sc_4 (by first | exact Ld.blk hk1 rfl)) ?_
  refine L.nil ?_
  refine J.ite rfl (fun ho => ?_) (fun ho => ?_)
  · refine J.seq ?_
    refine J.region ?_
    refine L.va rfl (X.fieldAddr rfl Tryd.underlying58 rfl sz_39 (by decide)) ?_
    refine L.va rfl (X.load rfl sc_39 (by first | exact Ld.blk hk1 rfl)) ?_
    refine L.va rfl (X.assign (by conv => lhs; whnf)) ?_
    refine L.nil ?_
    refine J.ret ?_
    refine thn_ret <| ?_
    refine fin1 ?_
    have e : x.dd.bytes = x.data := by unfold Dd.bytes; rw [if_pos (by exact ho)]; rfl
    rw [e, hl]
    refine ⟨x.dA, x.dc, rfl, (h.hd.low (Below.mono he1 hN) (Nat.le_refl _)).more (by have := he1.le; omega), fun h1 => .inr ⟨_, _, rfl, ?_⟩, he1, (fun h => by rw [ho] at h; cases h), fun h => by rw [ho] at h; cases h⟩
    have := h.hd.low (Below.mono he1 hN) (Nat.le_refl _)
    rw [h1] at this
    exact this
  · refine J.skip ?_
    refine J.seq ?_
    refine J.region ?_
    refine L.va rfl (X.fieldAddr rfl Tryd.underlying58 rfl sz_39 (by decide)) ?_
    refine L.va rfl (X.load rfl sc_39 (by first | exact Ld.blk hk1 rfl)) ?_
    refine L.call rfl en_28 rfl (block_ x.dA x.dn x.dc x.data ((h.hd.low (Below.mono he1 hN) (Nat.le_refl _)).more (by have := he1.le; omega)) hd) ?_
    rintro e w2 ⟨A, c, rfl, ho2, he2⟩
    refine ⟨_, rfl, ?_⟩
    refine L.va rfl (X.assign (by conv => lhs; whnf)) ?_
    refine L.nil ?_
    refine J.ret ?_
    refine fin1 ?_
    have e : x.dd.bytes = blkOf x.data := by unfold Dd.bytes; rw [if_neg (show ¬ x.dd.odd = true from (by rw [show x.dd.odd = x.odd from rfl, ho]; decide))]; rfl
    rw [e, blkOf_length]
    exact ⟨A, c, rfl, Reads.of_own ho2, fun _ => .inl (Dat.of_own ho2), he1.trans he2, fun _ => ⟨fun g hg => Nat.le_trans he1.le (own_isT ho2 hg).2, A, _, c, rfl, own_bd ho2⟩, fun _ _ => Dat.of_own ho2⟩
theorem Dm.bytesG {x : Dm} {M N : Nat} {w : World} (h : x.At M w) (hM : M ≤ w.heap.size) (ho : x.odd = true → x.At N w) (hN : N ≤ w.heap.size) (hd : x.dn ≤ 1000000) : Calls Tryd.prog 52 #[x.v] w fun e w' =>
    ∃ A c, e = .returned (.slice A x.dd.bytes.length c) ∧ Reads w' w'.heap.size 1 A x.dd.bytes.length (nums .u8 x.dd.bytes) ∧ (x.dd.bytes.length = 1024 → RD N w' (.slice A 1024 c) x.dd.bytes) ∧ Ext w w' ∧ (x.odd = false → Fsh w.heap.size (.slice A x.dd.bytes.length c)) := by
  rcases Bool.eq_false_or_eq_true x.odd with hb | hb
  · exact ((ho hb).bytesF hN hd).mono fun e w' ⟨A, c, e1, h1, h2, h3, h4, _⟩ => ⟨A, c, e1, h1, h2, h3, h4⟩
  · exact (h.bytesF hM hd).mono fun e w' ⟨A, c, e1, h1, _, h3, h4, h5⟩ => ⟨A, c, e1, h1, fun hl => .inl (h5 hb hl), h3, h4⟩
theorem Dm.At.bytes_ {x : Dm} {N : Nat} {w : World} (h : x.At N w) (hN : N ≤ w.heap.size) (hd : x.dn ≤ 1000000) : Calls Tryd.prog 52 #[x.v] w fun e w' =>
    ∃ A c, e = .returned (.slice A x.dd.bytes.length c) ∧ Reads w' w'.heap.size 1 A x.dd.bytes.length (nums .u8 x.dd.bytes) ∧ (x.dd.bytes.length = 1024 → RD N w' (.slice A 1024 c) x.dd.bytes) ∧ Ext w w' := (h.bytesF hN hd).mono fun _ _ ⟨A, c, e, h1, h2, h3, _⟩ => ⟨A, c, e, h1, h2, h3⟩
end Go.Proofs.YtjdimgigbgafbaaDoor
namespace Go.Proofs.YtjdimgigbgafbaaDoor
set_option maxRecDepth 100000
open Go.RowKit H
set_option linter.unusedVariables false
structure Rk where
  (kA : Option Addr) (kc : Nat) (pA : Option Addr) (pc : Nat) (kp : List Cell) (pp : List (Nat × Cell)) (off : Bool) (left rd wr fl : Int)
namespace Rk
abbrev K (r : Rk) : Value := .slice r.kA r.kp.length r.kc
abbrev P (r : Rk) : Value := .slice r.pA r.pp.length r.pc
abbrev vals (r : Rk) : List Value := [r.K, r.P, .bool r.off, .int .i64 r.left, .int .i64 r.rd, .int .i64 r.wr, .int .i64 r.fl]
abbrev v (r : Rk) : Value := .agg r.vals.toArray
def abs (r : Rk) : Ds := abs_ r.kp r.pp r.off r.left r.rd r.wr r.fl
structure At (r : Rk) (N : Nat) (w : World) : Prop where
  hk : w.ownsRow N 39 1 r.K r.kp.length (r.kp.map (·.1))
  hp : w.ownsRow N 110 2 r.P r.pp.length (pcs r.pp)
  kd : ∀ x ∈ r.kp, RD N w x.1 x.2
  pd : ∀ x ∈ r.pp, x.1 < r.kp.length ∧ RD N w x.2.1 x.2.2
  h1 : r.kp.length ≤ 8192
  hN : N ≤ w.heap.size
def Cl (r : Rk) (x : Value) : Prop := (∃ y ∈ r.kp, y.1 = x) ∨ ∃ y ∈ r.pp, y.2.1 = x
def CF (r' r : Rk) (w : World) : Prop := ∀ x, r'.Cl x → r.Cl x ∨ Fsh w.heap.size x
theorem CF.same {r r' : Rk} {w : World} (h1 : r'.kp = r.kp) (h2 : r'.pp = r.pp) : CF r' r w := fun x hx => .inl (by unfold Cl at *; rwa [h1, h2] at hx)
theorem CF.ke {r r' : Rk} {w : World} (f : Nat → Bool) (h1 : r'.kp = keI f r.kp c0 r.pp r.pp.length) (h2 : r'.pp = []) : CF r' r w := by
  intro x hx
  refine .inl ?_
  unfold Cl at *
  rw [h1, h2] at hx
  rcases hx with ⟨y, hy, rfl⟩ | ⟨y, hy, _⟩
  · rcases keI_in hy with h | ⟨z, hz, rfl⟩
    · exact .inl ⟨y, h, rfl⟩
    · exact .inr ⟨z, hz, rfl⟩
  · cases hy
theorem CF.push {r r' : Rk} {w : World} {i : Nat} {x : Value} {zs : List Int} (hx : Fsh w.heap.size x) (h1 : r'.kp = r.kp) (h2 : r'.pp = r.pp ++ [(i, (x, zs))]) : CF r' r w := by
  intro u hu
  unfold Cl at *
  rw [h1, h2] at hu
  rcases hu with h | ⟨y, hy, rfl⟩
  · exact .inl (.inl h)
  · rcases List.mem_append.1 hy with h | h
    · exact .inl (.inr ⟨y, h, rfl⟩)
    · obtain rfl : y = (i, (x, zs)) := by simpa using h
      exact .inr hx
def Fr (r' r : Rk) (w : World) : Prop := ∀ g, r'.K.ownBlock = some g → r.K.ownBlock = some g ∨ w.heap.size ≤ g
variable {r : Rk} {N : Nat} {w w' : World}
theorem Fr.refl (r : Rk) (w : World) : Fr r r w := fun g hg => .inl hg
theorem At.ext (h : r.At N w) (he : Ext w w') : r.At N w' :=
  ⟨h.hk.ext he, h.hp.ext he, fun x hx => (h.kd x hx).ext he h.hN, fun x hx => ⟨(h.pd x hx).1, (h.pd x hx).2.ext he h.hN⟩, h.h1, Nat.le_trans h.hN he.le⟩
theorem own_kq {v : Dk} {N' e size n : Nat} {C : Nat → Prop} {x : Value} {xs : List Value} (h : w.ownsRow N e size x n xs) (k : Kq v.kb v.d C w w') (h1 : x.ownBlock ≠ some v.kb) (h2 : x.ownBlock ≠ some v.d) (h3 : e ≠ 107) : w'.ownsRow N e size x n xs := by
  refine ⟨h.1, ?_⟩
  rcases h.2 with h | ⟨b, cap, cur, rfl, hb, hh, h4⟩
  · exact .inl h
  · refine .inr ⟨b, cap, cur, rfl, hb, ?_, h4⟩
    exact k.same (t := 0) hh (fun e => h1 (by rw [← e]; rfl)) (fun e => h2 (by rw [← e]; rfl)) (fun ht => absurd ((show IsT w b _ from ⟨cur, hh⟩).fun_ ht) h3)
theorem At.kq {v : Dk} {N' : Nat} {C : Nat → Prop} (h : r.At N w) (hv : v.At N' C w) (k : Kq v.kb v.d C w w') (hN : N ≤ N') (h1 : r.K.ownBlock ≠ some v.kb) : r.At N w' :=
  ⟨own_kq (N' := N') h.hk k h1 (own_blk_ne h.hk hv.hb (by decide)) (by decide), own_kq (N' := N') h.hp k (fun e => absurd ((own_isT h.hp e).1.fun_ hv.kT.1) (by decide)) (own_blk_ne h.hp hv.hb (by decide)) (by decide),
   fun x hx => (h.kd x hx).kq hv k hN, fun x hx => ⟨(h.pd x hx).1, (h.pd x hx).2.kq hv k hN⟩, h.h1, Nat.le_trans h.hN k.size⟩
theorem At.kRd (h : r.At N w) : Reads w w.heap.size 1 r.kA r.kp.length (r.kp.map (·.1)) := Reads.of_own h.hk
theorem At.pRd (h : r.At N w) : Reads w w.heap.size 2 r.pA r.pp.length (pcs r.pp) := Reads.of_own h.hp
theorem At.kLd (h : r.At N w) {i : Nat} (hi : i < r.kp.length) : Ld w (H.pA r.kA i) (r.kp.getD i c0).1 := by
  have h1 := Ld.rd h.kRd (j := i) (by omega)
  have : (r.kp.map (·.1)).getD i undef = (r.kp.getD i c0).1 := by simp [List.getD, hi]
  rwa [this] at h1
theorem At.pLdA (h : r.At N w) {i : Nat} (hi : i < r.pp.length) : Ld w (H.pA r.pA (i * 2)) (.int .i64 ((r.pp.getD i p0).1 : Int)) := by
  have h1 := Ld.rd h.pRd (j := i * 2) (by omega)
  have h2 := Dk.pcs_row hi 0 _ rfl
  rw [Nat.add_zero] at h2
  rw [List.getD, h2] at h1
  exact h1
theorem At.pLdB (h : r.At N w) {i : Nat} (hi : i < r.pp.length) : Ld w (H.pA r.pA (i * 2 + 1)) (r.pp.getD i p0).2.1 := by
  have h1 := Ld.rd h.pRd (j := i * 2 + 1) (by omega)
  have h2 := Dk.pcs_row hi 1 _ rfl
  rw [List.getD, h2] at h1
  exact h1
theorem At.kDat (h : r.At N w) {i : Nat} (hi : i < r.kp.length) : RD N w (r.kp.getD i c0).1 (r.kp.getD i c0).2 := by
  have : r.kp.getD i c0 = r.kp[i] := by simp [List.getD, hi]
  rw [this]
  exact h.kd _ (List.getElem_mem hi)
theorem At.pDat (h : r.At N w) {i : Nat} (hi : i < r.pp.length) : (r.pp.getD i p0).1 < r.kp.length ∧ RD N w (r.pp.getD i p0).2.1 (r.pp.getD i p0).2.2 := by
  have : r.pp.getD i p0 = r.pp[i] := by simp [List.getD, hi]
  rw [this]
  exact h.pd _ (List.getElem_mem hi)
theorem At.nowDat (h : r.At N w) {i : Nat} (hi : i < r.kp.length) (k : Nat) (hk : k ≤ r.pp.length) : RD N w (nowI r.kp c0 r.pp i k).1 (nowI r.kp c0 r.pp i k).2 :=
  nowI_mem (p := fun x : Cell => RD N w x.1 x.2) hi h.kd (fun x hx => (h.pd x hx).2) k hk
theorem At.kone (h : r.At N w) : ((r.kp.map (·.1)).all (·.oneCell')) = true := by
  rw [List.all_eq_true]
  intro y hy
  obtain ⟨x, hx, rfl⟩ := List.mem_map.1 hy
  exact (h.kd x hx).one
theorem At.pone (h : r.At N w) : ((pcs r.pp).all (·.oneCell')) = true := by
  rw [List.all_eq_true]
  intro y hy
  obtain ⟨x, hx, hy⟩ := List.mem_flatMap.1 hy
  simp only [List.mem_cons, List.not_mem_nil, or_false] at hy
  rcases hy with rfl | rfl
  · rfl
  · exact (h.pd x hx).2.one
theorem At.with_ (h : r.At N w) (a : Int) (i : Nat) (ha : a = (i : Int)) (hi : i < r.kp.length) (x : Cell) (hx : RD N w x.1 x.2) : Calls Tryd.prog 50 #[r.v, .int .i64 a, x.1] w fun e w' =>
    ∃ kA kc, e = .returned (Rk.v { r with kA := kA, kc := kc, kp := r.kp.set i x }) ∧ At { r with kA := kA, kc := kc, kp := r.kp.set i x } N w' ∧ Ext w w' ∧ ∀ g, Value.ownBlock (.slice kA r.kp.length kc) = some g → w.heap.size ≤ g := by
  subst ha
  obtain ⟨x1, zs⟩ := x
  obtain ⟨A0, cx, e0, _⟩ := hx.slice h.hN
  dsimp only at e0
  subst e0
  refine enter Tryd.func50 rfl (by kernel_rfl) ?_
  refine J.seq ?_
  refine J.region ?_
  refine L.boxA (l := [_, _, _, _, _, _, _]) rfl rfl ?_
  intro b1 w1 hb1 hs1 hk1 he1
  refine L.alloc rfl zr_33 ?_
  intro b2 w2 hb2 hs2 hk2 he2
  refine L.nil ?_
  refine J.seq ?_
  refine J.region ?_
  refine L.bslice (vs := []) rfl Evs.nil rfl rfl rfl rfl Tryd.underlying30 sz_39 zr_39 (by decide) ?_
  intro b3 w3 hb3 hs3 hk3 he3
  have he03 := (he1.trans he2).trans he3
  have H3 := h.ext he03
  replace hk1 := (hk1.ext he2).ext he3
  replace hk2 := hk2.ext he3
  have h1k := h.kone
  have hh1 := h.h1
  refine L.va rfl (X.fieldAddr rfl Tryd.underlying33 rfl sz_30 (by decide)) ?_
  refine L.va rfl (X.load rfl sc_30 (by first | exact Ld.blk hk1 rfl)) ?_
  have ho3 : w3.ownsRow w.heap.size 39 1 (.slice (some ⟨b3, 0, none⟩) 0 0) 0 [] := blk_own1 (q := 0) hk3 (by omega : w.heap.size ≤ b3) (by decide) rfl
  refine L.appendV (q := r.kp.length) (ys := r.kp.map (·.1)) rfl rfl rfl Tryd.underlying30 el_39 (ho3) (H3.kRd) (by first | rfl | exact strs_ones _ | assumption) (by omega) (by simp) (by unfold maxLen; omega) (by omega) ?_
  intro A4 c4 w4 ho4 hg4 hb4 hor4
  have hne1 : some b1 ≠ some b3 := by intro e; injection e with e; omega
  have hne2 : some b2 ≠ some b3 := by intro e; injection e with e; omega
  replace hk1 := hk1.grown hg4 hne1
  replace hk2 := hk2.grown hg4 hne2
  refine L.va rfl (X.fieldAddr rfl Tryd.underlying33 rfl sz_30 (by decide)) ?_
  refine L.store rfl rfl (by conv => lhs; whnf) rfl sz_30 (hk1) (by first | decide | exact Nat.le_of_ble_eq_true rfl) ?_
  intro w5 hk5 hg5 hs5
  have ho5 := ho4.kept hg5 (.inr (own_blk_ne ho4 hk1 (by decide)))
  refine L.nil ?_
  refine J.seq ?_
  refine J.region ?_
  refine L.va rfl (X.fieldAddr rfl Tryd.underlying33 rfl sz_30 (by decide)) ?_
  refine L.va rfl (X.load rfl sc_30 (by first | exact Ld.blk hk5 rfl | exact Ld.own ho5 (by omega))) ?_
  refine L.va rfl (X.move (by conv => lhs; whnf)) ?_
  refine L.va rfl (X.move (by conv => lhs; whnf)) ?_
  refine L.va rfl ((by first | exact X.index1n rfl rfl Tryd.underlying30 sz_39 (by first | exact Option.some_ne_none _ | exact own_ne ho5 (by omega)) (by omega) | exact X.index1 rfl rfl Tryd.underlying30 sz_39 (by first | exact Option.some_ne_none _ | exact own_ne ho5 (by omega)) (by omega))) ?_
  refine L.storeO rfl rfl (by conv => lhs; whnf) rfl sz_39 (ho5) (by first | omega | (simp; omega)) ?_
  intro w6 ho6 hg6 hb6 hs6
  rw [show (r.kp.map (·.1)).set i (Value.slice A0 1024 cx) = (r.kp.set i (Value.slice A0 1024 cx, zs)).map (·.1) from by rw [List.map_set]] at ho6
  have hk6 := hk5.grown hg6 (fun e => own_blk_ne ho5 hk5 (by decide) e.symm)
  have hk26 := (hk2.grown hg5 (by intro e; injection e with e; omega)).grown hg6 (fun e => own_blk_ne ho5 (hk2.grown hg5 (by intro e; injection e with e; omega)) (by decide) e.symm)
  refine L.nil ?_
  refine J.seq ?_
  refine J.region ?_
  refine L.va rfl ((by first | exact X.loadAgg rfl (range_l hk6) Tryd.underlying33 rfl (by kernel_rfl) | exact X.loadAgg rfl (range_blk hk6) Tryd.underlying33 rfl (by kernel_rfl))) ?_
  refine L.storeAgg (vs := [_, _, _, _, _, _, _]) rfl rfl rfl rfl sz_33 (hk26) rfl ?_
  intro w7 hk7 hg7 hs7
  refine L.nil ?_
  refine J.ret ?_
  have hlen : (r.kp.set i (Value.slice A0 1024 cx, zs)).length = r.kp.length := List.length_set
  have he4 : Ext w w4 := he03.grw hg4 (fun g hg => (own_isT ho3 hg).2)
  have he5 : Ext w w5 := he4.grw hg5 (by intro g hg; injection hg with hg; omega)
  have he6 : Ext w w6 := he5.grw hg6 (fun g hg => (own_isT ho5 hg).2)
  have he7 : Ext w w7 := he6.grw hg7 (by intro g hg; injection hg with hg; omega)
  have ho7 := ho6.kept hg7 (.inr (own_blk_ne ho6 hk26 (by decide)))
  have H7 := h.ext he7
  refine finC rfl (run_cell hk7 Tryd.underlying33 rfl (by kernel_rfl)) ?_
  refine ⟨A4, c4, ?_, ⟨?_, H7.hp, fun y hy => ?_, fun y hy => ?_, ?_, H7.hN⟩, he7, fun g hg => (ho7.lt g hg).1⟩
  · unfold Rk.v Rk.vals Rk.K
    dsimp only
    rw [hlen]
  · unfold Rk.K
    dsimp only
    rw [hlen]
    exact ho7.mono h.hN
  · rcases List.mem_or_eq_of_mem_set hy with hm | hm
    · exact H7.kd y hm
    · rw [hm]; exact hx.ext he7 h.hN
  · dsimp only
    rw [hlen]
    exact H7.pd y hy
  · dsimp only
    rw [hlen]
    exact h.h1
theorem At.now_ (h : r.At N w) (a : Int) (i : Nat) (ha : a = (i : Int)) (hi : i < r.kp.length) (hm : r.pp.length ≤ 1000000) : Calls Tryd.prog 51 #[r.v, .int .i64 a] w fun e w' =>
    e = .returned (nowI r.kp c0 r.pp i r.pp.length).1 ∧ Ext w w' := by
  subst ha
  refine enter Tryd.func51 rfl (by kernel_rfl) ?_
  refine J.seq ?_
  refine J.region ?_
  refine L.boxA (l := [_, _, _, _, _, _, _]) rfl rfl ?_
  intro b1 w1 hb1 hs1 hk1 he1
  have H1 := h.ext he1
  have hR1 := H1.kRd
  have hl1 := H1.kLd hi
  refine L.va rfl (X.assign (by conv => lhs; whnf)) ?_
  refine L.nil ?_
  refine J.seq ?_
  refine J.region ?_
  refine L.va rfl (X.fieldAddr rfl Tryd.underlying33 rfl sz_30 (by decide)) ?_
  refine L.va rfl (X.load rfl sc_30 (by first | exact Ld.blk hk1 rfl | exact Ld.rd hR1 (by omega))) ?_
  refine L.va rfl (X.move (by conv => lhs; whnf)) ?_
  refine L.va rfl ((by first | exact X.index1n rfl rfl Tryd.underlying30 sz_39 (by first | exact Option.some_ne_none _ | exact hR1.some_ (by omega)) (by omega) | exact X.index1 rfl rfl Tryd.underlying30 sz_39 (by first | exact Option.some_ne_none _ | exact hR1.some_ (by omega)) (by omega))) ?_
  refine L.va rfl (X.load rfl sc_39 hl1) ?_
  refine L.va rfl (X.assign (by conv => lhs; whnf)) ?_
  refine L.nil ?_
  refine J.seq ?_
  refine J.seq ?_
  refine J.region ?_
  refine L.va rfl (X.assign (by conv => lhs; whnf)) ?_
  refine L.nil ?_
  refine J.block ?_
  refine J.loop (X := Nat) [5, 6, 12, 13, 14, 15, 16, 17, 18, 19, 20, 21, 22, 23, 24, 25, 26, 27, 28, 29, 30, 31, 32] (fun j => [(6, .int .i64 (j : Int)), (5, (nowI r.kp c0 r.pp i j).1)]) (fun j w' => j ≤ r.pp.length ∧ w' = w1) (fun j => r.pp.length - j) (0) (At2 (by first | rfl | exact at_int rfl (by omega) | exact at_slice rfl (by omega) | exact at_int rfl (by simp)) (by first | rfl | exact at_int rfl (by omega) | exact at_slice rfl (by omega) | exact at_int rfl (by simp))) ?_ ?_
  · exact ⟨Nat.zero_le _, rfl⟩
  · rintro j g w2 ⟨hj, rfl⟩
    refine J.seq ?_
    refine J.seq ?_
    refine J.region ?_
    refine L.va rfl (X.move (by conv => lhs; whnf)) ?_
    refine L.va rfl (X.fieldAddr rfl Tryd.underlying33 rfl sz_31 (by decide)) ?_
    refine L.va rfl (X.load rfl sc_31 (by first | exact Ld.blk hk1 rfl | exact Ld.rd hR1 (by omega))) ?_
    refine L.va rfl (X.len rfl Tryd.underlying31) ?_
    refine L.va rfl (X.lss rfl rfl) ?_
    refine L.nil ?_
    refine J.dec rfl (fun hlt => ?_) (fun hlt => ?_)
    · have hj4 : j < r.pp.length := by omega
      have hpA := H1.pRd.some_ (by omega : 0 < r.pp.length)
      have hl2 := H1.pLdA hj4
      have hl3 := H1.pLdB hj4
      have hn : nowI r.kp c0 r.pp i (j + 1) = if (r.pp.getD j p0).1 = i then (r.pp.getD j p0).2 else nowI r.kp c0 r.pp i j := rfl
      refine J.skip ?_
      refine J.seq ?_
      refine J.block ?_
      refine J.seq ?_
      refine J.region ?_
      refine L.va rfl (X.fieldAddr rfl Tryd.underlying33 rfl sz_31 (by decide)) ?_
      refine L.va rfl (X.load rfl sc_31 (by first | exact Ld.blk hk1 rfl | exact Ld.rd hR1 (by omega) | exact hpA)) ?_
      refine L.va rfl (X.move (by conv => lhs; whnf)) ?_
      refine L.va rfl ((by first | exact X.indexAddrn rfl rfl Tryd.underlying31 sz_110 (by first | exact Option.some_ne_none _ | exact hR1.some_ (by omega) | exact hpA) (by omega) | exact X.indexAddr rfl rfl Tryd.underlying31 sz_110 (by first | exact Option.some_ne_none _ | exact hR1.some_ (by omega) | exact hpA) (by omega))) ?_
      refine L.va rfl (X.fieldP rfl Tryd.underlying110 rfl sz_3 (by decide) (by first | exact Option.some_ne_none _ | exact hR1.some_ (by omega) | exact hpA)) ?_
      refine L.va rfl (X.load rfl sc_3 hl2) ?_
      refine L.va rfl (X.move (by conv => lhs; whnf)) ?_
      refine L.va rfl (X.eql rfl rfl) ?_
      refine L.nil ?_
      refine J.dec rfl (fun heq => ?_) (fun heq => ?_)
      · have heq' : (r.pp.getD j p0).1 = i := by have h7 : ((r.pp.getD j p0).1 : Int) = (i : Int) := heq; omega
        rw [if_pos heq'] at hn
        refine J.region ?_
        refine L.va rfl (X.fieldAddr rfl Tryd.underlying33 rfl sz_31 (by decide)) ?_
        refine L.va rfl (X.load rfl sc_31 (by first | exact Ld.blk hk1 rfl | exact Ld.rd hR1 (by omega) | exact hpA)) ?_
        refine L.va rfl (X.move (by conv => lhs; whnf)) ?_
        refine L.va rfl ((by first | exact X.indexAddrn rfl rfl Tryd.underlying31 sz_110 (by first | exact Option.some_ne_none _ | exact hR1.some_ (by omega) | exact hpA) (by omega) | exact X.indexAddr rfl rfl Tryd.underlying31 sz_110 (by first | exact Option.some_ne_none _ | exact hR1.some_ (by omega) | exact hpA) (by omega))) ?_
        refine L.va rfl (X.fieldP rfl Tryd.underlying110 rfl sz_39 (by decide) (by first | exact Option.some_ne_none _ | exact hR1.some_ (by omega) | exact hpA)) ?_
        refine L.va rfl (X.load rfl sc_39 hl3) ?_
        refine L.va rfl (X.assign (by conv => lhs; whnf)) ?_
        refine L.nil ?_
        refine J.region ?_
        refine L.va rfl (X.move (by conv => lhs; whnf)) ?_
        refine L.va rfl (X.add rfl rfl (by omega)) ?_
        refine L.va rfl (X.assign (by conv => lhs; whnf)) ?_
        refine L.nil ?_
        refine ⟨j + 1, At2 (at_int rfl (by omega)) ((show _ = (nowI r.kp c0 r.pp i (j + 1)).1 from by rw [hn]; rfl)), (by (iterate 23 refine Agr.lk rfl ?_); exact Agr.lk rfl (Agr.hav rfl Agr.rfl')), ?_⟩
        exact ⟨⟨by omega, rfl⟩, by omega⟩
      · have heq' : ¬ (r.pp.getD j p0).1 = i := by
          intro h7
          apply heq
          show ((r.pp.getD j p0).1 : Int) = (i : Int)
          omega
        rw [if_neg heq'] at hn
        refine J.skip ?_
        refine J.region ?_
        refine L.va rfl (X.move (by conv => lhs; whnf)) ?_
        refine L.va rfl (X.add rfl rfl (by omega)) ?_
        refine L.va rfl (X.assign (by conv => lhs; whnf)) ?_
        refine L.nil ?_
        refine ⟨j + 1, At2 (at_int rfl (by omega)) ((show _ = (nowI r.kp c0 r.pp i (j + 1)).1 from by rw [hn]; rfl)), (by (iterate 16 refine Agr.lk rfl ?_); exact Agr.lk rfl (Agr.hav rfl Agr.rfl')), ?_⟩
        exact ⟨⟨by omega, rfl⟩, by omega⟩
    · obtain rfl : j = r.pp.length := by omega
      refine J.exit ?_
      refine J.seq ?_
      refine J.region ?_
      refine L.va rfl (X.move (by conv => lhs; whnf)) ?_
      refine L.va rfl (X.assign (by conv => lhs; whnf)) ?_
      refine L.nil ?_
      refine J.ret ?_
      refine fin1 ?_
      exact ⟨rfl, he1⟩
theorem At.image_ (h : r.At N w) : Calls Tryd.prog 27 #[r.v] w fun e w' =>
    ∃ A c, e = .returned (.slice A (r.kp.length * 1024) c) ∧ w'.ownsRow w.heap.size 5 1 (.slice A (r.kp.length * 1024) c) (r.kp.length * 1024) (nums .u8 (r.kp.map (·.2)).flatten) ∧ Ext w w' := by
  have hh1 := h.h1
  have hdl : (r.kp.map (·.2)).length = r.kp.length := by simp
  refine enter Tryd.func27 rfl (by kernel_rfl) ?_
  refine J.seq ?_
  refine J.region ?_
  refine L.boxA (l := [_, _, _, _, _, _, _]) rfl rfl ?_
  intro b1 w1 hb1 hs1 hk1 he1
  refine L.va rfl (X.assign (by conv => lhs; whnf)) ?_
  refine L.nil ?_
  refine J.seq ?_
  refine J.region ?_
  refine L.va rfl (X.assign (by conv => lhs; whnf)) ?_
  refine L.nil ?_
  refine J.seq ?_
  refine J.seq ?_
  refine J.region ?_
  refine L.va rfl (X.assign (by conv => lhs; whnf)) ?_
  refine L.nil ?_
  refine J.block ?_
  refine J.loop (X := Nat × Option Addr × Nat) [3, 4, 5, 6, 7, 8, 9, 10, 11, 12, 13, 14, 15, 16, 17, 18] (fun x => [(4, .int .i64 (x.1 : Int)), (3, .slice x.2.1 (x.1 * 1024) x.2.2)]) (fun x w' => x.1 ≤ r.kp.length ∧ w'.ownsRow w.heap.size 5 1 (.slice x.2.1 (x.1 * 1024) x.2.2) (x.1 * 1024) (nums .u8 (((r.kp.map (·.2)).take x.1).flatten)) ∧ Blk w' b1 33 r.vals.toArray ∧ Ext w w') (fun x => r.kp.length - x.1) ((0, none, 0)) (At2 (by first | rfl | exact at_int rfl (by omega) | exact at_slice rfl (by omega) | exact at_int rfl (by simp)) (by first | rfl | exact at_int rfl (by omega) | exact at_slice rfl (by omega) | exact at_int rfl (by simp))) ?_ ?_
  · exact ⟨Nat.zero_le _, own_nilN _ _ _ _, hk1, he1⟩
  · rintro ⟨i, A, c⟩ g w2 ⟨hi, ho2, hk2, he2⟩
    dsimp only at hi ho2
    have q1 : ((i, A, c) : Nat × Option Addr × Nat).1 = i := rfl
    have hk2 : Blk w2 b1 33 #[r.K, r.P, .bool r.off, .int .i64 r.left, .int .i64 r.rd, .int .i64 r.wr, .int .i64 r.fl] := hk2
    have H2 := h.ext he2
    have hz2 := he2.le
    refine J.seq ?_
    refine J.seq ?_
    refine J.region ?_
    refine L.va rfl (X.move (by conv => lhs; whnf)) ?_
    refine L.va rfl (X.fieldAddr rfl Tryd.underlying33 rfl sz_30 (by decide)) ?_
    refine L.va rfl (X.load rfl sc_30 (by first | exact Ld.blk hk2 rfl)) ?_
    refine L.va rfl (X.len rfl Tryd.underlying30) ?_
    refine L.va rfl (X.lss rfl rfl) ?_
    refine L.nil ?_
    refine J.dec rfl (fun hlt => ?_) (fun hlt => ?_)
    · have hil : i < r.kp.length := by dsimp only at hlt; omega
      obtain ⟨A5, c5, e5, hr5⟩ := (H2.kDat hil).slice H2.hN
      have hl5 := H2.kLd hil
      rw [e5] at hl5
      have hR2 := H2.kRd
      have hn := flat_take (l := r.kp.map (·.2)) (i := i) (by omega)
      have hg : (r.kp.map (·.2)).getD i [] = (r.kp.getD i c0).2 := getD_map (g := fun x : Cell => x.2) (l := r.kp) (i := i) (z := c0)
      rw [hg] at hn
      refine J.skip ?_
      refine J.seq ?_
      refine J.block ?_
      refine J.region ?_
      refine L.va rfl (X.move (by conv => lhs; whnf)) ?_
      refine L.va rfl (X.fieldAddr rfl Tryd.underlying33 rfl sz_30 (by decide)) ?_
      refine L.va rfl (X.load rfl sc_30 (by first | exact Ld.blk hk2 rfl | exact Ld.rd hR2 (by omega))) ?_
      refine L.va rfl (X.move (by conv => lhs; whnf)) ?_
      refine L.va rfl ((by first | exact X.index1n rfl rfl Tryd.underlying30 sz_39 (by first | exact Option.some_ne_none _ | exact hR2.some_ (by omega)) (by omega) | exact X.index1 rfl rfl Tryd.underlying30 sz_39 (by first | exact Option.some_ne_none _ | exact hR2.some_ (by omega)) (by omega))) ?_
      refine L.va rfl (X.load rfl sc_39 hl5) ?_
      refine L.appendQ (q := (i + 1) * 1024) (ys := ((r.kp.map (·.2)).take i).flatten ++ (r.kp.getD i c0).2) rfl rfl rfl Tryd.underlying39 el_5 (ho2) (hr5) (by omega) (by simp) (by unfold maxLen; omega) (by omega) ?_
      intro A3 c3 w3 ho3 hg3 hb3 hor3
      rw [← hn] at ho3
      have hk3 := hk2.grown hg3 (fun e => own_blk_ne ho2 hk2 (by decide) e.symm)
      refine L.va rfl (X.assign (by conv => lhs; whnf)) ?_
      refine L.nil ?_
      refine J.region ?_
      refine L.va rfl (X.move (by conv => lhs; whnf)) ?_
      refine L.va rfl (X.add rfl rfl (by omega)) ?_
      refine L.va rfl (X.assign (by conv => lhs; whnf)) ?_
      refine L.nil ?_
      refine ⟨(i + 1, A3, c3), At2 (by first | rfl | exact at_int rfl (by omega) | exact at_slice rfl (by omega) | exact at_int rfl (by simp)) (by first | rfl | exact at_int rfl (by omega) | exact at_slice rfl (by omega) | exact at_int rfl (by simp)), (by (iterate 16 refine Agr.lk rfl ?_); exact Agr.lk rfl (Agr.hav rfl Agr.rfl')), ?_⟩
      exact ⟨⟨by dsimp only; omega, ho3, hk3, he2.low hb3 (Nat.le_refl _)⟩, by dsimp only; omega⟩
    · obtain rfl : i = r.kp.length := by dsimp only at hlt; omega
      rw [List.take_of_length_le (by omega)] at ho2
      refine J.exit ?_
      refine J.seq ?_
      refine J.region ?_
      refine L.va rfl (X.move (by conv => lhs; whnf)) ?_
      refine L.va rfl (X.assign (by conv => lhs; whnf)) ?_
      refine L.nil ?_
      refine J.ret ?_
      refine fin1 ?_
      exact ⟨A, c, rfl, ho2, he2⟩
end Rk
end Go.Proofs.YtjdimgigbgafbaaDoor
namespace Go.Proofs.YtjdimgigbgafbaaDoor
set_option maxRecDepth 100000
open Go.RowKit H
set_option linter.unusedVariables false
namespace Rk
variable {r : Rk} {N : Nat} {w w' : World}
def RDn (N : Nat) (w : World) (A : Option Addr) (n c : Nat) (zs : List Int) : Prop := (n = 0 ∧ zs = []) ∨ (n = 1024 ∧ RD N w (.slice A 1024 c) zs)
theorem RDn.reads {N n c : Nat} {w : World} {A : Option Addr} {zs : List Int} (h : RDn N w A n c zs) (hN : N ≤ w.heap.size) : Reads w w.heap.size 1 A n (nums .u8 zs) := by
  rcases h with ⟨rfl, rfl⟩ | ⟨rfl, h⟩
  · exact Reads.none_
  · obtain ⟨A', c', e, hr⟩ := h.slice hN
    injection e with e1 _ e3
    subst e1 e3
    exact hr
theorem RDn.ext {N n c : Nat} {w w' : World} {A : Option Addr} {zs : List Int} (h : RDn N w A n c zs) (he : Ext w w') (hN : N ≤ w.heap.size) : RDn N w' A n c zs := h.imp id fun ⟨h1, h2⟩ => ⟨h1, h2.ext he hN⟩
def DoR (r : Rk) (N : Nat) (x : Dd) (w : World) (e : Ending) (w' : World) : Prop :=
  ∃ (r' : Rk) (A : Option Addr) (n c : Nat), e = .returned (.tuple #[r'.v, .slice A n c, .int .i64 (r.abs.do_ x).2.2]) ∧ r'.At N w' ∧ r'.abs = (r.abs.do_ x).1 ∧ RDn N w' A n c (r.abs.do_ x).2.1 ∧ Ext w w' ∧ Fr r' r w
def DoC (r : Rk) (N : Nat) (x : Dd) (w : World) (e : Ending) (w' : World) : Prop :=
  ∃ (r' : Rk) (A : Option Addr) (n c : Nat), e = .returned (.tuple #[r'.v, .slice A n c, .int .i64 (r.abs.do_ x).2.2]) ∧ r'.At N w' ∧ r'.abs = (r.abs.do_ x).1 ∧ RDn N w' A n c (r.abs.do_ x).2.1 ∧ Ext w w' ∧ Fr r' r w ∧ (x.odd = false → CF r' r w) ∧ (n = 1024 → r.Cl (.slice A 1024 c))
theorem _root_.Go.Proofs.YtjdimgigbgafbaaDoor.RD.own {N base e sz n : Nat} {w w' : World} {x v : Value} {zs : List Int} {xs : List Value} (h : RD N w x zs) (ho : w.ownsRow base e sz v n xs) (hg : w.grownBy w' v.ownBlock) (hb : N ≤ base) (hN : N ≤ w.heap.size) (he : e ≠ 5) : RD N w' x zs := by
  rcases h with h | ⟨A, c, rfl, h⟩
  · exact .inl (h.grown hg (fun g hg' ht => he ((own_isT ho hg').1.fun_ ht)))
  · refine .inr ⟨A, c, rfl, h.low ⟨hg.os, hg.tape, hg.output, hg.size, fun g hgl => ?_⟩ (Nat.le_refl _)⟩
    refine hg.block g (by omega) (fun hh => ?_)
    have := (own_isT ho hh.symm).2
    omega
theorem _root_.Go.Proofs.YtjdimgigbgafbaaDoor.RD.blk {N g e : Nat} {w w' : World} {x : Value} {zs : List Int} {cs : Array Value} (h : RD N w x zs) (hb : Blk w g e cs) (hg : w.grownBy w' (some g)) (hNg : N ≤ g) (hN : N ≤ w.heap.size) (he : e ≠ 5) : RD N w' x zs := by
  rcases h with h | ⟨A, c, rfl, h⟩
  · exact .inl (h.grown hg (fun g' hg' ht => by injection hg' with hg'; subst hg'; exact he (hb.isT.fun_ ht)))
  · refine .inr ⟨A, c, rfl, h.low ⟨hg.os, hg.tape, hg.output, hg.size, fun g' hgl => ?_⟩ (Nat.le_refl _)⟩
    refine hg.block g' (by omega) (fun hh => ?_)
    injection hh with hh
    omega
theorem At.blk {g : Nat} {cs : Array Value} (h : r.At N w) (hb : Blk w g 33 cs) (hg : w.grownBy w' (some g)) (hNg : N ≤ g) : r.At N w' :=
  ⟨h.hk.kept hg (.inr (own_blk_ne h.hk hb (by decide))), h.hp.kept hg (.inr (own_blk_ne h.hp hb (by decide))), fun x hx => (h.kd x hx).blk hb hg hNg h.hN (by decide), fun x hx => ⟨(h.pd x hx).1, (h.pd x hx).2.blk hb hg hNg h.hN (by decide)⟩, h.h1, Nat.le_trans h.hN hg.size⟩
abbrev rf (r : Rk) (i : Nat) (kA : Option Addr) (kc : Nat) : Rk := { r with left := Dk.dec1 r.left, fl := r.fl + 1, kA := kA, kc := kc, kp := keI (fun _ => true) r.kp c0 r.pp i }
abbrev rc (r : Rk) (l : List Bool) (i : Nat) (kA : Option Addr) (kc : Nat) : Rk := { r with kA := kA, kc := kc, kp := keI (Dk.kpF l) r.kp c0 r.pp i }
theorem At.doC (h : r.At N w) {m : Nat} (hok : r.abs.Ok m) (hm : m ≤ 1000000) (x : Dm) {M : Nat} (hM : M ≤ w.heap.size) (hx : x.At M w) (hxo : x.odd = true → x.At N w) (hdn : x.dn ≤ 1000000) (hkn : x.kn ≤ 1000000) :
    Calls Tryd.prog 18 #[r.v, x.v] w fun e w' => DoC r N x.dd w e w' := by
  have hmm := hok.hm
  have hll := hok.hl
  have hnn := hx.hn
  have hh1 := h.h1
  have hN0 := h.hN
  have hmm1 : r.pp.length ≤ 1000000 := by
    have : r.abs.pend.length = r.pp.length := by simp [Rk.abs, abs_]
    omega
  have hrd : 0 ≤ r.rd ∧ r.rd ≤ 1000000 := by
    have := hmm.2.1
    have e : r.abs.rd = r.rd := rfl
    omega
  have hwr : 0 ≤ r.wr ∧ r.wr ≤ 1000000 := by
    have := hmm.2.2.1
    have e : r.abs.wr = r.wr := rfl
    omega
  have hfl : 0 ≤ r.fl ∧ r.fl ≤ 1000000 := by
    have := hmm.2.2.2
    have e : r.abs.fl = r.fl := rfl
    omega
  have hll : -1 ≤ r.left ∧ r.left ≤ 9223372036854775807 := hll
  have hkl : r.abs.kept.length = r.kp.length := by simp [Rk.abs, abs_]
  refine enter Tryd.func18 rfl (by kernel_rfl) ?_
  refine J.seq ?_
  refine J.region ?_
  refine L.boxA (l := [_, _, _, _, _, _, _]) rfl rfl ?_
  intro b2 w2 hb2 hs2 hk2 he2
  refine L.boxA (l := [_, _, _, _, _]) rfl rfl ?_
  intro b3 w3 hb3 hs3 hk3 he3
  refine L.alloc rfl zr_33 ?_
  intro b4 w4 hb4 hs4 hk4 he4
  replace hk2 := (hk2.ext he3).ext he4
  replace hk3 := hk3.ext he4
  have he04 : Ext w w4 := (he2.trans he3).trans he4
  have n23 : some b2 ≠ some b3 := by intro e; injection e with e; omega
  have n24 : some b2 ≠ some b4 := by intro e; injection e with e; omega
  have n34 : some b3 ≠ some b4 := by intro e; injection e with e; omega
  have g2 : ∀ g, some b2 = some g → w.heap.size ≤ g := by intro g hg; injection hg with hg; omega
  have g4 : ∀ g, some b4 = some g → w.heap.size ≤ g := by intro g hg; injection hg with hg; omega
  have H4 := h.ext he04
  refine L.va rfl (X.assign (by conv => lhs; whnf)) ?_
  refine L.va rfl (X.assign (by conv => lhs; whnf)) ?_
  refine L.nil ?_
  refine J.seq ?_
  refine J.seq ?_
  refine J.region ?_
  refine L.va rfl (X.fieldAddr rfl Tryd.underlying58 rfl sz_3 (by decide)) ?_
  refine L.va rfl (X.load rfl sc_3 (by first | exact Ld.blk hk2 rfl | exact Ld.blk hk3 rfl)) ?_
  refine L.va rfl (X.eql rfl rfl) ?_
  refine L.nil ?_
  refine J.dec rfl (fun h3 => ?_) (fun h3 => ?_)
  · have h3' : x.dd.kind = 3 := h3
    have e0 : r.abs.do_ x.dd = ({ r.abs with left := max x.n (-1) }, [], 0) := by unfold Ds.do_; rw [if_pos h3']; rfl
    refine J.seq ?_
    refine J.region ?_
    refine L.va rfl (X.fieldAddr rfl Tryd.underlying58 rfl sz_3 (by decide)) ?_
    refine L.va rfl (X.load rfl sc_3 (by first | exact Ld.blk hk2 rfl | exact Ld.blk hk3 rfl)) ?_
    refine L.va rfl (X.max2 rfl rfl) ?_
    refine L.va rfl (X.fieldAddr rfl Tryd.underlying33 rfl sz_3 (by decide)) ?_
    refine L.store rfl rfl (by conv => lhs; whnf) rfl sz_3 (hk2) (by first | decide | exact Nat.le_of_ble_eq_true rfl) ?_
    intro w5 hk5 hg5 hs5
    have hk4' := hk4.grown hg5 n24.symm
    refine L.nil ?_
    refine J.seq ?_
    refine J.region ?_
    refine L.va rfl ((by first | exact X.loadAgg rfl (range_l hk5) Tryd.underlying33 rfl (by kernel_rfl) | exact X.loadAgg rfl (range_blk hk5) Tryd.underlying33 rfl (by kernel_rfl))) ?_
    refine L.storeAgg (vs := [_, _, _, _, _, _, _]) rfl rfl rfl rfl sz_33 (hk4') rfl ?_
    intro w6 hk6 hg6 hs6
    refine L.va rfl (X.assign (by conv => lhs; whnf)) ?_
    refine L.va rfl (X.assign (by conv => lhs; whnf)) ?_
    refine L.nil ?_
    refine J.ret ?_
    refine thn_ret <| ?_
    have he6 : Ext w w6 := (he04.grw hg5 g2).grw hg6 g4
    refine finCTT rfl (run_cell hk6 Tryd.underlying33 rfl (by kernel_rfl)) ?_
    unfold DoC
    rw [e0]
    have H6 := h.ext he6
    exact ⟨{ r with left := max x.n (-1) }, none, 0, 0, rfl, ⟨H6.hk, H6.hp, H6.kd, H6.pd, H6.h1, H6.hN⟩, rfl, .inl ⟨rfl, rfl⟩, he6, Fr.refl _ _, fun _ => CF.same rfl rfl, fun h => absurd h (by decide)⟩
  · have h3' : ¬ x.dd.kind = 3 := h3
    refine J.skip ?_
    refine J.seq ?_
    refine J.seq ?_
    refine J.region ?_
    refine L.va rfl (X.fieldAddr rfl Tryd.underlying58 rfl sz_3 (by decide)) ?_
    refine L.va rfl (X.load rfl sc_3 (by first | exact Ld.blk hk2 rfl | exact Ld.blk hk3 rfl)) ?_
    refine L.va rfl (X.eql rfl rfl) ?_
    refine L.nil ?_
    refine J.dec rfl (fun h4 => ?_) (fun h4 => ?_)
    · have h4' : x.dd.kind = 4 := h4
      have e0 : r.abs.do_ x.dd = ({ r.abs with kept := keI (Dk.kpF x.keep) r.abs.kept [] r.abs.pend r.abs.pend.length, pend := [], off := false, left := -1 }, [], 0) := by unfold Ds.do_; rw [if_neg h3', if_pos h4']; rfl
      refine J.seq ?_
      refine J.seq ?_
      refine J.region ?_
      refine L.va rfl (X.assign (by conv => lhs; whnf)) ?_
      refine L.nil ?_
      refine J.block ?_
      have hR4 : At (rc r x.keep 0 r.kA r.kc) N w4 := ⟨H4.hk, H4.hp, H4.kd, H4.pd, H4.h1, H4.hN⟩
      refine J.loop (X := Nat × Option Addr × Nat) [7, 20, 21, 22, 23, 24, 25, 26, 27, 28, 29, 30, 31, 32, 33, 34, 35, 36, 37, 38, 39, 40, 41, 42, 43, 44, 45, 46, 47, 48, 49, 50, 51, 52] (fun s => [(7, .int .i64 (s.1 : Int))]) (fun s w' => s.1 ≤ r.pp.length ∧ Blk w' b2 33 (rc r x.keep s.1 s.2.1 s.2.2).vals.toArray ∧ Blk w' b3 58 x.vals.toArray ∧ Blk w' b4 33 #[.slice none 0 0, .slice none 0 0, .bool false, .int .i64 0, .int .i64 0, .int .i64 0, .int .i64 0] ∧ At (rc r x.keep s.1 s.2.1 s.2.2) N w' ∧ Ext w w' ∧ Fr (rc r x.keep s.1 s.2.1 s.2.2) r w) (fun s => r.pp.length - s.1) ((0, r.kA, r.kc)) (At1 (by first | rfl | exact at_int rfl (by omega) | exact at_slice rfl (by omega) | exact at_int rfl (by simp))) ?_ ?_
      · exact ⟨Nat.zero_le _, hk2, hk3, hk4, hR4, he04, Fr.refl _ _⟩
      · rintro ⟨i, kA, kc⟩ g w9 ⟨hi, hk9, hk39, hk49, hR9, he09, hF9⟩
        dsimp only at hi hk9 hR9 hF9
        have q1 : ((i, kA, kc) : Nat × Option Addr × Nat).1 = i := rfl
        have hk9 : Blk w9 b2 33 #[.slice kA (keI (Dk.kpF x.keep) r.kp c0 r.pp i).length kc, .slice r.pA r.pp.length r.pc, .bool r.off, .int .i64 r.left, .int .i64 r.rd, .int .i64 r.wr, .int .i64 r.fl] := hk9
        have hk39 : Blk w9 b3 58 #[.int .i64 x.kind, .int .i64 x.n, .slice x.dA x.dn x.dc, .bool x.odd, .slice x.kA x.kn x.kc] := hk39
        have hll9 : x.keep.length = x.kn := by have := hx.hk.1; simpa using this
        refine J.seq ?_
        refine J.seq ?_
        refine J.region ?_
        refine L.va rfl (X.move (by conv => lhs; whnf)) ?_
        refine L.va rfl (X.fieldAddr rfl Tryd.underlying33 rfl sz_31 (by decide)) ?_
        refine L.va rfl (X.load rfl sc_31 (by first | exact Ld.blk hk9 rfl | exact Ld.blk hk39 rfl)) ?_
        refine L.va rfl (X.len rfl Tryd.underlying31) ?_
        refine L.va rfl (X.lss rfl rfl) ?_
        refine L.nil ?_
        refine J.dec rfl (fun hlt => ?_) (fun hlt => ?_)
        · have hil : i < r.pp.length := by dsimp only at hlt; omega
          have hpA : r.pA ≠ none := (show Reads w9 w9.heap.size 2 r.pA r.pp.length (pcs r.pp) from hR9.pRd).some_ (by omega)
          have hpd := hR9.pDat (i := i) hil
          have z09 := he09.le
          have hrl : Reads w9 M 1 x.kA x.kn (x.keep.map Value.bool) := (hx.low (Below.mono he09 hM)).hk
          have hstep : ∀ b : Bool, x.keep.getD i false = b → keI (Dk.kpF x.keep) r.kp c0 r.pp (i + 1) = if b = true then (keI (Dk.kpF x.keep) r.kp c0 r.pp i).set (r.pp.getD i p0).1 (r.pp.getD i p0).2 else keI (Dk.kpF x.keep) r.kp c0 r.pp i := fun b hb => by
            rw [← hb]
            rfl
          refine J.skip ?_
          refine J.seq ?_
          refine J.block ?_
          refine J.seq ?_
          refine J.region ?_
          refine L.va rfl (X.move (by conv => lhs; whnf)) ?_
          refine L.va rfl (X.fieldAddr rfl Tryd.underlying58 rfl sz_45 (by decide)) ?_
          refine L.va rfl (X.load rfl sc_45 (by first | exact Ld.blk hk9 rfl | exact Ld.blk hk39 rfl)) ?_
          refine L.va rfl (X.len rfl Tryd.underlying45) ?_
          refine L.va rfl (X.lss rfl rfl) ?_
          refine L.va rfl (X.move (by conv => lhs; whnf)) ?_
          refine L.caseDec (k := 32) rfl (fun hlen => ?_) (fun hlen => ?_)
          · have hlen' : i < x.kn := by dsimp only at hlen; omega
            refine L.va rfl (X.fieldAddr rfl Tryd.underlying58 rfl sz_45 (by decide)) ?_
            refine L.va rfl (X.load rfl sc_45 (by first | exact Ld.blk hk9 rfl | exact Ld.blk hk39 rfl | exact Ld.rd hrl (by omega))) ?_
            refine L.va rfl (X.move (by conv => lhs; whnf)) ?_
            refine L.va rfl ((by first | exact X.index1n rfl rfl Tryd.underlying45 sz_4 (by first | exact Option.some_ne_none _ | exact hrl.some_ (by omega)) (by omega) | exact X.index1 rfl rfl Tryd.underlying45 sz_4 (by first | exact Option.some_ne_none _ | exact hrl.some_ (by omega)) (by omega))) ?_
            refine L.va rfl (X.load rfl sc_4 (Ld.bool hrl hlen')) ?_
            refine L.va rfl (X.pickT rfl (by conv => lhs; whnf)) ?_
            refine L.nil ?_
            cases hfl : x.keep.getD i false
            · refine J.iteF rfl ?_
              refine J.skip ?_
              refine J.region ?_
              refine L.va rfl (X.move (by conv => lhs; whnf)) ?_
              refine L.va rfl (X.add rfl rfl (by omega)) ?_
              refine L.va rfl (X.assign (by conv => lhs; whnf)) ?_
              refine L.nil ?_
              refine ⟨(i + 1, kA, kc), At1 (by first | rfl | exact at_int rfl (by omega) | exact at_slice rfl (by omega) | exact at_int rfl (by simp)), (by (iterate 21 refine Agr.lk rfl ?_); exact Agr.lk rfl (Agr.hav rfl Agr.rfl')), ?_⟩
              have e := hstep _ hfl
              rw [if_neg (by decide)] at e
              refine ⟨⟨by dsimp only; omega, ?_, hk39, hk49, ?_, he09, ?_⟩, by dsimp only; omega⟩
              · show Blk w9 b2 33 #[.slice kA (keI (Dk.kpF x.keep) r.kp c0 r.pp (i + 1)).length kc, .slice r.pA r.pp.length r.pc, .bool r.off, .int .i64 r.left, .int .i64 r.rd, .int .i64 r.wr, .int .i64 r.fl]
                rw [e]
                exact hk9
              · show At (rc r x.keep (i + 1) kA kc) N w9
                unfold rc
                rw [e]
                exact hR9
              · show Fr (rc r x.keep (i + 1) kA kc) r w
                unfold rc
                rw [e]
                exact hF9
            · refine J.iteT rfl ?_
              refine J.draw (ℓ := 14) (S := Ext w9) mixed (fun w10 hS hS_h => ?_)
              refine D.va 0 rfl (by kernel_rfl) (fun _ _ _ h => h) rfl (fun w' hw => (by first | exact X.loadAgg rfl (range_l (hk9.ext hw)) Tryd.underlying33 rfl (by kernel_rfl) | exact X.loadAgg rfl (range_blk (hk9.ext hw)) Tryd.underlying33 rfl (by kernel_rfl) | exact X.loadAgg rfl (range_l (hk39.ext hw)) Tryd.underlying33 rfl (by kernel_rfl) | exact X.loadAgg rfl (range_blk (hk39.ext hw)) Tryd.underlying33 rfl (by kernel_rfl))) hS ?_
              refine D.va 1 rfl (by kernel_rfl) (fun _ _ _ h => h) rfl (fun w' hw => X.fieldAddr rfl Tryd.underlying33 rfl sz_31 (by decide)) hS ?_
              refine D.va 2 rfl (by kernel_rfl) (fun _ _ _ h => h) rfl (fun w' hw => X.load rfl sc_31 (by first | exact Ld.blk (hk9.ext hw) rfl | exact Ld.blk (hk39.ext hw) rfl | exact hpA)) hS ?_
              refine D.va 3 rfl (by kernel_rfl) (fun _ _ _ h => h) rfl (fun w' hw => X.move (by conv => lhs; whnf)) hS ?_
              refine D.va 4 rfl (by kernel_rfl) (fun _ _ _ h => h) rfl (fun w' hw => (by first | exact X.indexAddrn rfl rfl Tryd.underlying31 sz_110 (by first | exact Option.some_ne_none _ | exact hpA) (by omega) | exact X.indexAddr rfl rfl Tryd.underlying31 sz_110 (by first | exact Option.some_ne_none _ | exact hpA) (by omega))) hS ?_
              refine D.va 5 rfl (by kernel_rfl) (fun _ _ _ h => h) rfl (fun w' hw => X.fieldP rfl Tryd.underlying110 rfl sz_3 (by decide) (by first | exact Option.some_ne_none _ | exact hpA)) hS ?_
              refine D.va 6 rfl (by kernel_rfl) (fun _ _ _ h => h) rfl (fun w' hw => X.load rfl sc_3 ((hR9.ext hw).pLdA hil)) hS ?_
              refine D.va 7 rfl (by kernel_rfl) (fun _ _ _ h => h) rfl (fun w' hw => X.fieldAddr rfl Tryd.underlying33 rfl sz_31 (by decide)) hS ?_
              refine D.va 8 rfl (by kernel_rfl) (fun _ _ _ h => h) rfl (fun w' hw => X.load rfl sc_31 (by first | exact Ld.blk (hk9.ext hw) rfl | exact Ld.blk (hk39.ext hw) rfl | exact hpA)) hS ?_
              refine D.va 9 rfl (by kernel_rfl) (fun _ _ _ h => h) rfl (fun w' hw => X.move (by conv => lhs; whnf)) hS ?_
              refine D.va 10 rfl (by kernel_rfl) (fun _ _ _ h => h) rfl (fun w' hw => (by first | exact X.indexAddrn rfl rfl Tryd.underlying31 sz_110 (by first | exact Option.some_ne_none _ | exact hpA) (by omega) | exact X.indexAddr rfl rfl Tryd.underlying31 sz_110 (by first | exact Option.some_ne_none _ | exact hpA) (by omega))) hS ?_
              refine D.va 11 rfl (by kernel_rfl) (fun _ _ _ h => h) rfl (fun w' hw => X.fieldP rfl Tryd.underlying110 rfl sz_39 (by decide) (by first | exact Option.some_ne_none _ | exact hpA)) hS ?_
              refine D.va 12 rfl (by kernel_rfl) (fun _ _ _ h => h) rfl (fun w' hw => X.load rfl sc_39 ((hR9.ext hw).pLdB hil)) hS ?_
              refine D.one 13 (by kernel_rfl) rfl ?_
              refine L.call rfl en_50 rfl (((hR9.ext hS).with_ _ _ rfl hpd.1 (r.pp.getD i p0).2 (hpd.2.ext hS hR9.hN))) ?_
              rintro e w11 ⟨kA', kc', rfl, hR11, he11, hf11⟩
              refine ⟨_, rfl, ?_⟩
              have hS1 := hS.trans he11
              refine L.nil ?_
              refine ⟨fun _ => hS1, ?_⟩
              have hk9b := hk9.ext hS1
              have hk39b := hk39.ext hS1
              have hk49b := hk49.ext hS1
              refine D.one 14 (by kernel_rfl) rfl ?_
              refine L.storeAgg (vs := [_, _, _, _, _, _, _]) rfl rfl rfl rfl sz_33 (hk9b) rfl ?_
              intro w12 hk12 hg12 hs12
              refine L.nil ?_
              refine ⟨fun h => absurd rfl h, ?_⟩
              refine D.done (by kernel_rfl) ?_
              refine J.region ?_
              refine L.va rfl (X.move (by conv => lhs; whnf)) ?_
              refine L.va rfl (X.add rfl rfl (by omega)) ?_
              refine L.va rfl (X.assign (by conv => lhs; whnf)) ?_
              refine L.nil ?_
              refine ⟨(i + 1, kA', kc'), At1 (by first | rfl | exact at_int rfl (by omega) | exact at_slice rfl (by omega) | exact at_int rfl (by simp)), (by (iterate 35 refine Agr.lk rfl ?_); exact Agr.lk rfl (Agr.hav rfl Agr.rfl')), ?_⟩
              have e := hstep _ hfl
              rw [if_pos rfl] at e
              have he0 : Ext w w12 := (he09.trans hS1).grw hg12 g2
              have hR12 := hR11.blk hk9b hg12 (by have := g2 b2 rfl; omega)
              have hlen2 : (keI (Dk.kpF x.keep) r.kp c0 r.pp (i + 1)).length = (keI (Dk.kpF x.keep) r.kp c0 r.pp i).length := by rw [keI_length, keI_length]
              refine ⟨⟨by dsimp only; omega, ?_, (hk39b.grown hg12 n23.symm), (hk49b.grown hg12 n24.symm), ?_, he0, fun g hg => .inr ?_⟩, by dsimp only; omega⟩
              · show Blk w12 b2 33 #[.slice kA' (keI (Dk.kpF x.keep) r.kp c0 r.pp (i + 1)).length kc', .slice r.pA r.pp.length r.pc, .bool r.off, .int .i64 r.left, .int .i64 r.rd, .int .i64 r.wr, .int .i64 r.fl]
                rw [e]
                exact hk12
              · show At (rc r x.keep (i + 1) kA' kc') N w12
                unfold rc
                rw [e]
                exact hR12
              · have hg' : Value.ownBlock (.slice kA' (keI (Dk.kpF x.keep) r.kp c0 r.pp (i + 1)).length kc') = some g := hg
                rw [hlen2] at hg'
                have k1 := hf11 g hg'
                have := Ext.le hS
                omega
          · have hfl : x.keep.getD i false = false := by
              rw [List.getD, List.getElem?_eq_none (by dsimp only at hlen; omega)]
              rfl
            refine L.no rfl ?_
            refine L.no rfl ?_
            refine L.no rfl ?_
            refine L.no rfl ?_
            refine L.no rfl ?_
            refine L.va rfl (X.pickF rfl (by conv => lhs; whnf)) ?_
            refine L.nil ?_
            refine J.iteF rfl ?_
            refine J.skip ?_
            refine J.region ?_
            refine L.va rfl (X.move (by conv => lhs; whnf)) ?_
            refine L.va rfl (X.add rfl rfl (by omega)) ?_
            refine L.va rfl (X.assign (by conv => lhs; whnf)) ?_
            refine L.nil ?_
            refine ⟨(i + 1, kA, kc), At1 (by first | rfl | exact at_int rfl (by omega) | exact at_slice rfl (by omega) | exact at_int rfl (by simp)), (by (iterate 21 refine Agr.lk rfl ?_); exact Agr.lk rfl (Agr.hav rfl Agr.rfl')), ?_⟩
            have e := hstep _ hfl
            rw [if_neg (by decide)] at e
            refine ⟨⟨by dsimp only; omega, ?_, hk39, hk49, ?_, he09, ?_⟩, by dsimp only; omega⟩
            · show Blk w9 b2 33 #[.slice kA (keI (Dk.kpF x.keep) r.kp c0 r.pp (i + 1)).length kc, .slice r.pA r.pp.length r.pc, .bool r.off, .int .i64 r.left, .int .i64 r.rd, .int .i64 r.wr, .int .i64 r.fl]
              rw [e]
              exact hk9
            · show At (rc r x.keep (i + 1) kA kc) N w9
              unfold rc
              rw [e]
              exact hR9
            · show Fr (rc r x.keep (i + 1) kA kc) r w
              unfold rc
              rw [e]
              exact hF9
        · obtain rfl : i = r.pp.length := by dsimp only at hlt; omega
          refine J.exit ?_
          refine J.seq ?_
          refine J.region ?_
          refine L.va rfl (X.fieldAddr rfl Tryd.underlying33 rfl sz_31 (by decide)) ?_
          refine L.store rfl rfl (by conv => lhs; whnf) rfl sz_31 (hk9) (by first | decide | exact Nat.le_of_ble_eq_true rfl) ?_
          intro w10 hk10 hg10 hs10
          refine L.nil ?_
          refine J.seq ?_
          refine J.region ?_
          refine L.va rfl (X.fieldAddr rfl Tryd.underlying33 rfl sz_4 (by decide)) ?_
          refine L.store rfl rfl (by conv => lhs; whnf) rfl sz_4 (hk10) (by first | decide | exact Nat.le_of_ble_eq_true rfl) ?_
          intro w11 hk11 hg11 hs11
          refine L.nil ?_
          refine J.seq ?_
          refine J.region ?_
          refine L.va rfl (X.fieldAddr rfl Tryd.underlying33 rfl sz_3 (by decide)) ?_
          refine L.store rfl rfl (by conv => lhs; whnf) rfl sz_3 (hk11) (by first | decide | exact Nat.le_of_ble_eq_true rfl) ?_
          intro w12 hk12 hg12 hs12
          have g3 := grb_trans (grb_trans hg10 hg11) hg12
          have hk412 := hk49.grown g3 n24.symm
          refine L.nil ?_
          refine J.seq ?_
          refine J.region ?_
          refine L.va rfl ((by first | exact X.loadAgg rfl (range_l hk12) Tryd.underlying33 rfl (by kernel_rfl) | exact X.loadAgg rfl (range_blk hk12) Tryd.underlying33 rfl (by kernel_rfl))) ?_
          refine L.storeAgg (vs := [_, _, _, _, _, _, _]) rfl rfl rfl rfl sz_33 (hk412) rfl ?_
          intro w13 hk13 hg13 hs13
          refine L.va rfl (X.assign (by conv => lhs; whnf)) ?_
          refine L.va rfl (X.assign (by conv => lhs; whnf)) ?_
          refine L.nil ?_
          refine J.ret ?_
          refine thn_ret <| ?_
          have he13 : Ext w w13 := (he09.grw g3 g2).grw hg13 g4
          have hR13 := (hR9.blk hk9 g3 (by have := g2 b2 rfl; omega)).blk hk412 hg13 (by have := g4 b4 rfl; omega)
          refine finCTT rfl (run_cell hk13 Tryd.underlying33 rfl (by kernel_rfl)) ?_
          unfold DoC
          rw [e0]
          refine ⟨{ rc r x.keep r.pp.length kA kc with pA := none, pc := 0, pp := [], off := false, left := -1 }, none, 0, 0, rfl, ⟨hR13.hk, own_nil _ _ _ _, hR13.kd, (fun y hy => by cases hy), hR13.h1, hR13.hN⟩, ?_, .inl ⟨rfl, rfl⟩, he13, hF9, fun _ => CF.ke _ rfl rfl, fun h => absurd h (by decide)⟩
          unfold Rk.abs abs_
          dsimp only
          rw [abs_ke]
          rfl
    · have h4' : ¬ x.dd.kind = 4 := h4
      refine J.skip ?_
      refine J.seq ?_
      refine J.seq ?_
      refine J.region ?_
      refine L.va rfl (X.fieldAddr rfl Tryd.underlying33 rfl sz_4 (by decide)) ?_
      refine L.va rfl (X.load rfl sc_4 (by first | exact Ld.blk hk2 rfl | exact Ld.blk hk3 rfl)) ?_
      refine L.nil ?_
      refine J.ite rfl (fun hoff => ?_) (fun hoff => ?_)
      · have e0 : r.abs.do_ x.dd = (r.abs, [], 14) := by unfold Ds.do_; rw [if_neg h3', if_neg h4', if_pos (show r.abs.off = true from hoff)]
        refine J.seq ?_
        refine J.region ?_
        refine L.va rfl ((by first | exact X.loadAgg rfl (range_l hk2) Tryd.underlying33 rfl (by kernel_rfl) | exact X.loadAgg rfl (range_blk hk2) Tryd.underlying33 rfl (by kernel_rfl) | exact X.loadAgg rfl (range_l hk3) Tryd.underlying33 rfl (by kernel_rfl) | exact X.loadAgg rfl (range_blk hk3) Tryd.underlying33 rfl (by kernel_rfl))) ?_
        refine L.storeAgg (vs := [_, _, _, _, _, _, _]) rfl rfl rfl rfl sz_33 (hk4) rfl ?_
        intro w6 hk6 hg6 hs6
        refine L.va rfl (X.assign (by conv => lhs; whnf)) ?_
        refine L.va rfl (X.assign (by conv => lhs; whnf)) ?_
        refine L.nil ?_
        refine J.ret ?_
        refine thn_ret <| ?_
        have he6 : Ext w w6 := he04.grw hg6 g4
        refine finCTT rfl (run_cell hk6 Tryd.underlying33 rfl (by kernel_rfl)) ?_
        unfold DoC
        rw [e0]
        exact ⟨r, none, 0, 0, rfl, h.ext he6, rfl, .inl ⟨rfl, rfl⟩, he6, Fr.refl _ _, fun _ => CF.same rfl rfl, fun h => absurd h (by decide)⟩
      · have hoff' : ¬ r.abs.off = true := by rw [show r.abs.off = r.off from rfl, hoff]; decide
        have e0 : r.abs.do_ x.dd = if x.dd.kind ≠ 2 ∧ (x.dd.n < 0 ∨ (r.abs.kept.length : Int) ≤ x.dd.n) then (r.abs, [], 2) else if x.dd.kind = 0 then ({ r.abs with rd := r.abs.rd + 1 }, r.abs.now x.dd.n.toNat, 0) else if x.dd.kind = 1 ∧ x.dd.bytes.length ≠ 1024 then (r.abs, [], 6) else if r.abs.left = 0 then ({ r.abs with off := true }, [], 14) else if x.dd.kind = 1 then ({ r.abs with left := Dk.dec1 r.abs.left, wr := r.abs.wr + 1, pend := r.abs.pend ++ [(x.dd.n.toNat, x.dd.bytes)] }, [], 0) else ({ r.abs with left := Dk.dec1 r.abs.left, fl := r.abs.fl + 1, kept := keI (fun _ => true) r.abs.kept [] r.abs.pend r.abs.pend.length, pend := [] }, [], 0) := by
          unfold Ds.do_
          rw [if_neg h3', if_neg h4', if_neg hoff']
        refine J.skip ?_
        refine J.cut (X := Unit) [5, 6, 60, 61, 62, 63, 64, 65, 66, 67, 68, 69, 70, 71, 72, 73, 74, 75, 76] (fun _ => []) (fun _ w' => w' = w4 ∧ (¬ x.dd.kind = 2 → 0 ≤ x.n ∧ x.n < r.kp.length)) ?_ ?_
        · refine J.seq ?_
          refine J.region ?_
          refine L.va rfl (X.fieldAddr rfl Tryd.underlying58 rfl sz_3 (by decide)) ?_
          refine L.va rfl (X.load rfl sc_3 (by first | exact Ld.blk hk2 rfl | exact Ld.blk hk3 rfl)) ?_
          refine L.va rfl (X.neq rfl rfl) ?_
          refine L.va rfl (X.move (by conv => lhs; whnf)) ?_
          refine L.caseNdec (k := 63) rfl (fun k2 => ?_) (fun k2 => ?_)
          · refine L.va rfl (X.fieldAddr rfl Tryd.underlying58 rfl sz_3 (by decide)) ?_
            refine L.va rfl (X.load rfl sc_3 (by first | exact Ld.blk hk2 rfl | exact Ld.blk hk3 rfl)) ?_
            refine L.va rfl (X.lss rfl rfl) ?_
            refine L.va rfl (X.move (by conv => lhs; whnf)) ?_
            refine L.caseDec (k := 67) rfl (fun kn => ?_) (fun kn => ?_)
            · refine L.no rfl ?_
              refine L.no rfl ?_
              refine L.no rfl ?_
              refine L.no rfl ?_
              refine L.no rfl ?_
              refine L.no rfl ?_
              refine L.va rfl (X.pickT rfl (by conv => lhs; whnf)) ?_
              refine L.va rfl (X.pickT rfl (by conv => lhs; whnf)) ?_
              refine L.nil ?_
              refine J.iteT rfl ?_
              have e1 : r.abs.do_ x.dd = (r.abs, [], 2) := by rw [e0, if_pos ⟨k2, .inl kn⟩]
              refine J.seq ?_
              refine J.region ?_
              refine L.va rfl ((by first | exact X.loadAgg rfl (range_l hk2) Tryd.underlying33 rfl (by kernel_rfl) | exact X.loadAgg rfl (range_blk hk2) Tryd.underlying33 rfl (by kernel_rfl) | exact X.loadAgg rfl (range_l hk3) Tryd.underlying33 rfl (by kernel_rfl) | exact X.loadAgg rfl (range_blk hk3) Tryd.underlying33 rfl (by kernel_rfl))) ?_
              refine L.storeAgg (vs := [_, _, _, _, _, _, _]) rfl rfl rfl rfl sz_33 (hk4) rfl ?_
              intro w6 hk6 hg6 hs6
              refine L.va rfl (X.assign (by conv => lhs; whnf)) ?_
              refine L.va rfl (X.assign (by conv => lhs; whnf)) ?_
              refine L.nil ?_
              refine J.ret ?_
              refine thn_ret <| ?_
              have he6 : Ext w w6 := he04.grw hg6 g4
              refine finCTT rfl (run_cell hk6 Tryd.underlying33 rfl (by kernel_rfl)) ?_
              unfold DoC
              rw [e1]
              exact ⟨r, none, 0, 0, rfl, h.ext he6, rfl, .inl ⟨rfl, rfl⟩, he6, Fr.refl _ _, fun _ => CF.same rfl rfl, fun h => absurd h (by decide)⟩
            · refine L.va rfl (X.fieldAddr rfl Tryd.underlying58 rfl sz_3 (by decide)) ?_
              refine L.va rfl (X.load rfl sc_3 (by first | exact Ld.blk hk2 rfl | exact Ld.blk hk3 rfl)) ?_
              refine L.va rfl (X.fieldAddr rfl Tryd.underlying33 rfl sz_30 (by decide)) ?_
              refine L.va rfl (X.load rfl sc_30 (by first | exact Ld.blk hk2 rfl | exact Ld.blk hk3 rfl)) ?_
              refine L.va rfl (X.len rfl Tryd.underlying30) ?_
              refine L.va rfl (X.geq rfl rfl) ?_
              refine L.va rfl (X.pickF rfl (by conv => lhs; whnf)) ?_
              refine L.va rfl (X.pickT rfl (by conv => lhs; whnf)) ?_
              refine L.nil ?_
              refine J.dec rfl (fun kg => ?_) (fun kg => ?_)
              · have e1 : r.abs.do_ x.dd = (r.abs, [], 2) := by rw [e0, if_pos ⟨k2, .inr (by rw [hkl]; exact kg)⟩]
                refine J.seq ?_
                refine J.region ?_
                refine L.va rfl ((by first | exact X.loadAgg rfl (range_l hk2) Tryd.underlying33 rfl (by kernel_rfl) | exact X.loadAgg rfl (range_blk hk2) Tryd.underlying33 rfl (by kernel_rfl) | exact X.loadAgg rfl (range_l hk3) Tryd.underlying33 rfl (by kernel_rfl) | exact X.loadAgg rfl (range_blk hk3) Tryd.underlying33 rfl (by kernel_rfl))) ?_
                refine L.storeAgg (vs := [_, _, _, _, _, _, _]) rfl rfl rfl rfl sz_33 (hk4) rfl ?_
                intro w6 hk6 hg6 hs6
                refine L.va rfl (X.assign (by conv => lhs; whnf)) ?_
                refine L.va rfl (X.assign (by conv => lhs; whnf)) ?_
                refine L.nil ?_
                refine J.ret ?_
                refine thn_ret <| ?_
                have he6 : Ext w w6 := he04.grw hg6 g4
                refine finCTT rfl (run_cell hk6 Tryd.underlying33 rfl (by kernel_rfl)) ?_
                unfold DoC
                rw [e1]
                exact ⟨r, none, 0, 0, rfl, h.ext he6, rfl, .inl ⟨rfl, rfl⟩, he6, Fr.refl _ _, fun _ => CF.same rfl rfl, fun h => absurd h (by decide)⟩
              · refine J.skip ?_
                refine ⟨(), At0 , (by (iterate 18 refine Agr.lk rfl ?_); exact Agr.rfl'), ?_⟩
                exact ⟨rfl, fun _ => by omega⟩
          · refine L.no rfl ?_
            refine L.no rfl ?_
            refine L.no rfl ?_
            refine L.no rfl ?_
            refine L.no rfl ?_
            refine L.no rfl ?_
            refine L.no rfl ?_
            refine L.no rfl ?_
            refine L.no rfl ?_
            refine L.no rfl ?_
            refine L.no rfl ?_
            refine L.va rfl (X.pickF rfl (by conv => lhs; whnf)) ?_
            refine L.nil ?_
            refine J.iteF rfl ?_
            refine J.skip ?_
            refine ⟨(), At0 , (by (iterate 17 refine Agr.lk rfl ?_); exact Agr.rfl'), ?_⟩
            exact ⟨rfl, fun h => absurd k2 h⟩
        · rintro ⟨⟩ g w5 ⟨rfl, hrange⟩
          have he5 : Ext w5 w5 := Ext.refl _
          have hnr : ¬ (x.dd.kind ≠ 2 ∧ (x.dd.n < 0 ∨ (r.abs.kept.length : Int) ≤ x.dd.n)) := by
            rintro ⟨k1, k2⟩
            have := hrange k1
            rw [hkl] at k2
            have e : x.dd.n = x.n := rfl
            omega
          rw [if_neg hnr] at e0
          refine J.seq ?_
          refine J.seq ?_
          refine J.region ?_
          refine L.va rfl (X.fieldAddr rfl Tryd.underlying58 rfl sz_3 (by decide)) ?_
          refine L.va rfl (X.load rfl sc_3 (by first | exact Ld.blk hk2 rfl | exact Ld.blk hk3 rfl)) ?_
          refine L.va rfl (X.eql rfl rfl) ?_
          refine L.nil ?_
          refine J.dec rfl (fun k0 => ?_) (fun k0 => ?_)
          · have k0' : x.dd.kind = 0 := k0
            rw [if_pos k0'] at e0
            have hr0 := hrange (by omega)
            obtain ⟨i, hi⟩ := Int.eq_ofNat_of_zero_le hr0.1
            have hik : i < r.kp.length := by omega
            have e1 : r.abs.do_ x.dd = ({ r.abs with rd := r.abs.rd + 1 }, (nowI r.kp c0 r.pp i r.pp.length).2, 0) := by
              rw [e0, abs_now, show x.dd.n.toNat = i by show x.n.toNat = i; omega]
              rfl
            refine J.seq ?_
            refine J.region ?_
            refine L.va rfl (X.fieldAddr rfl Tryd.underlying33 rfl sz_3 (by decide)) ?_
            refine L.va rfl (X.load rfl sc_3 (by first | exact Ld.blk hk2 rfl | exact Ld.blk hk3 rfl)) ?_
            refine L.va rfl (X.add rfl rfl (by omega)) ?_
            refine L.va rfl (X.fieldAddr rfl Tryd.underlying33 rfl sz_3 (by decide)) ?_
            refine L.store rfl rfl (by conv => lhs; whnf) rfl sz_3 (hk2) (by first | decide | exact Nat.le_of_ble_eq_true rfl) ?_
            intro w6 hk6 hg6 hs6
            have hk36 := hk3.grown hg6 n23.symm
            have hk46 := hk4.grown hg6 n24.symm
            have he06 : Ext w w6 := he04.grw hg6 g2
            have H6' := h.ext he06
            have H6 : At { r with rd := r.rd + 1 } N w6 := ⟨H6'.hk, H6'.hp, H6'.kd, H6'.pd, H6'.h1, H6'.hN⟩
            refine L.nil ?_
            refine J.seq ?_
            have hk6' : Blk w6 b2 33 (Rk.vals { r with rd := r.rd + 1 }).toArray := hk6
            have hk36' : Blk w6 b3 58 #[.int .i64 x.kind, .int .i64 x.n, .slice x.dA x.dn x.dc, .bool x.odd, .slice x.kA x.kn x.kc] := hk36
            refine J.draw (ℓ := 1000000) (S := (fun w' => Blk w' b2 33 (Rk.vals { r with rd := r.rd + 1 }).toArray ∧ Blk w' b3 58 #[.int .i64 x.kind, .int .i64 x.n, .slice x.dA x.dn x.dc, .bool x.odd, .slice x.kA x.kn x.kc] ∧ Below w.heap.size w6 w')) mixed (fun w7 hSE hS_h => ?_)
            have hS : ((fun w' => Blk w' b2 33 (Rk.vals { r with rd := r.rd + 1 }).toArray ∧ Blk w' b3 58 #[.int .i64 x.kind, .int .i64 x.n, .slice x.dA x.dn x.dc, .bool x.odd, .slice x.kA x.kn x.kc] ∧ Below w.heap.size w6 w')) w7 := ⟨hk6'.ext hSE, hk36'.ext hSE, Below.mono hSE he06.le⟩
            refine D.va 0 rfl (by kernel_rfl) (fun _ _ _ h => h) rfl (fun w' hw => X.loadAgg rfl (range_l hw.1) Tryd.underlying33 rfl (by kernel_rfl)) hS ?_
            refine D.va 1 rfl (by kernel_rfl) (fun _ _ _ h => h) rfl (fun w' hw => X.loadAgg rfl (range_l hw.1) Tryd.underlying33 rfl (by kernel_rfl)) hS ?_
            refine D.va 2 rfl (by kernel_rfl) (fun _ _ _ h => h) rfl (fun w' hw => X.fieldAddr rfl Tryd.underlying58 rfl sz_3 (by decide)) hS ?_
            refine D.va 3 rfl (by kernel_rfl) (fun _ _ _ h => h) rfl (fun w' hw => X.load rfl sc_3 (Ld.blk hw.2.1 rfl)) hS ?_
            refine D.one 4 (by kernel_rfl) rfl ?_
            refine L.call rfl en_51 rfl (((H6.ext hSE).now_ x.n i hi hik hmm1)) ?_
            rintro e w8 ⟨rfl, he8⟩
            refine ⟨_, rfl, ?_⟩
            have hS1 := And.intro (hS.1.ext he8) (And.intro (hS.2.1.ext he8) (hS.2.2.trans (Below.mono he8 (by have := he06.le; have := Ext.le hSE; omega))))
            refine L.nil ?_
            refine ⟨fun _ => hS1, ?_⟩
            refine D.one 5 (by kernel_rfl) rfl ?_
            refine L.storeAgg (vs := [_, _, _, _, _, _, _]) rfl rfl rfl rfl sz_33 (((hk46.ext hSE).ext he8)) rfl ?_
            intro w9 hk9 hg9 hs9
            have hS2 := And.intro (hS1.1.grown hg9 n24) (And.intro (hS1.2.1.grown hg9 n34) (hS1.2.2.grown hg9 (by have := he06.le; have := Ext.le hSE; have := Ext.le he8; omega) g4))
            refine L.nil ?_
            refine ⟨fun _ => hS2, ?_⟩
            refine D.va 6 rfl (by kernel_rfl) (fun _ _ _ h => h) rfl (fun w' hw => X.assign (by conv => lhs; whnf)) hS2 ?_
            refine D.va 7 rfl (by kernel_rfl) (fun _ _ _ h => h) rfl (fun w' hw => X.assign (by conv => lhs; whnf)) hS2 ?_
            refine D.done (by kernel_rfl) ?_
            refine J.ret ?_
            refine thn_ret <| ?_
            have he9 : Ext w w9 := ((he06.trans hSE).trans he8).grw hg9 g4
            have H9' := h.ext he9
            have H9 : At { r with rd := r.rd + 1 } N w9 := ⟨H9'.hk, H9'.hp, H9'.kd, H9'.pd, H9'.h1, H9'.hN⟩
            obtain ⟨A9, c9, e9, hr9⟩ := (H9.nowDat (i := i) hik _ (Nat.le_refl _)).slice H9.hN
            refine finCTT rfl (run_cell hk9 Tryd.underlying33 rfl (by kernel_rfl)) ?_
            unfold DoC
            rw [e1]
            exact ⟨{ r with rd := r.rd + 1 }, A9, 1024, c9, by rw [← e9]; rfl, H9, rfl, .inr ⟨rfl, by rw [← e9]; exact H9.nowDat (i := i) hik _ (Nat.le_refl _)⟩, he9, Fr.refl _ _, fun _ => CF.same rfl rfl, fun _ => by
              rw [← e9]
              exact nowI_mem (p := fun y : Cell => r.Cl y.1) hik (fun y hy => .inl ⟨y, hy, rfl⟩) (fun y hy => .inr ⟨y, hy, rfl⟩) _ (Nat.le_refl _)⟩
          · have k0' : ¬ x.dd.kind = 0 := k0
            rw [if_neg k0'] at e0
            refine J.skip ?_
            refine J.cut (X := Unit) [5, 6, 89, 90, 91, 92, 93, 94, 95, 96, 97, 98] (fun _ => []) (fun _ w' => Ext w5 w' ∧ (x.dd.kind = 1 → x.dd.bytes.length = 1024)) ?_ ?_
            · refine J.seq ?_
              refine J.region ?_
              refine L.va rfl (X.fieldAddr rfl Tryd.underlying58 rfl sz_3 (by decide)) ?_
              refine L.va rfl (X.load rfl sc_3 (by first | exact Ld.blk hk2 rfl | exact Ld.blk hk3 rfl)) ?_
              refine L.va rfl (X.eql rfl rfl) ?_
              refine L.va rfl (X.move (by conv => lhs; whnf)) ?_
              refine L.caseDec (k := 92) rfl (fun k1 => ?_) (fun k1 => ?_)
              · refine L.va rfl ((by first | exact X.loadAgg rfl (range_l hk2) Tryd.underlying58 rfl (by kernel_rfl) | exact X.loadAgg rfl (range_blk hk2) Tryd.underlying58 rfl (by kernel_rfl) | exact X.loadAgg rfl (range_l hk3) Tryd.underlying58 rfl (by kernel_rfl) | exact X.loadAgg rfl (range_blk hk3) Tryd.underlying58 rfl (by kernel_rfl))) ?_
                refine L.call rfl en_52 rfl (((hx.low (Below.mono he04 hM)).bytes_ (Nat.le_trans hM he04.le) hdn)) ?_
                rintro e w6 ⟨A, c, rfl, hrb, hD, he6⟩
                refine ⟨_, rfl, ?_⟩
                have he6 : Ext w5 w6 := he6
                replace hk2 := hk2.ext he6
                replace hk3 := hk3.ext he6
                have hk46 := hk4.ext he6
                refine L.va rfl (X.len rfl Tryd.underlying39) ?_
                refine L.va rfl (X.neq rfl rfl) ?_
                refine L.va rfl (X.pickT rfl (by conv => lhs; whnf)) ?_
                refine L.nil ?_
                refine J.ndec rfl (fun hl => ?_) (fun hl => ?_)
                · have hl' : x.dd.bytes.length ≠ 1024 := by omega
                  have e1 : r.abs.do_ x.dd = (r.abs, [], 6) := by rw [e0, if_pos ⟨k1, hl'⟩]
                  refine J.seq ?_
                  refine J.region ?_
                  refine L.va rfl ((by first | exact X.loadAgg rfl (range_l hk2) Tryd.underlying33 rfl (by kernel_rfl) | exact X.loadAgg rfl (range_blk hk2) Tryd.underlying33 rfl (by kernel_rfl) | exact X.loadAgg rfl (range_l hk3) Tryd.underlying33 rfl (by kernel_rfl) | exact X.loadAgg rfl (range_blk hk3) Tryd.underlying33 rfl (by kernel_rfl))) ?_
                  refine L.storeAgg (vs := [_, _, _, _, _, _, _]) rfl rfl rfl rfl sz_33 (hk46) rfl ?_
                  intro w7 hk7 hg7 hs7
                  refine L.va rfl (X.assign (by conv => lhs; whnf)) ?_
                  refine L.va rfl (X.assign (by conv => lhs; whnf)) ?_
                  refine L.nil ?_
                  refine J.ret ?_
                  refine thn_ret <| ?_
                  have he7 : Ext w w7 := (he04.trans he6).grw hg7 g4
                  refine finCTT rfl (run_cell hk7 Tryd.underlying33 rfl (by kernel_rfl)) ?_
                  unfold DoC
                  rw [e1]
                  exact ⟨r, none, 0, 0, rfl, h.ext he7, rfl, .inl ⟨rfl, rfl⟩, he7, Fr.refl _ _, fun _ => CF.same rfl rfl, fun h => absurd h (by decide)⟩
                · refine J.skip ?_
                  refine ⟨(), At0 , (by (iterate 10 refine Agr.lk rfl ?_); exact Agr.rfl'), ?_⟩
                  exact ⟨he6, fun _ => by omega⟩
              · refine L.no rfl ?_
                refine L.no rfl ?_
                refine L.no rfl ?_
                refine L.no rfl ?_
                refine L.va rfl (X.pickF rfl (by conv => lhs; whnf)) ?_
                refine L.nil ?_
                refine J.iteF rfl ?_
                refine J.skip ?_
                refine ⟨(), At0 , (by (iterate 10 refine Agr.lk rfl ?_); exact Agr.rfl'), ?_⟩
                exact ⟨Ext.refl _, fun h => absurd h k1⟩
            · rintro ⟨⟩ g w6 ⟨he6, hby⟩
              have hnb : ¬ (x.dd.kind = 1 ∧ x.dd.bytes.length ≠ 1024) := fun ⟨q1, q2⟩ => q2 (hby q1)
              rw [if_neg hnb] at e0
              have he6 : Ext w5 w6 := he6
              have he06 := he04.trans he6
              have hk26 := hk2.ext he6
              have hk36 := hk3.ext he6
              have hk46 := hk4.ext he6
              refine J.seq ?_
              refine J.seq ?_
              refine J.region ?_
              refine L.va rfl (X.fieldAddr rfl Tryd.underlying33 rfl sz_3 (by decide)) ?_
              refine L.va rfl (X.load rfl sc_3 (by first | exact Ld.blk hk26 rfl | exact Ld.blk hk36 rfl)) ?_
              refine L.va rfl (X.eql rfl rfl) ?_
              refine L.nil ?_
              refine J.dec rfl (fun hz => ?_) (fun hz => ?_)
              · have e1 : r.abs.do_ x.dd = ({ r.abs with off := true }, [], 14) := by rw [e0, if_pos (show r.abs.left = 0 from hz)]
                refine J.seq ?_
                refine J.region ?_
                refine L.va rfl (X.fieldAddr rfl Tryd.underlying33 rfl sz_4 (by decide)) ?_
                refine L.store rfl rfl (by conv => lhs; whnf) rfl sz_4 (hk26) (by first | decide | exact Nat.le_of_ble_eq_true rfl) ?_
                intro w7 hk7 hg7 hs7
                have hk47 := hk46.grown hg7 n24.symm
                refine L.nil ?_
                refine J.seq ?_
                refine J.region ?_
                refine L.va rfl ((by first | exact X.loadAgg rfl (range_l hk7) Tryd.underlying33 rfl (by kernel_rfl) | exact X.loadAgg rfl (range_blk hk7) Tryd.underlying33 rfl (by kernel_rfl))) ?_
                refine L.storeAgg (vs := [_, _, _, _, _, _, _]) rfl rfl rfl rfl sz_33 (hk47) rfl ?_
                intro w8 hk8 hg8 hs8
                refine L.va rfl (X.assign (by conv => lhs; whnf)) ?_
                refine L.va rfl (X.assign (by conv => lhs; whnf)) ?_
                refine L.nil ?_
                refine J.ret ?_
                refine thn_ret <| ?_
                have he8 : Ext w w8 := (he06.grw hg7 g2).grw hg8 g4
                have H8 := h.ext he8
                refine finCTT rfl (run_cell hk8 Tryd.underlying33 rfl (by kernel_rfl)) ?_
                unfold DoC
                rw [e1]
                exact ⟨{ r with off := true }, none, 0, 0, rfl, ⟨H8.hk, H8.hp, H8.kd, H8.pd, H8.h1, H8.hN⟩, rfl, .inl ⟨rfl, rfl⟩, he8, Fr.refl _ _, fun _ => CF.same rfl rfl, fun h => absurd h (by decide)⟩
              · rw [if_neg (show ¬ r.abs.left = 0 from hz)] at e0
                refine J.skip ?_
                refine J.cut (X := Unit) [104, 105, 106, 107, 108, 109, 110] (fun _ => []) (fun _ w' => Blk w' b2 33 #[r.K, r.P, .bool r.off, .int .i64 (Dk.dec1 r.left), .int .i64 r.rd, .int .i64 r.wr, .int .i64 r.fl] ∧ Blk w' b3 58 x.vals.toArray ∧ Blk w' b4 33 #[.slice none 0 0, .slice none 0 0, .bool false, .int .i64 0, .int .i64 0, .int .i64 0, .int .i64 0] ∧ Ext w w') ?_ ?_
                · refine J.seq ?_
                  refine J.region ?_
                  refine L.va rfl (X.fieldAddr rfl Tryd.underlying33 rfl sz_3 (by decide)) ?_
                  refine L.va rfl (X.load rfl sc_3 (by first | exact Ld.blk hk26 rfl | exact Ld.blk hk36 rfl)) ?_
                  refine L.va rfl (X.gtr rfl rfl) ?_
                  refine L.nil ?_
                  refine J.dec rfl (fun hpos => ?_) (fun hpos => ?_)
                  · refine J.region ?_
                    refine L.va rfl (X.fieldAddr rfl Tryd.underlying33 rfl sz_3 (by decide)) ?_
                    refine L.va rfl (X.load rfl sc_3 (by first | exact Ld.blk hk26 rfl | exact Ld.blk hk36 rfl)) ?_
                    refine L.va rfl (X.sub rfl rfl (by omega)) ?_
                    refine L.va rfl (X.fieldAddr rfl Tryd.underlying33 rfl sz_3 (by decide)) ?_
                    refine L.store rfl rfl (by conv => lhs; whnf) rfl sz_3 (hk26) (by first | decide | exact Nat.le_of_ble_eq_true rfl) ?_
                    intro w7 hk7 hg7 hs7
                    refine L.nil ?_
                    refine ⟨(), At0 , (by (iterate 7 refine Agr.lk rfl ?_); exact Agr.rfl'), ?_⟩
                    refine ⟨?_, hk36.grown hg7 n23.symm, hk46.grown hg7 n24.symm, he06.grw hg7 g2⟩
                    rw [show Dk.dec1 r.left = r.left - 1 from if_pos hpos]
                    exact hk7
                  · refine J.skip ?_
                    refine ⟨(), At0 , (by (iterate 3 refine Agr.lk rfl ?_); exact Agr.rfl'), ?_⟩
                    refine ⟨?_, hk36, hk46, he06⟩
                    rw [show Dk.dec1 r.left = r.left from if_neg hpos]
                    exact hk26
                · rintro ⟨⟩ g w7 ⟨hk27, hk37, hk47, he07⟩
                  have hk37 : Blk w7 b3 58 #[.int .i64 x.kind, .int .i64 x.n, .slice x.dA x.dn x.dc, .bool x.odd, .slice x.kA x.kn x.kc] := hk37
                  refine J.seq ?_
                  refine J.seq ?_
                  refine J.region ?_
                  refine L.va rfl (X.fieldAddr rfl Tryd.underlying58 rfl sz_3 (by decide)) ?_
                  refine L.va rfl (X.load rfl sc_3 (by first | exact Ld.blk hk27 rfl | exact Ld.blk hk37 rfl)) ?_
                  refine L.va rfl (X.eql rfl rfl) ?_
                  refine L.nil ?_
                  refine J.dec rfl (fun k1 => ?_) (fun k1 => ?_)
                  · have k1' : x.dd.kind = 1 := k1
                    rw [if_pos k1'] at e0
                    have hby1 := hby k1'
                    have hr0 := hrange (by omega)
                    obtain ⟨i, hi⟩ := Int.eq_ofNat_of_zero_le hr0.1
                    have hik : i < r.kp.length := by omega
                    refine J.seq ?_
                    refine J.region ?_
                    refine L.va rfl (X.fieldAddr rfl Tryd.underlying33 rfl sz_3 (by decide)) ?_
                    refine L.va rfl (X.load rfl sc_3 (by first | exact Ld.blk hk27 rfl | exact Ld.blk hk37 rfl)) ?_
                    refine L.va rfl (X.add rfl rfl (by omega)) ?_
                    refine L.va rfl (X.fieldAddr rfl Tryd.underlying33 rfl sz_3 (by decide)) ?_
                    refine L.store rfl rfl (by conv => lhs; whnf) rfl sz_3 (hk27) (by first | decide | exact Nat.le_of_ble_eq_true rfl) ?_
                    intro w8 hk8 hg8 hs8
                    have hk38 := hk37.grown hg8 n23.symm
                    have hk48 := hk47.grown hg8 n24.symm
                    have he08 : Ext w w8 := he07.grw hg8 g2
                    have H8 := h.ext he08
                    have X8 := hx.low (Below.mono he08 hM)
                    have hM8 := Nat.le_trans hM he08.le
                    have X8o : x.odd = true → x.At N w8 := fun ho => (hxo ho).low (Below.mono he08 h.hN)
                    have hk8 : Blk w8 b2 33 #[r.K, r.P, .bool r.off, .int .i64 (Dk.dec1 r.left), .int .i64 r.rd, .int .i64 (r.wr + 1), .int .i64 r.fl] := hk8
                    have hN8 := H8.hN
                    have hpone := h.pone
                    refine L.nil ?_
                    refine J.cut (X := Option Addr × Nat × Value) [118, 119, 120, 121, 122, 123, 124, 125, 126, 127, 128, 129] (fun _ => []) (fun y w' => Blk w' b2 33 #[r.K, .slice y.1 (r.pp.length + 1) y.2.1, .bool r.off, .int .i64 (Dk.dec1 r.left), .int .i64 r.rd, .int .i64 (r.wr + 1), .int .i64 r.fl] ∧ w'.ownsRow N 110 2 (.slice y.1 (r.pp.length + 1) y.2.1) (r.pp.length + 1) (pcs (r.pp ++ [(i, (y.2.2, x.dd.bytes))])) ∧ RD N w' y.2.2 x.dd.bytes ∧ Blk w' b4 33 #[.slice none 0 0, .slice none 0 0, .bool false, .int .i64 0, .int .i64 0, .int .i64 0, .int .i64 0] ∧ Ext w w' ∧ (x.odd = false → Fsh w.heap.size y.2.2)) ?_ ?_
                    ·
                      refine J.draw (ℓ := 12) (S := Ext w8) mixed (fun w9 hS hS_h => ?_)
                      have z9 := hS.le
                      refine D.va 1 rfl (by kernel_rfl) (fun _ _ _ h => h) rfl (fun w' hw => X.fieldAddr rfl Tryd.underlying33 rfl sz_31 (by decide)) hS ?_
                      refine D.va 2 rfl (by kernel_rfl) (fun _ _ _ h => h) rfl (fun w' hw => X.load rfl sc_31 (by first | exact Ld.blk (hk8.ext hw) rfl | exact Ld.blk (hk38.ext hw) rfl)) hS ?_
                      refine D.va 4 rfl (by kernel_rfl) (fun _ _ _ h => h) rfl (fun w' hw => X.fieldAddr rfl Tryd.underlying58 rfl sz_3 (by decide)) hS ?_
                      refine D.va 5 rfl (by kernel_rfl) (fun _ _ _ h => h) rfl (fun w' hw => X.load rfl sc_3 (by first | exact Ld.blk (hk8.ext hw) rfl | exact Ld.blk (hk38.ext hw) rfl)) hS ?_
                      refine D.va 6 rfl (by kernel_rfl) (fun _ _ _ h => h) rfl (fun w' hw => (by first | exact X.loadAgg rfl (range_l (hk8.ext hw)) Tryd.underlying58 rfl (by kernel_rfl) | exact X.loadAgg rfl (range_blk (hk8.ext hw)) Tryd.underlying58 rfl (by kernel_rfl) | exact X.loadAgg rfl (range_l (hk38.ext hw)) Tryd.underlying58 rfl (by kernel_rfl) | exact X.loadAgg rfl (range_blk (hk38.ext hw)) Tryd.underlying58 rfl (by kernel_rfl))) hS ?_
                      have z18 := (hS).le
                      refine D.one 0 (by kernel_rfl) rfl ?_
                      refine L.bsliceR (ls := []) rfl Evs.nil rfl rfl rfl rfl Tryd.underlying31 sz_110 zr_110 (by decide) ?_
                      intro bA wA hbA hsA hkA heA
                      have hS1 := (hS).trans heA
                      refine L.nil ?_
                      refine ⟨fun _ => hS1, ?_⟩
                      have hoA : wA.ownsRow w8.heap.size 110 2 (.slice (some ⟨bA, 0, none⟩) 0 0) 0 [] := blk_own (size := 2) hkA (by omega : w8.heap.size ≤ bA) (Nat.le_refl _) (by decide) rfl
                      try replace hDB := hDB.ext heA (by omega)
                      try replace hkC := hkC.ext heA
                      have z21 := (hS1).le
                      refine D.one 3 (by kernel_rfl) rfl ?_
                      refine L.appendV (q := r.pp.length) (ys := pcs r.pp) rfl rfl rfl Tryd.underlying31 el_110 (hoA) ((H8.ext hS1).pRd) (by first | rfl | exact strs_ones _ | assumption) (by omega) (by simp) (by unfold maxLen; omega) (by omega) ?_
                      intro A1 c1 w1 ho1 hg1 hb1 hor1
                      have hS2 := (hS1).grw hg1 (fun g hg ↦ (own_isT hoA hg).2)
                      refine L.nil ?_
                      refine ⟨fun _ => hS2, ?_⟩
                      try replace hDB := hDB.own hoA hg1 hN8 (by omega) (by decide)
                      try replace hkC := hkC.grown hg1 (show some bC ≠ some bA from by intro e; injection e with e; omega)
                      have z1 := hg1.size
                      have z25 := (hS2).le
                      refine D.one 7 (by kernel_rfl) rfl ?_
                      refine L.call rfl en_52 rfl ((Dm.bytesG (X8.low (Below.mono hS2 hM8)) (by omega) (fun ho ↦ (X8o ho).low (Below.mono hS2 hN8)) (by omega) hdn)) ?_
                      rintro e wB ⟨AB, cB, rfl, hrB, hDB, heB, hfB⟩
                      refine ⟨_, rfl, ?_⟩
                      have hS3 := (hS2).trans heB
                      refine L.nil ?_
                      refine ⟨fun _ => hS3, ?_⟩
                      have heB : Ext _ wB := heB
                      replace hDB := hDB hby1
                      rw [hby1]
                      rw [hby1] at hfB
                      have hfB : x.odd = false → Fsh w.heap.size (.slice AB 1024 cB) := fun ho => ⟨fun g hg => Nat.le_trans he08.le (Nat.le_trans z25 ((hfB ho).1 g hg)), (hfB ho).2⟩
                      have zB := heB.le
                      try replace hoA := hoA.ext heB
                      try replace ho1 := ho1.ext heB
                      refine D.va 8 rfl (by kernel_rfl) (fun _ _ _ h => h) rfl (fun w' hw => X.build (l := [_, _]) (Evs.cons (by conv => lhs; whnf) (Evs.cons (by conv => lhs; whnf) Evs.nil)) (bld_run Tryd.underlying110 (bp_110 Tryd.underlying110) zr_110 rfl)) hS3 ?_
                      have z27 := (hS3).le
                      refine D.one 9 (by kernel_rfl) rfl ?_
                      refine L.bslice1 (l := [_, _]) rfl rfl rfl Tryd.underlying31 sz_110 zr_110 rfl ?_
                      intro bC wC hbC hsC hkC heC
                      have hS4 := (hS3).trans heC
                      refine L.nil ?_
                      refine ⟨fun _ => hS4, ?_⟩
                      replace hDB := hDB.ext heC (by omega)
                      try replace hoA := hoA.ext heC
                      try replace ho1 := ho1.ext heC
                      have z28 := (hS4).le
                      refine D.one 10 (by kernel_rfl) rfl ?_
                      refine L.appendV (q := r.pp.length + 1) (ys := pcs r.pp ++ [.int .i64 x.n, .slice AB 1024 cB]) rfl rfl rfl Tryd.underlying31 el_110 (ho1) ((blk_readsN (sz := 2) (q := 1) (l := [.int .i64 x.n, .slice AB 1024 cB]) hkC hkC.lt rfl)) (by first | rfl | exact strs_ones _ | assumption) (by omega) (by simp) (by unfold maxLen; omega) (by omega) ?_
                      intro A2 c2 w2 ho2 hg2 hb2 hor2
                      have hS5 := (hS4).grw hg2 (fun g hg ↦ (own_isT ho1 hg).2)
                      refine L.nil ?_
                      refine ⟨fun _ => hS5, ?_⟩
                      replace hDB := hDB.own ho1 hg2 hN8 (by omega) (by decide)
                      have hkF := hk8.ext hS5
                      have hkG := hk48.ext hS5
                      have heF := he08.trans hS5
                      refine D.va 11 rfl (by kernel_rfl) (fun _ _ _ h => h) rfl (fun w' hw => X.fieldAddr rfl Tryd.underlying33 rfl sz_31 (by decide)) hS5 ?_
                      refine D.one 12 (by kernel_rfl) rfl ?_
                      refine L.store rfl rfl (by conv => lhs; whnf) rfl sz_31 (hkF) (by first | decide | exact Nat.le_of_ble_eq_true rfl) ?_
                      intro w3 hk3 hg3 hs3
                      refine L.nil ?_
                      refine ⟨fun h => absurd rfl h, ?_⟩
                      refine D.done (by kernel_rfl) ?_
                      replace hk8 := hk8.ext hS5
                      replace hk38 := hk38.ext hS5
                      refine ⟨(A2, c2, .slice AB 1024 cB), At0 , (by (iterate 12 refine Agr.lk rfl ?_); exact Agr.rfl'), ?_⟩
                      refine ⟨hk3, ?_, ?_, hkG.grown hg3 n24.symm, heF.grw hg3 g2, hfB⟩
                      · have := (ho2.kept hg3 (.inr (own_blk_ne ho2 hkF (by decide)))).mono hN8
                        rw [← pcs_append]
                        rw [hi] at this
                        exact this
                      · exact hDB.blk hkF hg3 (by have := g2 b2 rfl; omega) (by have := heF.le; omega) (by decide)
                    · rintro ⟨A2, c2, xB⟩ g w9 ⟨hk9, ho9, hD9, hk49, he09, hfx⟩
                      dsimp only at hk9 ho9 hD9
                      refine J.seq ?_
                      refine J.region ?_
                      refine L.va rfl ((by first | exact X.loadAgg rfl (range_l hk9) Tryd.underlying33 rfl (by kernel_rfl) | exact X.loadAgg rfl (range_blk hk9) Tryd.underlying33 rfl (by kernel_rfl))) ?_
                      refine L.storeAgg (vs := [_, _, _, _, _, _, _]) rfl rfl rfl rfl sz_33 (hk49) rfl ?_
                      intro w10 hk10 hg10 hs10
                      refine L.va rfl (X.assign (by conv => lhs; whnf)) ?_
                      refine L.va rfl (X.assign (by conv => lhs; whnf)) ?_
                      refine L.nil ?_
                      refine J.ret ?_
                      refine thn_ret <| ?_
                      have he10 : Ext w w10 := he09.grw hg10 g4
                      have H10 := h.ext he10
                      have hlen : (r.pp ++ [(i, (xB, x.dd.bytes))]).length = r.pp.length + 1 := by simp
                      have hin : x.dd.n.toNat = i := by show x.n.toNat = i; omega
                      refine finCTT rfl (run_cell hk10 Tryd.underlying33 rfl (by kernel_rfl)) ?_
                      unfold DoC
                      rw [e0]
                      refine ⟨{ r with left := Dk.dec1 r.left, wr := r.wr + 1, pA := A2, pc := c2, pp := r.pp ++ [(i, (xB, x.dd.bytes))] }, none, 0, 0, ?_, ⟨H10.hk, ?_, H10.kd, fun y hy => ?_, H10.h1, H10.hN⟩, ?_, .inl ⟨rfl, rfl⟩, he10, Fr.refl _ _, fun h => CF.push (hfx h) rfl rfl, fun h => absurd h (by decide)⟩
                      · unfold Rk.v Rk.vals Rk.P
                        dsimp only
                        rw [hlen]
                        rfl
                      · unfold Rk.P
                        dsimp only
                        rw [hlen]
                        exact ho9.kept hg10 (.inr (own_blk_ne ho9 hk49 (by decide)))
                      · rcases List.mem_append.1 hy with hy | hy
                        · exact H10.pd y hy
                        · obtain rfl : y = (i, (xB, x.dd.bytes)) := by simpa using hy
                          exact ⟨hik, hD9.blk hk49 hg10 (by have := g4 b4 rfl; omega) (by have := he09.le; omega) (by decide)⟩
                      · unfold Rk.abs abs_
                        dsimp only
                        rw [List.map_append, hin]
                        rfl
                  · have k1' : ¬ x.dd.kind = 1 := k1
                    rw [if_neg k1'] at e0
                    refine J.skip ?_
                    refine J.seq ?_
                    refine J.region ?_
                    refine L.va rfl (X.fieldAddr rfl Tryd.underlying33 rfl sz_3 (by decide)) ?_
                    refine L.va rfl (X.load rfl sc_3 (by first | exact Ld.blk hk27 rfl | exact Ld.blk hk37 rfl)) ?_
                    refine L.va rfl (X.add rfl rfl (by omega)) ?_
                    refine L.va rfl (X.fieldAddr rfl Tryd.underlying33 rfl sz_3 (by decide)) ?_
                    refine L.store rfl rfl (by conv => lhs; whnf) rfl sz_3 (hk27) (by first | decide | exact Nat.le_of_ble_eq_true rfl) ?_
                    intro w8 hk8 hg8 hs8
                    have hk48 := hk47.grown hg8 n24.symm
                    have he08 : Ext w w8 := he07.grw hg8 g2
                    have H8 := h.ext he08
                    have hk8 : Blk w8 b2 33 (rf r 0 r.kA r.kc).vals.toArray := hk8
                    have hR8 : At (rf r 0 r.kA r.kc) N w8 := ⟨H8.hk, H8.hp, H8.kd, H8.pd, H8.h1, H8.hN⟩
                    refine L.nil ?_
                    refine J.seq ?_
                    refine J.seq ?_
                    refine J.region ?_
                    refine L.va rfl (X.assign (by conv => lhs; whnf)) ?_
                    refine L.nil ?_
                    refine J.block ?_
                    refine J.loop (X := Nat × Option Addr × Nat) [8, 135, 136, 137, 138, 139, 140, 141, 142, 143, 144, 145, 146, 147, 148, 149, 150, 151, 152, 153, 154, 155] (fun s => [(8, .int .i64 (s.1 : Int))]) (fun s w' => s.1 ≤ r.pp.length ∧ Blk w' b2 33 (rf r s.1 s.2.1 s.2.2).vals.toArray ∧ Blk w' b4 33 #[.slice none 0 0, .slice none 0 0, .bool false, .int .i64 0, .int .i64 0, .int .i64 0, .int .i64 0] ∧ At (rf r s.1 s.2.1 s.2.2) N w' ∧ Ext w w' ∧ Fr (rf r s.1 s.2.1 s.2.2) r w) (fun s => r.pp.length - s.1) ((0, r.kA, r.kc)) (At1 (by first | rfl | exact at_int rfl (by omega) | exact at_slice rfl (by omega) | exact at_int rfl (by simp))) ?_ ?_
                    · exact ⟨Nat.zero_le _, hk8, hk48, hR8, he08, Fr.refl _ _⟩
                    · rintro ⟨i, kA, kc⟩ g w9 ⟨hi, hk9, hk49, hR9, he09, hF9⟩
                      dsimp only at hi hk9 hR9 hF9
                      have q1 : ((i, kA, kc) : Nat × Option Addr × Nat).1 = i := rfl
                      have hk9 : Blk w9 b2 33 #[.slice kA (keI (fun _ => true) r.kp c0 r.pp i).length kc, .slice r.pA r.pp.length r.pc, .bool r.off, .int .i64 (Dk.dec1 r.left), .int .i64 r.rd, .int .i64 r.wr, .int .i64 (r.fl + 1)] := hk9
                      refine J.seq ?_
                      refine J.seq ?_
                      refine J.region ?_
                      refine L.va rfl (X.move (by conv => lhs; whnf)) ?_
                      refine L.va rfl (X.fieldAddr rfl Tryd.underlying33 rfl sz_31 (by decide)) ?_
                      refine L.va rfl (X.load rfl sc_31 (by first | exact Ld.blk hk9 rfl)) ?_
                      refine L.va rfl (X.len rfl Tryd.underlying31) ?_
                      refine L.va rfl (X.lss rfl rfl) ?_
                      refine L.nil ?_
                      refine J.dec rfl (fun hlt => ?_) (fun hlt => ?_)
                      · have hil : i < r.pp.length := by dsimp only at hlt; omega
                        have hpA : r.pA ≠ none := (show Reads w9 w9.heap.size 2 r.pA r.pp.length (pcs r.pp) from hR9.pRd).some_ (by omega)
                        have hpd := hR9.pDat (i := i) hil
                        have z09 := he09.le
                        refine J.skip ?_
                        refine J.seq ?_
                        refine J.block ?_
                        refine J.draw (ℓ := 14) (S := Ext w9) mixed (fun w10 hS hS_h => ?_)
                        refine D.va 0 rfl (by kernel_rfl) (fun _ _ _ h => h) rfl (fun w' hw => (by first | exact X.loadAgg rfl (range_l (hk9.ext hw)) Tryd.underlying33 rfl (by kernel_rfl) | exact X.loadAgg rfl (range_blk (hk9.ext hw)) Tryd.underlying33 rfl (by kernel_rfl))) hS ?_
                        refine D.va 1 rfl (by kernel_rfl) (fun _ _ _ h => h) rfl (fun w' hw => X.fieldAddr rfl Tryd.underlying33 rfl sz_31 (by decide)) hS ?_
                        refine D.va 2 rfl (by kernel_rfl) (fun _ _ _ h => h) rfl (fun w' hw => X.load rfl sc_31 (by first | exact Ld.blk (hk9.ext hw) rfl | exact hpA)) hS ?_
                        refine D.va 3 rfl (by kernel_rfl) (fun _ _ _ h => h) rfl (fun w' hw => X.move (by conv => lhs; whnf)) hS ?_
                        refine D.va 4 rfl (by kernel_rfl) (fun _ _ _ h => h) rfl (fun w' hw => (by first | exact X.indexAddrn rfl rfl Tryd.underlying31 sz_110 (by first | exact Option.some_ne_none _ | exact hpA) (by omega) | exact X.indexAddr rfl rfl Tryd.underlying31 sz_110 (by first | exact Option.some_ne_none _ | exact hpA) (by omega))) hS ?_
                        refine D.va 5 rfl (by kernel_rfl) (fun _ _ _ h => h) rfl (fun w' hw => X.fieldP rfl Tryd.underlying110 rfl sz_3 (by decide) (by first | exact Option.some_ne_none _ | exact hpA)) hS ?_
                        refine D.va 6 rfl (by kernel_rfl) (fun _ _ _ h => h) rfl (fun w' hw => X.load rfl sc_3 ((hR9.ext hw).pLdA hil)) hS ?_
                        refine D.va 7 rfl (by kernel_rfl) (fun _ _ _ h => h) rfl (fun w' hw => X.fieldAddr rfl Tryd.underlying33 rfl sz_31 (by decide)) hS ?_
                        refine D.va 8 rfl (by kernel_rfl) (fun _ _ _ h => h) rfl (fun w' hw => X.load rfl sc_31 (by first | exact Ld.blk (hk9.ext hw) rfl | exact hpA)) hS ?_
                        refine D.va 9 rfl (by kernel_rfl) (fun _ _ _ h => h) rfl (fun w' hw => X.move (by conv => lhs; whnf)) hS ?_
                        refine D.va 10 rfl (by kernel_rfl) (fun _ _ _ h => h) rfl (fun w' hw => (by first | exact X.indexAddrn rfl rfl Tryd.underlying31 sz_110 (by first | exact Option.some_ne_none _ | exact hpA) (by omega) | exact X.indexAddr rfl rfl Tryd.underlying31 sz_110 (by first | exact Option.some_ne_none _ | exact hpA) (by omega))) hS ?_
                        refine D.va 11 rfl (by kernel_rfl) (fun _ _ _ h => h) rfl (fun w' hw => X.fieldP rfl Tryd.underlying110 rfl sz_39 (by decide) (by first | exact Option.some_ne_none _ | exact hpA)) hS ?_
                        refine D.va 12 rfl (by kernel_rfl) (fun _ _ _ h => h) rfl (fun w' hw => X.load rfl sc_39 ((hR9.ext hw).pLdB hil)) hS ?_
                        refine D.one 13 (by kernel_rfl) rfl ?_
                        refine L.call rfl en_50 rfl (((hR9.ext hS).with_ _ _ rfl hpd.1 (r.pp.getD i p0).2 (hpd.2.ext hS hR9.hN))) ?_
                        rintro e w11 ⟨kA', kc', rfl, hR11, he11, hf11⟩
                        refine ⟨_, rfl, ?_⟩
                        have hS1 := hS.trans he11
                        refine L.nil ?_
                        refine ⟨fun _ => hS1, ?_⟩
                        have hk9b := hk9.ext hS1
                        have hk49b := hk49.ext hS1
                        refine D.one 14 (by kernel_rfl) rfl ?_
                        refine L.storeAgg (vs := [_, _, _, _, _, _, _]) rfl rfl rfl rfl sz_33 (hk9b) rfl ?_
                        intro w12 hk12 hg12 hs12
                        refine L.nil ?_
                        refine ⟨fun h => absurd rfl h, ?_⟩
                        refine D.done (by kernel_rfl) ?_
                        refine J.region ?_
                        refine L.va rfl (X.move (by conv => lhs; whnf)) ?_
                        refine L.va rfl (X.add rfl rfl (by omega)) ?_
                        refine L.va rfl (X.assign (by conv => lhs; whnf)) ?_
                        refine L.nil ?_
                        refine ⟨(i + 1, kA', kc'), At1 (by first | rfl | exact at_int rfl (by omega) | exact at_slice rfl (by omega) | exact at_int rfl (by simp)), (by (iterate 22 refine Agr.lk rfl ?_); exact Agr.lk rfl (Agr.hav rfl Agr.rfl')), ?_⟩
                        have he0 : Ext w w12 := (he09.trans hS1).grw hg12 g2
                        have hR12 := hR11.blk hk9b hg12 (by have := g2 b2 rfl; omega)
                        have hlen : (keI (fun _ => true) r.kp c0 r.pp (i + 1)).length = (keI (fun _ => true) r.kp c0 r.pp i).length := by rw [keI_length, keI_length]
                        refine ⟨⟨by dsimp only; omega, ?_, (hk49b.grown hg12 n24.symm), hR12, he0, fun g hg => .inr ?_⟩, by dsimp only; omega⟩
                        · exact hk12
                        · have hg' : Value.ownBlock (.slice kA' (keI (fun _ => true) r.kp c0 r.pp (i + 1)).length kc') = some g := hg
                          rw [hlen] at hg'
                          have k1 := hf11 g hg'
                          have := Ext.le hS
                          omega
                      · obtain rfl : i = r.pp.length := by dsimp only at hlt; omega
                        refine J.exit ?_
                        refine J.seq ?_
                        refine J.region ?_
                        refine L.va rfl (X.fieldAddr rfl Tryd.underlying33 rfl sz_31 (by decide)) ?_
                        refine L.store rfl rfl (by conv => lhs; whnf) rfl sz_31 (hk9) (by first | decide | exact Nat.le_of_ble_eq_true rfl) ?_
                        intro w10 hk10 hg10 hs10
                        have hk410 := hk49.grown hg10 n24.symm
                        refine L.nil ?_
                        refine J.seq ?_
                        refine J.region ?_
                        refine L.va rfl ((by first | exact X.loadAgg rfl (range_l hk10) Tryd.underlying33 rfl (by kernel_rfl) | exact X.loadAgg rfl (range_blk hk10) Tryd.underlying33 rfl (by kernel_rfl))) ?_
                        refine L.storeAgg (vs := [_, _, _, _, _, _, _]) rfl rfl rfl rfl sz_33 (hk410) rfl ?_
                        intro w11 hk11 hg11 hs11
                        refine L.va rfl (X.assign (by conv => lhs; whnf)) ?_
                        refine L.va rfl (X.assign (by conv => lhs; whnf)) ?_
                        refine L.nil ?_
                        refine J.ret ?_
                        have he11 : Ext w w11 := (he09.grw hg10 g2).grw hg11 g4
                        have hR11 := (hR9.blk hk9 hg10 (by have := g2 b2 rfl; omega)).blk hk410 hg11 (by have := g4 b4 rfl; omega)
                        refine finCTT rfl (run_cell hk11 Tryd.underlying33 rfl (by kernel_rfl)) ?_
                        unfold DoC
                        rw [e0]
                        refine ⟨{ rf r r.pp.length kA kc with pA := none, pc := 0, pp := [] }, none, 0, 0, rfl, ⟨hR11.hk, own_nil _ _ _ _, hR11.kd, (fun y hy => by cases hy), hR11.h1, hR11.hN⟩, ?_, .inl ⟨rfl, rfl⟩, he11, hF9, fun _ => CF.ke _ rfl rfl, fun h => absurd h (by decide)⟩
                        unfold Rk.abs abs_
                        dsimp only
                        rw [abs_ke]
                        rfl
theorem At.do_ (h : r.At N w) {m : Nat} (hok : r.abs.Ok m) (hm : m ≤ 1000000) (x : Dm) (hx : x.At N w) (hdn : x.dn ≤ 1000000) (hkn : x.kn ≤ 1000000) :
    Calls Tryd.prog 18 #[r.v, x.v] w fun e w' => DoR r N x.dd w e w' := (h.doC hok hm x h.hN hx (fun _ => hx) hdn hkn).mono fun _ _ ⟨r', A, n, c, e, h1, h2, h3, h4, h5, _⟩ => ⟨r', A, n, c, e, h1, h2, h3, h4, h5⟩
end Rk
end Go.Proofs.YtjdimgigbgafbaaDoor
namespace Go.Proofs.YtjdimgigbgafbaaDoor
set_option maxRecDepth 100000
open Go.RowKit H
set_option linter.unusedVariables false
namespace Dk
variable {v : Dk} {N : Nat} {C : Nat → Prop} {w w' : World}
theorem At.blkKq {g t : Nat} {cs : Array Value} (h : v.At N C w) (k : Kq v.kb v.d C w w') (hb : Blk w g t cs) (h1 : t ≠ 39) (h2 : t ≠ 105) (h3 : t ≠ 107) : Blk w' g t cs :=
  k.same (t := 0) hb (fun e => by subst e; exact absurd (hb.isT.fun_ h.kT.1) h1) (fun e => by subst e; exact absurd (hb.isT.fun_ h.dT) h2) (fun ht => absurd (hb.isT.fun_ ht) h3)
def To (v : Dk) (N : Nat) (C : Nat → Prop) (s : Ds) (w w' : World) : Prop := ∃ v' : Dk, v'.At N C w' ∧ v'.d = v.d ∧ v'.kb = v.kb ∧ v'.abs = s ∧ Kq v.kb v.d C w w'
theorem At.to (h : v.At N C w) : v.To N C v.abs w w := ⟨v, h, rfl, rfl, rfl, Kq.refl _ _ _ _⟩
theorem klen (v : Dk) : v.abs.kept.length = v.kp.length := by simp [Dk.abs, abs_]
theorem plen (v : Dk) : v.abs.pend.length = v.pp.length := by simp [Dk.abs, abs_]
theorem okB {m : Nat} (hok : v.abs.Ok m) (hm : m ≤ 1000000) : v.pp.length ≤ 1000000 ∧ (0 ≤ v.rd ∧ v.rd ≤ 1000000) ∧ (0 ≤ v.wr ∧ v.wr ≤ 1000000) ∧ (0 ≤ v.fl ∧ v.fl ≤ 1000000) := by
  have h := hok.hm
  have e := v.plen
  have e1 : v.abs.rd = v.rd := rfl
  have e2 : v.abs.wr = v.wr := rfl
  have e3 : v.abs.fl = v.fl := rfl
  omega
theorem At.read_any (h : v.At N C w) {m : Nat} (hok : v.abs.Ok m) (hm : m ≤ 1000000) (x : Dd) (hx : x.kind = 0) : Calls Tryd.prog 36 #[v.ptr, .int .i64 x.n] w fun e w' =>
    ∃ A n c, e = .returned (.tuple #[.slice A n c, .int .i64 (v.abs.do_ x).2.2]) ∧ w'.ownsRow w.heap.size 5 1 (.slice A n c) n (nums .u8 (v.abs.do_ x).2.1) ∧ v.To N C (v.abs.do_ x).1 w w' := by
  obtain ⟨b1, b2, b3, b4⟩ := okB hok hm
  have hkl := v.klen
  by_cases ho : v.off = true
  · have e : v.abs.do_ x = (v.abs, [], 14) := by unfold Ds.do_; rw [if_neg (by omega), if_neg (by omega), if_pos (show v.abs.off = true from ho)]
    have ha : askD v.off v.kp.length x.n = 14 := if_pos ho
    rw [e]
    refine (h.read_no x.n (by rw [ha]; decide)).mono fun e w' ⟨he, hw⟩ => ?_
    subst hw
    rw [ha] at he
    exact ⟨none, 0, 0, he, own_nilN _ _ _ _, h.to⟩
  by_cases hr : x.n < 0 ∨ (v.kp.length : Int) ≤ x.n
  · have e : v.abs.do_ x = (v.abs, [], 2) := by unfold Ds.do_; rw [if_neg (by omega), if_neg (by omega), if_neg (show ¬ v.abs.off = true from ho), if_pos ⟨by omega, by rw [hkl]; exact hr⟩]
    have ha : askD v.off v.kp.length x.n = 2 := by rw [askD, if_neg ho, if_pos hr]
    rw [e]
    refine (h.read_no x.n (by rw [ha]; decide)).mono fun e w' ⟨he, hw⟩ => ?_
    subst hw
    rw [ha] at he
    exact ⟨none, 0, 0, he, own_nilN _ _ _ _, h.to⟩
  · obtain ⟨i, hi⟩ := Int.eq_ofNat_of_zero_le (show 0 ≤ x.n by omega)
    have e : v.abs.do_ x = ({ v.abs with rd := v.abs.rd + 1 }, (v.now i).2, 0) := by
      unfold Ds.do_
      rw [if_neg (by omega), if_neg (by omega), if_neg (show ¬ v.abs.off = true from ho), if_neg (by rw [hkl]; rintro ⟨_, hh⟩; exact hr hh), if_pos hx, Dk.now, abs_now, show x.n.toNat = i by omega]
      rfl
    rw [e, hi]
    refine (h.read_ok i (by omega) (by simpa using ho) b2 b1).mono fun e w' ⟨A, c, he, ho', hv, hk⟩ => ?_
    exact ⟨A, 1024, c, he, ho', _, hv, rfl, rfl, rfl, hk⟩
end Dk
end Go.Proofs.YtjdimgigbgafbaaDoor
namespace Go.Proofs.YtjdimgigbgafbaaDoor
set_option maxRecDepth 100000
open Go.RowKit H
set_option linter.unusedVariables false
namespace Dk
variable {v : Dk} {N : Nat} {C : Nat → Prop} {w w' : World}
def Cl (v : Dk) (x : Value) : Prop := (∃ y ∈ v.kp, y.1 = x) ∨ ∃ y ∈ v.pp, y.2.1 = x
def Fr (v v' : Dk) (n : Nat) : Prop := ∀ x, v'.Cl x → v.Cl x ∨ ∀ g, sblk x = some g → n ≤ g
theorem Fr.refl (v : Dk) (n : Nat) : v.Fr v n := fun x hx => .inl hx
theorem Fr.trans {a b c : Dk} {n m : Nat} (h : a.Fr b n) (k : b.Fr c m) (hn : n ≤ m) : a.Fr c n := fun x hx => (k x hx).elim (fun h2 => h x h2) (fun h2 => .inr fun g hg => Nat.le_trans hn (h2 g hg))
theorem Fr.same {v' : Dk} {n : Nat} (h1 : v'.kp = v.kp) (h2 : v'.pp = v.pp) : v.Fr v' n := fun x hx => .inl (by unfold Cl at *; rwa [h1, h2] at hx)
theorem Fr.ke {v' : Dk} {n : Nat} (f : Nat → Bool) (h1 : v'.kp = keI f v.kp c0 v.pp v.pp.length) (h2 : v'.pp = []) : v.Fr v' n := by
  intro x hx
  refine .inl ?_
  unfold Cl at *
  rw [h1, h2] at hx
  rcases hx with ⟨y, hy, rfl⟩ | ⟨y, hy, _⟩
  · rcases keI_in hy with h | ⟨z, hz, rfl⟩
    · exact .inl ⟨y, h, rfl⟩
    · exact .inr ⟨z, hz, rfl⟩
  · cases hy
theorem Fr.push {v' : Dk} {n i : Nat} {x : Value} {zs : List Int} (hx : ∀ g, sblk x = some g → n ≤ g) (h1 : v'.kp = v.kp) (h2 : v'.pp = v.pp ++ [(i, (x, zs))]) : v.Fr v' n := by
  intro u hu
  unfold Cl at *
  rw [h1, h2] at hu
  rcases hu with h | ⟨y, hy, rfl⟩
  · exact .inl (.inl h)
  · rcases List.mem_append.1 hy with h | h
    · exact .inl (.inr ⟨y, h, rfl⟩)
    · obtain rfl : y = (i, (x, zs)) := by simpa using h
      exact .inr hx
def ToF (v : Dk) (N : Nat) (C : Nat → Prop) (s : Ds) (w w' : World) : Prop := ∃ v' : Dk, v'.At N C w' ∧ v'.d = v.d ∧ v'.kb = v.kb ∧ v'.abs = s ∧ Kq v.kb v.d C w w' ∧ v.Fr v' w.heap.size
theorem At.toF (h : v.At N C w) : v.ToF N C v.abs w w := ⟨v, h, rfl, rfl, rfl, Kq.refl _ _ _ _, Fr.refl _ _⟩
theorem At.read_anyF (h : v.At N C w) {m : Nat} (hok : v.abs.Ok m) (hm : m ≤ 1000000) (x : Dd) (hx : x.kind = 0) : Calls Tryd.prog 36 #[v.ptr, .int .i64 x.n] w fun e w' =>
    ∃ A n c, e = .returned (.tuple #[.slice A n c, .int .i64 (v.abs.do_ x).2.2]) ∧ w'.ownsRow w.heap.size 5 1 (.slice A n c) n (nums .u8 (v.abs.do_ x).2.1) ∧ v.ToF N C (v.abs.do_ x).1 w w' := by
  obtain ⟨b1, b2, b3, b4⟩ := okB hok hm
  have hkl := v.klen
  by_cases ho : v.off = true
  · have e : v.abs.do_ x = (v.abs, [], 14) := by unfold Ds.do_; rw [if_neg (by omega), if_neg (by omega), if_pos (show v.abs.off = true from ho)]
    have ha : askD v.off v.kp.length x.n = 14 := if_pos ho
    rw [e]
    refine (h.read_no x.n (by rw [ha]; decide)).mono fun e w' ⟨he, hw⟩ => ?_
    subst hw
    rw [ha] at he
    exact ⟨none, 0, 0, he, own_nilN _ _ _ _, h.toF⟩
  by_cases hr : x.n < 0 ∨ (v.kp.length : Int) ≤ x.n
  · have e : v.abs.do_ x = (v.abs, [], 2) := by unfold Ds.do_; rw [if_neg (by omega), if_neg (by omega), if_neg (show ¬ v.abs.off = true from ho), if_pos ⟨by omega, by rw [hkl]; exact hr⟩]
    have ha : askD v.off v.kp.length x.n = 2 := by rw [askD, if_neg ho, if_pos hr]
    rw [e]
    refine (h.read_no x.n (by rw [ha]; decide)).mono fun e w' ⟨he, hw⟩ => ?_
    subst hw
    rw [ha] at he
    exact ⟨none, 0, 0, he, own_nilN _ _ _ _, h.toF⟩
  · obtain ⟨i, hi⟩ := Int.eq_ofNat_of_zero_le (show 0 ≤ x.n by omega)
    have e : v.abs.do_ x = ({ v.abs with rd := v.abs.rd + 1 }, (v.now i).2, 0) := by
      unfold Ds.do_
      rw [if_neg (by omega), if_neg (by omega), if_neg (show ¬ v.abs.off = true from ho), if_neg (by rw [hkl]; rintro ⟨_, hh⟩; exact hr hh), if_pos hx, Dk.now, abs_now, show x.n.toNat = i by omega]
      rfl
    rw [e, hi]
    refine (h.read_ok i (by omega) (by simpa using ho) b2 b1).mono fun e w' ⟨A, c, he, ho', hv, hk⟩ => ?_
    exact ⟨A, 1024, c, he, ho', _, hv, rfl, rfl, rfl, hk, Fr.same rfl rfl⟩
theorem At.crash_anyF (h : v.At N C w) {m : Nat} (hok : v.abs.Ok m) (hm : m ≤ 1000000) (x : Dd) (hx : x.kind = 4) (A : Option Addr) (n c : Nat) (hr : Reads w N 1 A n (x.keep.map Value.bool)) (hn : n ≤ 1000000) : Calls Tryd.prog 17 #[v.ptr, .slice A n c] w fun e w' =>
    e = .returned (.tuple #[]) ∧ v.ToF N C (v.abs.do_ x).1 w w' := by
  obtain ⟨b1, b2, b3, b4⟩ := okB hok hm
  have e : v.abs.do_ x = ({ v.abs with kept := keI (Dk.kpF x.keep) v.abs.kept [] v.abs.pend v.abs.pend.length, pend := [], off := false, left := -1 }, [], 0) := by unfold Ds.do_; rw [if_neg (by omega), if_pos hx]
  rw [e]
  refine (h.crash_ A n c x.keep hr b1 hn).mono fun e w' ⟨he, hv, hk⟩ => ⟨he, _, hv, rfl, rfl, ?_, hk, Fr.ke _ rfl rfl⟩
  unfold Dk.abs abs_
  dsimp only
  rw [abs_ke]
  rfl
theorem At.flush_anyF (h : v.At N C w) {m : Nat} (hok : v.abs.Ok m) (hm : m ≤ 1000000) (x : Dd) (hx : x.kind = 2) : Calls Tryd.prog 32 #[v.ptr] w fun e w' =>
    e = .returned (.int .i64 (v.abs.do_ x).2.2) ∧ v.ToF N C (v.abs.do_ x).1 w w' ∧ (v.abs.do_ x).2.1 = [] := by
  obtain ⟨b1, b2, b3, b4⟩ := okB hok hm
  by_cases ho : v.off = true
  · have e : v.abs.do_ x = (v.abs, [], 14) := by unfold Ds.do_; rw [if_neg (by omega), if_neg (by omega), if_pos (show v.abs.off = true from ho)]
    rw [e]
    refine (h.flush_no ho).mono fun e w' ⟨he, hw⟩ => ?_
    subst hw
    exact ⟨he, h.toF, rfl⟩
  have ho' : v.off = false := by simpa using ho
  have e0 : v.abs.do_ x = if v.abs.left = 0 then ({ v.abs with off := true }, [], 14) else ({ v.abs with left := dec1 v.abs.left, fl := v.abs.fl + 1, kept := keI (fun _ => true) v.abs.kept [] v.abs.pend v.abs.pend.length, pend := [] }, [], 0) := by
    unfold Ds.do_
    rw [if_neg (by omega), if_neg (by omega), if_neg (show ¬ v.abs.off = true from ho), if_neg (by rintro ⟨h1, _⟩; exact h1 hx), if_neg (by omega), if_neg (by rintro ⟨h1, _⟩; omega), if_neg (show ¬ x.kind = 1 by omega)]
  by_cases hl : v.left = 0
  · rw [e0, if_pos (show v.abs.left = 0 from hl)]
    exact (h.flush_14 ho' hl).mono fun e w' ⟨he, hv, hk⟩ => ⟨he, ⟨_, hv, rfl, rfl, rfl, hk, Fr.same rfl rfl⟩, rfl⟩
  · rw [e0, if_neg (show ¬ v.abs.left = 0 from hl)]
    refine (h.flush_ok ho' hl b4 b1).mono fun e w' ⟨he, hv, hk⟩ => ⟨he, ⟨_, hv, rfl, rfl, ?_, hk, Fr.ke _ rfl rfl⟩, rfl⟩
    unfold Dk.abs abs_
    dsimp only
    rw [abs_ke]
    rfl
theorem At.write_anyF (h : v.At N C w) {m : Nat} (hok : v.abs.Ok m) (hm : m ≤ 1000000) (x : Dd) (hx : x.kind = 1) {N0 : Nat} (hN : N0 ≤ N) (A : Option Addr) (c : Nat) (hr : x.bytes.length = 1024 → RD N0 w (.slice A 1024 c) x.bytes) : Calls Tryd.prog 31 #[v.ptr, .int .i64 x.n, .slice A x.bytes.length c] w fun e w' =>
    e = .returned (.int .i64 (v.abs.do_ x).2.2) ∧ v.ToF N C (v.abs.do_ x).1 w w' ∧ (v.abs.do_ x).2.1 = [] := by
  obtain ⟨b1, b2, b3, b4⟩ := okB hok hm
  have hkl := v.klen
  by_cases ho : v.off = true
  · have e : v.abs.do_ x = (v.abs, [], 14) := by unfold Ds.do_; rw [if_neg (by omega), if_neg (by omega), if_pos (show v.abs.off = true from ho)]
    have ha : askD v.off v.kp.length x.n = 14 := if_pos ho
    rw [e]
    refine (h.write_no x.n A _ c (by rw [ha]; decide)).mono fun e w' ⟨he, hw⟩ => ?_
    subst hw
    rw [ha] at he
    exact ⟨he, h.toF, rfl⟩
  have ho' : v.off = false := by simpa using ho
  by_cases hrg : x.n < 0 ∨ (v.kp.length : Int) ≤ x.n
  · have e : v.abs.do_ x = (v.abs, [], 2) := by unfold Ds.do_; rw [if_neg (by omega), if_neg (by omega), if_neg (show ¬ v.abs.off = true from ho), if_pos ⟨by omega, by rw [hkl]; exact hrg⟩]
    have ha : askD v.off v.kp.length x.n = 2 := by rw [askD, if_neg ho, if_pos hrg]
    rw [e]
    refine (h.write_no x.n A _ c (by rw [ha]; decide)).mono fun e w' ⟨he, hw⟩ => ?_
    subst hw
    rw [ha] at he
    exact ⟨he, h.toF, rfl⟩
  obtain ⟨i, hi⟩ := Int.eq_ofNat_of_zero_le (show 0 ≤ x.n by omega)
  have ha : askD v.off v.kp.length x.n = 0 := by rw [askD, if_neg ho, if_neg hrg]
  have e0 : v.abs.do_ x = if x.kind = 1 ∧ x.bytes.length ≠ 1024 then (v.abs, [], 6) else if v.abs.left = 0 then ({ v.abs with off := true }, [], 14) else ({ v.abs with left := dec1 v.abs.left, wr := v.abs.wr + 1, pend := v.abs.pend ++ [(x.n.toNat, x.bytes)] }, [], 0) := by
    unfold Ds.do_
    rw [if_neg (by omega), if_neg (by omega), if_neg (show ¬ v.abs.off = true from ho), if_neg (by rw [hkl]; rintro ⟨_, hh⟩; exact hrg hh), if_neg (by omega), if_pos hx]
  by_cases h6 : x.bytes.length = 1024
  · rw [if_neg (by rintro ⟨_, hh⟩; exact hh h6)] at e0
    rw [h6]
    have hR := hr h6
    by_cases hl : v.left = 0
    · rw [e0, if_pos (show v.abs.left = 0 from hl)]
      exact (h.write_14 x.n A c ha hl).mono fun e w' ⟨he, hv, hk⟩ => ⟨he, ⟨_, hv, rfl, rfl, rfl, hk, Fr.same rfl rfl⟩, rfl⟩
    · rw [e0, if_neg (show ¬ v.abs.left = 0 from hl), hi]
      have k1 : ∀ w', Kq v.kb v.d C w w' → Reads w' w'.heap.size 1 A 1024 (nums .u8 x.bytes) := fun w' k => by
        obtain ⟨A', c', e, hR'⟩ := (hR.kq h k hN).slice (Nat.le_trans hN (Nat.le_trans h.nsz k.size))
        injection e with e1 _ e3
        subst e1 e3
        exact hR'
      refine (h.write_ok i (by omega) ho' A c x.bytes (k1 w (Kq.refl _ _ _ _)) k1 hl b3 b1).mono fun e w' ⟨A', c', y, he, hv, hk, hn⟩ => ⟨he, ⟨_, hv, rfl, rfl, ?_, hk, Fr.push hn rfl rfl⟩, rfl⟩
      unfold Dk.abs abs_
      dsimp only
      rw [List.map_append, Int.toNat_natCast]
      rfl
  · rw [e0, if_pos ⟨hx, h6⟩]
    refine (h.write_6 x.n A _ c ha h6).mono fun e w' ⟨he, hw⟩ => ?_
    subst hw
    exact ⟨he, h.toF, rfl⟩
end Dk
end Go.Proofs.YtjdimgigbgafbaaDoor
namespace Go.Proofs.YtjdimgigbgafbaaDoor
set_option maxRecDepth 100000
open Go.RowKit
section
variable {w : World} {ops : Array Oper} {rest : List Oper} {o : Oper} {a : Act} {Q : Exit → Act → World → Prop}
theorem wpl_bytes (hw : Region.wanted o (yielded ops a.tmps) = true) (s x : Operand)
    (ho : o.op = .call { callee := .builtin .append, args := #[s, x], argTypes := #[39, 39] })
    (base : Nat) (v : Value) (n : Nat) (xs : List Int) (hs : a.eval s = v) (hown : w.ownsRow base 5 1 v n (nums .u8 xs))
    (B : Nat) (A : Option Addr) (m c : Nat) (zs : List Int) (hx : a.eval x = .slice A m c) (hr : Reads w B 1 A m (nums .u8 zs))
    (hlen : n + m ≤ 140737488355328) (hbase : base ≤ w.heap.size)
    (h : ∀ A' c' w', w'.ownsRow base 5 1 (.slice A' (n + m) c') (n + m) (nums .u8 (xs ++ zs)) → w.grownBy w' v.ownBlock → Below base w w' → (Value.ownBlock (.slice A' (n + m) c') = v.ownBlock ∨ Value.ownBlock (.slice A' (n + m) c') = some w.heap.size) →
      wpList Tryd.prog ops Q rest (a.put o.dst (.slice A' (n + m) c')) w') : wpList Tryd.prog ops Q (o :: rest) a w := by
  refine wpl_append hw s x 39 ho 5 (.int .u8 0) 1 1 Tryd.underlying39 (by kernel_rfl) rfl (by decide) base v n _ hs hown B A m c _ hx hr (nums_one _ _) (by unfold maxLen; omega) (by omega) hbase ?_
  rw [nums_append]
  exact h
end
theorem make_bytes (n : Nat) (hn : n ≤ 281474976710656) (w : World) :
    (Instr.makeSlice 39 (.int .i64 (n : Int)) (.int .i64 (n : Int))).run Tryd.prog w = .ok (.slice (some ⟨w.heap.size, 0, none⟩) n n) (w.alloc (.cells (nums .u8 (List.replicate n 0)).toArray 5)) := by
  have h := run_make_row' (P := Tryd.prog) 39 5 (.int .u8 0) 1 Tryd.underlying39 (by kernel_rfl) rfl .i64 .i64 n (by omega) (by omega) w
  rw [h]
  congr 3
  apply Array.ext'
  rw [toList_madeCells_one]
  simp [nums]
theorem make_cap (c : Nat) (hc : c ≤ 281474976710656) (w : World) :
    (Instr.makeSlice 39 (.int .i64 0) (.int .i64 (c : Int))).run Tryd.prog w = .ok (.slice (some ⟨w.heap.size, 0, none⟩) 0 c) (w.alloc (.cells (nums .u8 (List.replicate c 0)).toArray 5)) := by
  have hinfo : (Tryd.prog.info? 5).map (fun i => (i.zero, i.size, i.bytes)) = some (some (.int .u8 0), 1, 1) := by kernel_rfl
  obtain ⟨i, hi, hz, hs, hb⟩ := info_parts hinfo
  have h := run_make_rowN (P := Tryd.prog) 39 5 i (.int .u8 0) Tryd.underlying39 hi hz .i64 .i64 0 c (Nat.zero_le _) (by rw [hb]; omega) (by omega) w
  rw [hs, Nat.mul_one] at h
  refine h.trans ?_
  congr 3
  apply Array.ext'
  rw [show (Value.int IntKind.u8 0).cells = #[.int .u8 0] from rfl, toList_madeCells_one]
  simp [nums]
end Go.Proofs.YtjdimgigbgafbaaDoor
namespace Go.Proofs.YtjdimgigbgafbaaDoor
namespace Byts
def lay (zs : List Int) (off : Nat) (bs : List Int) : List Int := zs.take off ++ (bs ++ zs.drop (off + bs.length))
section
variable {zs bs : List Int} {off k : Nat}
theorem lay_nil : lay zs off [] = zs := by simp [lay]
theorem lay_length (h : off + bs.length ≤ zs.length) : (lay zs off bs).length = zs.length := by simp [lay]; omega
theorem lay_at (hk : k < bs.length) (h : off + bs.length ≤ zs.length) : (lay zs off (bs.take k))[off + k]? = zs[off + k]? := by
  unfold lay
  rw [List.getElem?_append_right (by simp; omega), List.getElem?_append_right (by simp; omega)]
  rw [List.getElem?_drop]
  congr 1
  simp; omega
theorem lay_set (hk : k < bs.length) (h : off + bs.length ≤ zs.length) : (lay zs off (bs.take k)).set (off + k) (bs.getD k 0) = lay zs off (bs.take (k + 1)) := by
  unfold lay
  rw [List.set_append_right _ _ (by simp; omega), List.set_append_right _ _ (by simp; omega)]
  have e1 : off + k - (zs.take off).length - (bs.take k).length = 0 := by simp; omega
  have e2 : (bs.take k).length = k := by simp; omega
  have e3 : (bs.take (k + 1)).length = k + 1 := by simp; omega
  rw [e1, e2, e3, List.take_succ_eq_append_getElem hk, List.append_assoc, List.drop_eq_getElem_cons (show off + k < zs.length by omega)]
  simp [List.getD, hk, Nat.add_assoc]
end
def be (n : Nat) (x : Int) : List Int := (List.range n).map fun i => x / 256 ^ (n - 1 - i) % 256
theorem be_length (n : Nat) (x : Int) : (be n x).length = n := by simp [be]
theorem be_getD (n : Nat) (x : Int) (i : Nat) (h : i < n) : (be n x).getD i 0 = x / 256 ^ (n - 1 - i) % 256 := by simp [be, List.getD, h]
theorem be_bytes (n : Nat) (x : Int) : ∀ z ∈ be n x, 0 ≤ z ∧ z < 256 := by
  intro z h
  simp only [be, List.mem_map] at h
  obtain ⟨i, _, rfl⟩ := h
  omega
theorem be_succ (n : Nat) (x : Int) : be (n + 1) x = be n (x / 256) ++ [x % 256] := by
  unfold be
  rw [List.range_succ, List.map_append]
  congr 1
  · apply List.map_congr_left
    intro i hi
    have hi' : i < n := List.mem_range.1 hi
    rw [Int.ediv_ediv_of_nonneg (by omega : (0 : Int) ≤ 256)]
    rw [show n + 1 - 1 - i = (n - 1 - i) + 1 by omega, Int.pow_succ, Int.mul_comm 256]
  · simp
def num (bs : List Int) : Int := bs.foldl (fun x c => 256 * x + c) 0
theorem num_snoc (bs : List Int) (c : Int) : num (bs ++ [c]) = 256 * num bs + c := by simp [num]
theorem num_lt (bs : List Int) (h : ∀ z ∈ bs, 0 ≤ z ∧ z < 256) : 0 ≤ num bs ∧ num bs < 256 ^ bs.length := by
  have key : ∀ n, ∀ bs : List Int, bs.length = n → (∀ z ∈ bs, 0 ≤ z ∧ z < 256) → 0 ≤ num bs ∧ num bs < 256 ^ n := by
    intro n
    induction n with
    | zero => intro bs hl _; have : bs = [] := List.eq_nil_of_length_eq_zero hl; subst this; simp [num]
    | succ n ih =>
      intro bs hl hb
      have hne : bs ≠ [] := by intro h0; subst h0; simp at hl
      rw [← List.dropLast_concat_getLast hne] at hb ⊢
      obtain ⟨i1, i2⟩ := ih bs.dropLast (by simp [hl]) (fun z hz => hb z (by simp [hz]))
      have hc := hb (bs.getLast hne) (by simp)
      rw [num_snoc, Int.pow_succ]
      omega
  exact key _ bs rfl h
theorem num_be (n : Nat) : ∀ x : Int, 0 ≤ x → x < 256 ^ n → num (be n x) = x := by
  induction n with
  | zero => intro x h0 h1; simp [be, num]; simp at h1; omega
  | succ n ih =>
    intro x h0 h1
    rw [be_succ, num_snoc, ih (x / 256) (by omega) (by rw [Int.pow_succ] at h1; omega)]
    omega
theorem be_num (bs : List Int) (h : ∀ z ∈ bs, 0 ≤ z ∧ z < 256) : be bs.length (num bs) = bs := by
  have key : ∀ n, ∀ bs : List Int, bs.length = n → (∀ z ∈ bs, 0 ≤ z ∧ z < 256) → be n (num bs) = bs := by
    intro n
    induction n with
    | zero => intro bs hl _; have : bs = [] := List.eq_nil_of_length_eq_zero hl; subst this; rfl
    | succ n ih =>
      intro bs hl hb
      have hne : bs ≠ [] := by intro h0; subst h0; simp at hl
      have e := List.dropLast_concat_getLast hne
      rw [← e] at hb
      have hc := hb (bs.getLast hne) (by simp)
      have i1 := ih bs.dropLast (by simp [hl]) (fun z hz => hb z (by simp [hz]))
      conv => lhs; rw [← e]
      rw [num_snoc, be_succ, show (256 * num bs.dropLast + bs.getLast hne) / 256 = num bs.dropLast by omega, i1, show (256 * num bs.dropLast + bs.getLast hne) % 256 = bs.getLast hne by omega, e]
  exact key _ bs rfl h
end Byts
namespace Byts
def fill (n k : Nat) (x : Int) : List Int := List.replicate (n - k) 0 ++ (be n x).drop (n - k)
theorem fill_zero (n : Nat) (x : Int) : fill n 0 x = List.replicate n 0 := by
  unfold fill
  rw [Nat.sub_zero, List.drop_of_length_le (by rw [be_length]; exact Nat.le_refl _), List.append_nil]
theorem fill_all (n : Nat) (x : Int) : fill n n x = be n x := by simp [fill]
theorem fill_at (n k : Nat) (x : Int) (h : k < n) : (fill n k x)[n - 1 - k]? = some 0 := by
  unfold fill
  rw [List.getElem?_append_left (by rw [List.length_replicate]; omega), List.getElem?_replicate, if_pos (by omega)]
theorem fill_set (n k : Nat) (x : Int) (h : k < n) : (fill n k x).set (n - 1 - k) (x / 256 ^ k % 256) = fill n (k + 1) x := by
  unfold fill
  have e1 : n - k = (n - 1 - k) + 1 := by omega
  have e2 : n - (k + 1) = n - 1 - k := by omega
  rw [List.set_append_left _ _ (by simp; omega), e2]
  have e3 : (List.replicate (n - k) (0 : Int)).set (n - 1 - k) (x / 256 ^ k % 256) = List.replicate (n - 1 - k) 0 ++ [x / 256 ^ k % 256] := by
    conv => lhs; rw [e1, List.replicate_succ']
    rw [List.set_append_right _ _ (by simp)]
    simp
  have hl : n - 1 - k < (be n x).length := by rw [be_length]; omega
  rw [e3, List.append_assoc, List.drop_eq_getElem_cons hl, e1]
  have e4 : (be n x)[n - 1 - k] = x / 256 ^ k % 256 := by
    have := be_getD n x (n - 1 - k) (by omega)
    rw [show n - 1 - (n - 1 - k) = k by omega] at this
    rw [← this]; simp [List.getD, hl]
  rw [e4]
  rfl
end Byts
end Go.Proofs.YtjdimgigbgafbaaDoor
namespace Go.Proofs.YtjdimgigbgafbaaDoor
namespace Cod
open Byts
def wdN : Nat → Nat
  | 0 => 0
  | n + 1 => wdN ((n + 1) / 256) + 1
termination_by n => n
decreasing_by omega
def wd (x : Int) : Nat := wdN x.toNat
def bz (x : Int) : List Int := be (wd x) x
end Cod
end Go.Proofs.YtjdimgigbgafbaaDoor
namespace Go.Proofs.YtjdimgigbgafbaaDoor
namespace Cod
open Byts
def ct : List Int → List Int
  | [] => [0, 0]
  | c :: t => if c = 0 then 0 :: 1 :: ct t else c :: ct t
end Cod
end Go.Proofs.YtjdimgigbgafbaaDoor
namespace Go.Proofs.YtjdimgigbgafbaaDoor
namespace Crc
abbrev W32 := BitVec 32
def poly : W32 := 0x82f63b78#32
def st1 (r : W32) : W32 := if r.getLsbD 0 then (r >>> 1) ^^^ poly else r >>> 1
def stN : Nat → W32 → W32
  | 0, r => r
  | n + 1, r => stN n (st1 r)
theorem st1_xor (a b : W32) : st1 (a ^^^ b) = st1 a ^^^ st1 b := by
  unfold st1
  rw [BitVec.getLsbD_xor]
  cases ha : a.getLsbD 0 <;> cases hb : b.getLsbD 0 <;> simp [BitVec.ushiftRight_xor_distrib]
  · rw [BitVec.xor_assoc]
  · ac_rfl
  · rw [show a >>> 1 ^^^ poly ^^^ (b >>> 1 ^^^ poly) = (a >>> 1 ^^^ b >>> 1) ^^^ (poly ^^^ poly) by ac_rfl]; simp
theorem stN_xor (n : Nat) : ∀ a b : W32, stN n (a ^^^ b) = stN n a ^^^ stN n b := by
  induction n with
  | zero => intro a b; rfl
  | succ n ih => intro a b; simp only [stN, st1_xor, ih]
theorem stN_add (m : Nat) : ∀ (n : Nat) (r : W32), stN (m + n) r = stN n (stN m r) := by
  induction m with
  | zero => intro n r; simp [stN]
  | succ m ih => intro n r; rw [Nat.add_right_comm]; simp only [stN, ih]
theorem stN_succ (n : Nat) (r : W32) : stN (n + 1) r = st1 (stN n r) := by rw [stN_add]; rfl
theorem stN_low (k : Nat) : ∀ r : W32, (∀ i, i < k → r.getLsbD i = false) → stN k r = r >>> k := by
  induction k with
  | zero => intro r _; simp [stN]
  | succ k ih =>
    intro r h
    have h0 : r.getLsbD 0 = false := h 0 (by omega)
    simp only [stN]
    have e : st1 r = r >>> 1 := by unfold st1; rw [h0]; rfl
    rw [e, ih]
    · rw [← BitVec.shiftRight_add, Nat.add_comm]
    · intro i hi
      rw [BitVec.getLsbD_ushiftRight]
      exact h _ (by omega)
theorem stN_four (r : W32) : stN 4 r = r >>> 4 ^^^ stN 4 (r &&& 15#32) := by
  have e : r = (r &&& ~~~ 15#32) ^^^ (r &&& 15#32) := by
    ext i hi
    simp only [BitVec.getElem_xor, BitVec.getElem_and, BitVec.getElem_not]
    cases r[i] <;> cases (15#32)[i] <;> rfl
  have l : ∀ i, i < 4 → (r &&& ~~~ 15#32).getLsbD i = false := by
    intro i hi
    have : i = 0 ∨ i = 1 ∨ i = 2 ∨ i = 3 := by omega
    rcases this with rfl | rfl | rfl | rfl <;> simp
  have h := stN_xor 4 (r &&& ~~~ 15#32) (r &&& 15#32)
  rw [← e, stN_low 4 _ l, BitVec.ushiftRight_and_distrib] at h
  rw [h]
  have t : (~~~ 15#32) >>> 4 = 0x0fffffff#32 := by decide
  rw [t]
  congr 1
  ext i hi
  simp
  intro hr
  have : i < 28 := by
    apply Decidable.byContradiction
    intro hn
    have := BitVec.getLsbD_of_ge r (4 + i) (by omega)
    simp [this] at hr
  have h28 : ∀ i, i < 28 → (0x0fffffff#32).getLsbD i = true := by decide
  rw [← BitVec.getLsbD_eq_getElem]
  exact h28 i this
def tab : List Nat := [0x00000000, 0x105ec76f, 0x20bd8ede, 0x30e349b1, 0x417b1dbc, 0x5125dad3, 0x61c69362, 0x7198540d, 0x82f63b78, 0x92a8fc17, 0xa24bb5a6, 0xb21572c9, 0xc38d26c4, 0xd3d3e1ab, 0xe330a81a, 0xf36e6f75]
theorem tab_is : ∀ k, k < 16 → (stN 4 (BitVec.ofNat 32 k)).toNat = tab.getD k 0 := by decide
def stB (r : W32) (x : W32) : W32 := stN 8 (r ^^^ x)
def run (r : W32) (xs : List W32) : W32 := xs.foldl stB r
theorem run_append (r : W32) (xs ys : List W32) : run r (xs ++ ys) = run (run r xs) ys := by simp [run]
def le : List W32 → W32
  | [] => 0#32
  | x :: xs => x ^^^ (le xs <<< 8)
def b0 (r : W32) : W32 := r &&& 255#32
def wd (z : Int) : W32 := BitVec.ofNat 32 z.toNat
def more (c : W32) (zs : List Int) : W32 := ~~~ run (~~~ c) (zs.map wd)
theorem wd_toNat (z : Int) (h : 0 ≤ z ∧ z < 256) : ((wd z).toNat : Int) = z := by
  unfold wd; rw [BitVec.toNat_ofNat]; omega
end Crc
end Go.Proofs.YtjdimgigbgafbaaDoor
namespace Go.Proofs.YtjdimgigbgafbaaDoor
namespace Seal
open Byts
def hd (k a b : Int) (zs : List Int) : List Int := [k] ++ (be 8 a ++ (be 8 b ++ (be 2 (zs.length : Int) ++ (zs ++ List.replicate (1001 - zs.length) 0))))
theorem hd_length (k a b : Int) (zs : List Int) (h : zs.length ≤ 1001) : (hd k a b zs).length = 1020 := by simp [hd, be_length]; omega
def lay1 (k : Int) : List Int := (List.replicate 1024 0).set 0 k
def lay2 (k a : Int) : List Int := lay (lay1 k) 1 (be 8 a)
def lay3 (k a b : Int) : List Int := lay (lay2 k a) 9 (be 8 b)
def lay4 (k a b : Int) (n : Nat) : List Int := lay (lay3 k a b) 17 (be 2 (n : Int))
def lay5 (k a b : Int) (zs : List Int) : List Int := lay (lay4 k a b zs.length) 19 zs
theorem lay1_length (k : Int) : (lay1 k).length = 1024 := by unfold lay1; rw [List.length_set, List.length_replicate]
theorem lay2_length (k a : Int) : (lay2 k a).length = 1024 := by unfold lay2; rw [lay_length (by rw [be_length, lay1_length]; decide), lay1_length]
theorem lay3_length (k a b : Int) : (lay3 k a b).length = 1024 := by unfold lay3; rw [lay_length (by rw [be_length, lay2_length]; decide), lay2_length]
theorem lay4_length (k a b : Int) (n : Nat) : (lay4 k a b n).length = 1024 := by unfold lay4; rw [lay_length (by rw [be_length, lay3_length]; decide), lay3_length]
theorem lay5_length (k a b : Int) (zs : List Int) (h : zs.length ≤ 1001) : (lay5 k a b zs).length = 1024 := by unfold lay5; rw [lay_length (by rw [lay4_length]; omega), lay4_length]
theorem lay_app {k : Nat} (p q m : List Int) (bs : List Int) (hp : p.length = k) (hm : m.length = bs.length) : lay (p ++ (m ++ q)) k bs = p ++ (bs ++ q) := by
  subst hp
  unfold lay
  have e1 : List.drop (p.length + bs.length) p = [] := List.drop_of_length_le (by omega)
  have e2 : List.drop bs.length m = [] := List.drop_of_length_le (by omega)
  rw [List.take_left, List.drop_append, List.drop_append, hm]
  simp [e1, e2]
theorem lay5_is (k a b : Int) (zs : List Int) (h : zs.length ≤ 1001) : lay5 k a b zs = hd k a b zs ++ List.replicate 4 0 := by
  have s1 : lay1 k = [k] ++ (List.replicate 8 0 ++ List.replicate 1015 0) := by
    unfold lay1
    rw [show (1024 : Nat) = 1023 + 1 from rfl, List.replicate_succ, List.set_cons_zero, show (1023 : Nat) = 8 + 1015 from rfl, ← List.replicate_append_replicate]
    rfl
  have s2 : lay2 k a = ([k] ++ be 8 a) ++ (List.replicate 8 0 ++ List.replicate 1007 0) := by
    unfold lay2
    rw [s1, lay_app (k := 1) [k] _ _ _ rfl (by rw [be_length, List.length_replicate]), show (1015 : Nat) = 8 + 1007 from rfl, ← List.replicate_append_replicate, ← List.append_assoc]
  have s3 : lay3 k a b = ([k] ++ be 8 a ++ be 8 b) ++ (List.replicate 2 0 ++ List.replicate 1005 0) := by
    unfold lay3
    rw [s2, lay_app _ _ _ _ (by simp [be_length]) (by rw [be_length, List.length_replicate]), show (1007 : Nat) = 2 + 1005 from rfl, ← List.replicate_append_replicate, ← List.append_assoc]
  have s4 : lay4 k a b zs.length = ([k] ++ be 8 a ++ be 8 b ++ be 2 (zs.length : Int)) ++ (List.replicate zs.length 0 ++ List.replicate (1005 - zs.length) 0) := by
    unfold lay4
    rw [s3, lay_app _ _ _ _ (by simp [be_length]) (by rw [be_length, List.length_replicate]), List.replicate_append_replicate, show zs.length + (1005 - zs.length) = 1005 by omega, ← List.append_assoc]
  unfold lay5
  rw [s4, lay_app _ _ _ _ (by simp [be_length]) (by simp), show 1005 - zs.length = (1001 - zs.length) + 4 by omega, ← List.replicate_append_replicate]
  simp [hd, List.append_assoc]
def sec (k a b : Int) (zs le : List Int) : List Int := hd k a b zs ++ le
theorem lay6_is (k a b : Int) (zs le : List Int) (h : zs.length ≤ 1001) (h4 : le.length = 4) : lay (lay5 k a b zs) 1020 le = sec k a b zs le := by
  rw [lay5_is k a b zs h]
  have := lay_app (k := 1020) (hd k a b zs) [] (List.replicate 4 0) le (hd_length k a b zs h) (by simp [h4])
  simpa [sec] using this
theorem lay5_take (k a b : Int) (zs : List Int) (h : zs.length ≤ 1001) : (lay5 k a b zs).take 1020 = hd k a b zs := by
  rw [lay5_is k a b zs h, List.take_append_of_le_length (by rw [hd_length k a b zs h]; exact Nat.le_refl _), List.take_of_length_le (by rw [hd_length k a b zs h]; exact Nat.le_refl _)]
theorem hd_bytes (k a b : Int) (zs : List Int) (hk : 0 ≤ k ∧ k < 256) (hz : ∀ z ∈ zs, 0 ≤ z ∧ z < 256) : ∀ z ∈ hd k a b zs, 0 ≤ z ∧ z < 256 := by
  intro z h
  simp only [hd, List.mem_append, List.mem_singleton] at h
  rcases h with rfl | h | h | h | h | h
  · exact hk
  · exact be_bytes _ _ z h
  · exact be_bytes _ _ z h
  · exact be_bytes _ _ z h
  · exact hz z h
  · rw [List.mem_replicate] at h; omega
end Seal
end Go.Proofs.YtjdimgigbgafbaaDoor
namespace Go.Proofs.YtjdimgigbgafbaaDoor
namespace Seal
open Byts
def sN (zs : List Int) : Int := num ((zs.drop 17).take 2)
def sT (zs : List Int) : List Int := (zs.drop (19 + (sN zs).toNat)).take (1001 - (sN zs).toNat)
def sE (sm : List Int → List Int) (zs : List Int) : Int :=
  if zs.length ≠ 1024 then 6 else if zs.drop 1020 ≠ sm (zs.take 1020) then 13 else if zs.getD 0 0 = 0 ∨ 1001 < sN zs then 6
  else if ∃ z ∈ sT zs, z ≠ 0 then 6 else 0
def sK (sm : List Int → List Int) (zs : List Int) : Int := if sE sm zs = 0 then zs.getD 0 0 else 0
def sA (sm : List Int → List Int) (zs : List Int) : Int := if sE sm zs = 0 then num ((zs.drop 1).take 8) else 0
def sB (sm : List Int → List Int) (zs : List Int) : Int := if sE sm zs = 0 then num ((zs.drop 9).take 8) else 0
def sV (sm : List Int → List Int) (zs : List Int) : List Int := if sE sm zs = 0 then (zs.drop 19).take (sN zs).toNat else []
theorem mid_bytes {zs : List Int} (hz : ∀ z ∈ zs, 0 ≤ z ∧ z < 256) (i n : Nat) : ∀ z ∈ (zs.drop i).take n, 0 ≤ z ∧ z < 256 :=
  fun z h => hz z (List.mem_of_mem_drop (List.mem_of_mem_take h))
theorem sV_bytes (sm : List Int → List Int) (zs : List Int) (hz : ∀ z ∈ zs, 0 ≤ z ∧ z < 256) : ∀ z ∈ sV sm zs, 0 ≤ z ∧ z < 256 := by
  intro z h
  unfold sV at h
  split at h
  · exact mid_bytes hz _ _ z h
  · cases h
theorem num_mid {zs : List Int} (hz : ∀ z ∈ zs, 0 ≤ z ∧ z < 256) (i n : Nat) (hn : n ≤ 8) : 0 ≤ num ((zs.drop i).take n) ∧ num ((zs.drop i).take n) ≤ 18446744073709551615 := by
  have h := num_lt _ (mid_bytes hz i n)
  refine ⟨h.1, ?_⟩
  have hl : ((zs.drop i).take n).length ≤ 8 := by simp; omega
  have h256 : ∀ m, m ≤ 8 → (256 : Int) ^ m ≤ 18446744073709551616 := by decide
  have := h256 _ hl
  omega
theorem sN_bd {zs : List Int} (hz : ∀ z ∈ zs, 0 ≤ z ∧ z < 256) : 0 ≤ sN zs ∧ sN zs < 65536 := by
  have h := num_lt _ (mid_bytes hz 17 2)
  refine ⟨h.1, ?_⟩
  have hl : ((zs.drop 17).take 2).length ≤ 2 := by simp; omega
  have h256 : ∀ m, m ≤ 2 → (256 : Int) ^ m ≤ 65536 := by decide
  have := h256 _ hl
  unfold sN
  omega
theorem hd_of (zs : List Int) (hz : ∀ z ∈ zs, 0 ≤ z ∧ z < 256) (hl : zs.length = 1024) (hn : sN zs ≤ 1001) :
    hd (zs.getD 0 0) (num ((zs.drop 1).take 8)) (num ((zs.drop 9).take 8)) ((zs.drop 19).take (sN zs).toNat) = zs.take (19 + (sN zs).toNat) ++ List.replicate (1001 - (sN zs).toNat) 0 ∧
    zs.take 1020 = zs.take (19 + (sN zs).toNat) ++ sT zs := by
  obtain ⟨hn0, _⟩ := sN_bd hz
  have hlen : ((zs.drop 19).take (sN zs).toNat).length = (sN zs).toNat := by simp; omega
  have b8 : ∀ i, i + 8 ≤ 1024 → be 8 (num ((zs.drop i).take 8)) = (zs.drop i).take 8 := by
    intro i hi
    have := be_num _ (mid_bytes hz i 8)
    rwa [show ((zs.drop i).take 8).length = 8 by simp; omega] at this
  have b2 : be 2 (sN zs) = (zs.drop 17).take 2 := by
    have := be_num _ (mid_bytes hz 17 2)
    rwa [show ((zs.drop 17).take 2).length = 2 by simp; omega] at this
  have tk : ∀ i n, zs.take i ++ (zs.drop i).take n = zs.take (i + n) := by
    intro i n
    rw [← List.take_add]
  constructor
  · unfold hd
    rw [hlen, Int.toNat_of_nonneg hn0, b2, b8 1 (by omega), b8 9 (by omega)]
    have h1 : [zs.getD 0 0] = zs.take 1 := by
      rcases zs with _ | ⟨a, t⟩
      · simp at hl
      · rfl
    rw [h1]
    simp only [← List.append_assoc]
    rw [tk 1 8, tk 9 8, tk 17 2, tk 19]
  · unfold sT
    rw [tk, show 19 + (sN zs).toNat + (1001 - (sN zs).toNat) = 1020 by omega]
theorem hd_same (zs : List Int) (hz : ∀ z ∈ zs, 0 ≤ z ∧ z < 256) (hl : zs.length = 1024) (hn : sN zs ≤ 1001) :
    hd (zs.getD 0 0) (num ((zs.drop 1).take 8)) (num ((zs.drop 9).take 8)) ((zs.drop 19).take (sN zs).toNat) = zs.take 1020 ↔ ¬ ∃ z ∈ sT zs, z ≠ 0 := by
  obtain ⟨h1, h2⟩ := hd_of zs hz hl hn
  rw [h1, h2, List.append_cancel_left_eq]
  have hs : (sT zs).length = 1001 - (sN zs).toNat := by unfold sT; simp; omega
  constructor
  · intro h ⟨z, hz, h0⟩
    rw [← h] at hz
    exact h0 (List.eq_of_mem_replicate hz)
  · intro h
    symm
    rw [List.eq_replicate_iff]
    exact ⟨hs, fun z hz => Classical.byContradiction fun h0 => h ⟨z, hz, h0⟩⟩
theorem sec_same (sm : List Int → List Int) (h4 : ∀ l, (sm l).length = 4) (zs : List Int) (hz : ∀ z ∈ zs, 0 ≤ z ∧ z < 256) (hl : zs.length = 1024) (hs : zs.drop 1020 = sm (zs.take 1020)) (hn : sN zs ≤ 1001) :
    sec (zs.getD 0 0) (num ((zs.drop 1).take 8)) (num ((zs.drop 9).take 8)) ((zs.drop 19).take (sN zs).toNat) (sm (hd (zs.getD 0 0) (num ((zs.drop 1).take 8)) (num ((zs.drop 9).take 8)) ((zs.drop 19).take (sN zs).toNat))) = zs ↔ ¬ ∃ z ∈ sT zs, z ≠ 0 := by
  rw [← hd_same zs hz hl hn]
  unfold sec
  generalize hd (zs.getD 0 0) (num ((zs.drop 1).take 8)) (num ((zs.drop 9).take 8)) ((zs.drop 19).take (sN zs).toNat) = H
  constructor
  · intro h
    have := congrArg List.length h
    rw [List.length_append, h4, hl] at this
    rw [← h, List.take_append_of_le_length (by omega), List.take_of_length_le (by omega)]
  · intro h
    rw [h, ← hs, List.take_append_drop]
theorem sec_get (sm : List Int → List Int) (h4 : ∀ l, (sm l).length = 4) (k a b : Int) (zs : List Int) (hk : 1 ≤ k) (hl : zs.length ≤ 1001) (ha : 0 ≤ a) (ha1 : a ≤ 18446744073709551615) (hb : 0 ≤ b) (hb1 : b ≤ 18446744073709551615) :
    sE sm (sec k a b zs (sm (hd k a b zs))) = 0 ∧ sK sm (sec k a b zs (sm (hd k a b zs))) = k ∧ sA sm (sec k a b zs (sm (hd k a b zs))) = a ∧ sB sm (sec k a b zs (sm (hd k a b zs))) = b ∧ sV sm (sec k a b zs (sm (hd k a b zs))) = zs := by
  have hhl := hd_length k a b zs hl
  have hX : (sec k a b zs (sm (hd k a b zs))).length = 1024 := by unfold sec; rw [List.length_append, hhl, h4]
  have hT : (sec k a b zs (sm (hd k a b zs))).take 1020 = hd k a b zs := by unfold sec; rw [← hhl, List.take_left]
  have hD : (sec k a b zs (sm (hd k a b zs))).drop 1020 = sm (hd k a b zs) := by unfold sec; rw [← hhl, List.drop_left]
  have h0 : (sec k a b zs (sm (hd k a b zs))).getD 0 0 = k := rfl
  have hx : sec k a b zs (sm (hd k a b zs)) = [k] ++ (be 8 a ++ (be 8 b ++ (be 2 (zs.length : Int) ++ (zs ++ (List.replicate (1001 - zs.length) 0 ++ sm (hd k a b zs)))))) := by
    simp [sec, hd]
  have hA : ((sec k a b zs (sm (hd k a b zs))).drop 1).take 8 = be 8 a := by
    rw [hx, List.drop_left' (by rfl), List.take_left' (be_length _ _)]
  have hB : ((sec k a b zs (sm (hd k a b zs))).drop 9).take 8 = be 8 b := by
    rw [hx, ← List.append_assoc, List.drop_left' (by simp [be_length]), List.take_left' (be_length _ _)]
  have hN : ((sec k a b zs (sm (hd k a b zs))).drop 17).take 2 = be 2 (zs.length : Int) := by
    rw [hx, ← List.append_assoc, ← List.append_assoc, List.drop_left' (by simp [be_length]), List.take_left' (be_length _ _)]
  have hsN : sN (sec k a b zs (sm (hd k a b zs))) = zs.length := by
    unfold sN
    rw [hN, num_be 2 _ (by omega) (by omega)]
  have hV : ((sec k a b zs (sm (hd k a b zs))).drop 19).take zs.length = zs := by
    rw [hx, ← List.append_assoc, ← List.append_assoc, ← List.append_assoc, List.drop_left' (by simp [be_length]), List.take_left' rfl]
  have hS : sT (sec k a b zs (sm (hd k a b zs))) = List.replicate (1001 - zs.length) 0 := by
    unfold sT
    rw [hsN, Int.toNat_natCast, hx, ← List.append_assoc, ← List.append_assoc, ← List.append_assoc, ← List.append_assoc, List.drop_left' (by simp [be_length]; omega), List.take_left' (by simp)]
  have hE : sE sm (sec k a b zs (sm (hd k a b zs))) = 0 := by
    unfold sE
    rw [if_neg (by rw [hX]; simp), if_neg (by rw [hT, hD]; simp), if_neg (by rw [h0, hsN]; omega), if_neg]
    rw [hS]
    rintro ⟨z, hz, hne⟩
    exact hne (List.eq_of_mem_replicate hz)
  refine ⟨hE, ?_, ?_, ?_, ?_⟩
  · unfold sK; rw [if_pos hE, h0]
  · unfold sA; rw [if_pos hE, hA, num_be 8 _ ha (by omega)]
  · unfold sB; rw [if_pos hE, hB, num_be 8 _ hb (by omega)]
  · unfold sV; rw [if_pos hE, hsN, Int.toNat_natCast, hV]
end Seal
end Go.Proofs.YtjdimgigbgafbaaDoor
namespace Go.Proofs.YtjdimgigbgafbaaDoor
namespace Fram
open Byts
def fhd (zs : List Int) : List Int := 181 :: (be 3 (zs.length : Int) ++ zs)
theorem fhd_length (zs : List Int) : (fhd zs).length = 4 + zs.length := by simp [fhd, be_length]; omega
theorem fhd_bytes (zs : List Int) (hz : ∀ z ∈ zs, 0 ≤ z ∧ z < 256) : ∀ z ∈ fhd zs, 0 ≤ z ∧ z < 256 := by
  intro z h
  simp only [fhd, List.mem_cons, List.mem_append] at h
  rcases h with rfl | h | h
  · decide
  · exact be_bytes _ _ z h
  · exact hz z h
def frm (sm : List Int → List Int) (zs : List Int) : List Int := fhd zs ++ sm (fhd zs)
theorem frm_length (sm : List Int → List Int) (h4 : ∀ l, (sm l).length = 4) (zs : List Int) : (frm sm zs).length = 8 + zs.length := by simp [frm, fhd_length, h4]; omega
def nZ (zs : List Int) : Int := (zs.getD 1 0 * 256 + zs.getD 2 0) * 256 + zs.getD 3 0
theorem getD_nn {zs : List Int} (hz : ∀ z ∈ zs, 0 ≤ z ∧ z < 256) (i : Nat) : 0 ≤ zs.getD i 0 ∧ zs.getD i 0 < 256 := by
  rcases Nat.lt_or_ge i zs.length with h | h
  · have e : zs.getD i 0 = zs[i] := by simp [List.getD, h]
    rw [e]; exact hz _ (List.getElem_mem h)
  · have e : zs.getD i 0 = 0 := by simp [List.getD, List.getElem?_eq_none h]
    rw [e]; omega
theorem nZ_nn {zs : List Int} (hz : ∀ z ∈ zs, 0 ≤ z ∧ z < 256) : 0 ≤ nZ zs ∧ nZ zs < 16777216 := by
  have h1 := getD_nn hz 1
  have h2 := getD_nn hz 2
  have h3 := getD_nn hz 3
  unfold nZ; omega
def gE (sm : List Int → List Int) (zs : List Int) : Int :=
  if zs.length ≠ 0 ∧ zs.getD 0 0 ≠ 181 then 6 else if 60000 < nZ zs then 6 else if (zs.length : Int) < 8 + nZ zs then 5
  else if (zs.drop (4 + (nZ zs).toNat)).take 4 ≠ sm (zs.take (4 + (nZ zs).toNat)) then 13 else 0
def gB (sm : List Int → List Int) (zs : List Int) : List Int := if gE sm zs = 0 then (zs.drop 4).take (nZ zs).toNat else []
def gN (sm : List Int → List Int) (zs : List Int) : Int := if gE sm zs = 0 then 8 + nZ zs else 0
theorem fhd_of (zs : List Int) (hz : ∀ z ∈ zs, 0 ≤ z ∧ z < 256) (h0 : zs.getD 0 0 = 181) (hl : 8 + nZ zs ≤ (zs.length : Int)) : fhd ((zs.drop 4).take (nZ zs).toNat) = zs.take (4 + (nZ zs).toNat) := by
  obtain ⟨hn0, hn1⟩ := nZ_nn hz
  have hlen : ((zs.drop 4).take (nZ zs).toNat).length = (nZ zs).toNat := by simp; omega
  unfold fhd
  rw [hlen, Int.toNat_of_nonneg hn0]
  rcases zs with _ | ⟨a, _ | ⟨b, _ | ⟨c, _ | ⟨d, t⟩⟩⟩⟩
  case nil => simp at h0
  case cons.nil => simp at hl; omega
  case cons.cons.nil => simp at hl; omega
  case cons.cons.cons.nil => simp at hl; omega
  case cons.cons.cons.cons =>
    have ha : a = 181 := by simpa using h0
    subst ha
    have hn : nZ (181 :: b :: c :: d :: t) = (b * 256 + c) * 256 + d := by simp [nZ]
    have hb := hz b (by simp)
    have hc := hz c (by simp)
    have hd := hz d (by simp)
    have hbe : be 3 (nZ (181 :: b :: c :: d :: t)) = [b, c, d] := by
      rw [hn]
      have e : be 3 ((b * 256 + c) * 256 + d) = [((b * 256 + c) * 256 + d) / 65536 % 256, ((b * 256 + c) * 256 + d) / 256 % 256, ((b * 256 + c) * 256 + d) / 1 % 256] := rfl
      rw [e]
      congr 1
      · omega
      · congr 1
        · omega
        · congr 1; omega
    rw [hbe, Nat.add_comm 4]
    simp
theorem gE_frm (sm : List Int → List Int) (h4 : ∀ l, (sm l).length = 4) (zs more : List Int) (hl : zs.length ≤ 60000) : nZ (frm sm zs ++ more) = zs.length ∧ gE sm (frm sm zs ++ more) = 0 := by
  have e1 : frm sm zs ++ more = 181 :: (be 3 (zs.length : Int) ++ (zs ++ (sm (fhd zs) ++ more))) := by simp [frm, fhd]
  have e2 : be 3 (zs.length : Int) = [(zs.length : Int) / 65536 % 256, (zs.length : Int) / 256 % 256, (zs.length : Int) / 1 % 256] := rfl
  have hn : nZ (frm sm zs ++ more) = zs.length := by
    rw [e1, e2]; simp [nZ]; omega
  refine ⟨hn, ?_⟩
  unfold gE
  have hlen : (frm sm zs ++ more).length = 8 + zs.length + more.length := by rw [List.length_append, frm_length sm h4]
  rw [if_neg (by rw [e1]; simp), hn, if_neg (by omega), if_neg (by rw [hlen]; omega), if_neg]
  have e3 : 4 + ((zs.length : Int)).toNat = (fhd zs).length := by rw [fhd_length, Int.toNat_natCast]
  have e4 : frm sm zs ++ more = fhd zs ++ (sm (fhd zs) ++ more) := by simp [frm]
  rw [e3, e4, List.take_left, List.drop_left, List.take_append_of_le_length (by rw [h4]; exact Nat.le_refl _), List.take_of_length_le (by rw [h4]; exact Nat.le_refl _)]
  simp
theorem gB_frm (sm : List Int → List Int) (h4 : ∀ l, (sm l).length = 4) (zs more : List Int) (hl : zs.length ≤ 60000) : gB sm (frm sm zs ++ more) = zs ∧ gN sm (frm sm zs ++ more) = 8 + zs.length := by
  obtain ⟨hn, he⟩ := gE_frm sm h4 zs more hl
  unfold gB gN
  rw [if_pos he, if_pos he, hn]
  refine ⟨?_, rfl⟩
  have e1 : frm sm zs ++ more = (181 :: be 3 (zs.length : Int)) ++ (zs ++ (sm (fhd zs) ++ more)) := by simp [frm, fhd]
  rw [e1, List.drop_left' (by simp [be_length]), Int.toNat_natCast, List.take_left]
end Fram
end Go.Proofs.YtjdimgigbgafbaaDoor
namespace Go.Proofs.YtjdimgigbgafbaaDoor
open Go.RowKit
open Byts
set_option linter.unusedVariables false
theorem nums_set (k : IntKind) (zs : List Int) (i : Nat) (z : Int) : (nums k zs).set i (.int k z) = nums k (zs.set i z) := by
  unfold nums
  rw [List.map_set]
theorem nums_get {k : IntKind} {zs : List Int} {i : Nat} {z : Int} (h : zs[i]? = some z) : (nums k zs)[i]? = some (.int k z) := by
  unfold nums
  rw [List.getElem?_map, h]; rfl
theorem nums_setArr (k : IntKind) (zs : List Int) (i : Nat) (z : Int) : (nums k zs).toArray.setIfInBounds i (.int k z) = (nums k (zs.set i z)).toArray := by
  rw [← nums_set]; simp
theorem Blk.reads {w : World} {g t : Nat} {zs : List Int} {k : IntKind} (hb : Blk w g t (nums k zs).toArray) (off n : Nat) (h : off + n ≤ zs.length) : Reads w w.heap.size 1 (some ⟨g, off, none⟩) n (nums k ((zs.drop off).take n)) := by
  refine ⟨by simp [nums]; omega, fun hn => ⟨_, rfl, hb.lt, fun j u hu => ?_⟩⟩
  obtain ⟨z, hz, rfl⟩ := nums_at hu
  have hj : j < n := by
    rcases Nat.lt_or_ge j n with h' | h'
    · exact h'
    · rw [List.getElem?_take, if_neg (by omega)] at hz; cases hz
  rw [List.getElem?_take, if_pos hj, List.getElem?_drop] at hz
  have e : (⟨g, off, none⟩ : Addr).add j = ⟨g, off + j, none⟩ := by unfold Addr.add; split <;> simp_all
  rw [e, hb.cell, List.getElem?_toArray]
  exact nums_get hz
theorem shr_is (x : Int) (j : Nat) (h0 : 0 ≤ x) : x / 2 ^ (8 * j) = x / 256 ^ j := by
  congr 1
  rw [Int.pow_mul]; rfl
theorem number_any (g off n cap : Nat) (zs : List Int) (x : Int) (w : World) (hb : Blk w g 5 (nums .u8 zs).toArray) (hn : off + n ≤ zs.length) (hx : 0 ≤ x) (hx1 : x ≤ 18446744073709551615) (hl : zs.length ≤ 1000000) (hpos : 0 < n) (h8 : n ≤ 8) :
    Calls Tryd.prog 72 #[.slice (some ⟨g, off, none⟩) n cap, .int .u64 x] w fun e w' => e = .returned (.tuple #[]) ∧ Blk w' g 5 (nums .u8 (lay zs off (be n x))).toArray ∧ w.grownBy w' (some g) ∧ w'.heap.size = w.heap.size := by
  have HB := Lib.hid hb
  clear hb
  go_enter Tryd.func72, Tryd.ntmps72
  go_wp2_with fail
  go_loopw [4, 7] (fun _ i wr => ∃ k : Nat, k ≤ n ∧ i = .int .i64 k ∧ Blk wr g 5 (nums .u8 (lay zs off ((be n x).take k))).toArray ∧ w.grownBy wr (some g) ∧ wr.heap.size = w.heap.size) (fun _ i _ => n - (intOf i).toNat)
  case atStart => exact ⟨0, Nat.zero_le _, rfl, by rw [List.take_zero, lay_nil]; exact HB.out, World.grownBy.refl _ _, rfl⟩
  case round =>
    obtain ⟨k, hk, rfl, hblk, hgr, hsz⟩ := hrel
    by_cases hlt : k < n
    · have e1 := lay_at (zs := zs) (bs := be n x) (off := off) (k := k) (by rw [be_length]; exact hlt) (by rw [be_length]; exact hn)
      have e2 := lay_set (zs := zs) (bs := be n x) (off := off) (k := k) (by rw [be_length]; exact hlt) (by rw [be_length]; exact hn)
      rw [be_getD n x k hlt] at e2
      have hc : wr.cell? ⟨g, off + k, none⟩ = some (.int .u8 (zs[off + k]'(by omega))) := by
        rw [hblk.cell, List.getElem?_toArray]
        exact nums_get (by rw [e1, List.getElem?_eq_getElem (by omega)])
      have hf : wr.frozen? ⟨g, off + k, none⟩ = false := hblk.frozen _
      have hst := hblk.set_ (off + k) (.int .u8 (x / 256 ^ (n - 1 - k) % 256))
      rw [nums_setArr, e2] at hst
      have HS := Lib.hid hst
      have HG := Lib.hid (only_setCell (p := ⟨g, off + k, none⟩) hgr (.inl rfl) (.int .u8 (x / 256 ^ (n - 1 - k) % 256)))
      have HZ := Lib.hid hsz
      generalize zs[off + k]'(by omega) = old at hc
      clear e1 e2 hst hblk hgr hsz
      go_wp2_with fail
      rw [shr_is x (n - 1 - k) hx]
      go_roundw
      case rel => exact ⟨k + 1, by omega, by go_num, HS.out, HG.out, by simp [World.setCell, HZ.out]⟩
      case measure => simp [intOf]; omega
    · obtain rfl : k = n := by omega
      have e1 : (be k x).take k = be k x := List.take_of_length_le (by rw [be_length]; exact Nat.le_refl _)
      rw [e1] at hblk
      have HBk := Lib.hid hblk
      have HG := Lib.hid hgr
      have HZ := Lib.hid hsz
      clear hblk hgr hsz e1
      go_wp2_with fail
      go_end0
      exact ⟨rfl, HBk.out, HG.out, HZ.out⟩
theorem num_take (zs : List Int) (k : Nat) (h : k < zs.length) : num (zs.take (k + 1)) = 256 * num (zs.take k) + zs[k] := by
  rw [List.take_succ_eq_append_getElem h, num_snoc]
theorem num_bound (zs : List Int) (hz : ∀ z ∈ zs, 0 ≤ z ∧ z < 256) (k : Nat) (h8 : k < 8) : 0 ≤ num (zs.take k) ∧ num (zs.take k) < 72057594037927936 := by
  have h := num_lt (zs.take k) (fun z h => hz z (List.mem_of_mem_take h))
  refine ⟨h.1, Int.lt_of_lt_of_le h.2 ?_⟩
  have hl : (zs.take k).length ≤ 7 := by simp; omega
  have h256 : ∀ m, m ≤ 7 → (256 : Int) ^ m ≤ 72057594037927936 := by decide
  exact h256 _ hl
theorem or_low (a b : Int) (ha : 0 ≤ a) (ha1 : a < 72057594037927936) (hb : 0 ≤ b ∧ b < 256) : bits .or .u64 (256 * a) b = 256 * a + b := by
  rw [u64_or _ _ (by omega) (by omega) (by omega) (by omega)]
  have e : (256 * a).toNat = a.toNat * 2 ^ 8 := by omega
  rw [e, Nat.mul_comm, ← Nat.two_pow_add_eq_or_of_lt (show b.toNat < 2 ^ 8 by omega)]
  omega
set_option maxHeartbeats 400000 in
theorem read_any (A : Option Addr) (n cap : Nat) (zs : List Int) (w : World) (hr : Reads w w.heap.size 1 A n (nums .u8 zs)) (hz : ∀ z ∈ zs, 0 ≤ z ∧ z < 256) (h8 : n ≤ 8) :
    Calls Tryd.prog 66 #[.slice A n cap] w fun e w' => e = .returned (.int .u64 (num zs)) ∧ w = w' := by
  have hl : zs.length = n := by have := hr.1; simpa [nums] using this
  have HR := Lib.hid hr
  have HL := Lib.hid hl
  have HZ := Lib.hid hz
  clear hr hl hz
  go_enter Tryd.func66, Tryd.ntmps66
  go_wp2_with fail
  go_loop [3, 5, 8] (fun r _ i => ∃ k : Nat, k ≤ n ∧ i = .int .i64 k ∧ r = .int .u64 (num (zs.take k))) (fun _ _ i => n - (intOf i).toNat)
  case atStart => exact ⟨0, Nat.zero_le _, rfl, rfl⟩
  case round =>
    obtain ⟨k, hk, rfl, rfl⟩ := hrel
    by_cases hlt : k < n
    · obtain ⟨b, off, u, rfl, hb, hu, hc⟩ := HR.out.at_ hlt
      obtain ⟨z, hz, rfl⟩ := nums_at hu
      have hzb := HZ.out z (List.mem_of_getElem? hz)
      have hkl : k < zs.length := by rw [HL.out]; exact hlt
      have hzk : zs[k] = z := by rw [List.getElem?_eq_getElem hkl] at hz; injection hz
      have hnt := num_take zs k hkl
      rw [hzk] at hnt
      have hnb := num_bound zs HZ.out k (by omega)
      have HN := Lib.hid hnt
      clear hu hz hzk hnt
      generalize num (zs.take k) = x at hnb HN
      have hor := Lib.hid (or_low x z hnb.1 hnb.2 hzb)
      obtain ⟨z0, z1⟩ := hzb
      obtain ⟨x0, x1⟩ := hnb
      go_wp2_with fail
      go_round
      case rel => exact ⟨k + 1, by omega, by go_num, by rw [HN.out, Int.mul_comm x 256, hor.out]⟩
      case measure => simp [intOf]; omega
    · go_wp2_with fail
      go_ret
      have hfin : num (zs.take k) = num zs := by rw [List.take_of_length_le (by have := HL.out; omega)]
      exact ⟨ret_int hfin, rfl⟩
set_option maxHeartbeats 400000 in
theorem refnumber_any (A : Option Addr) (n cap : Nat) (zs : List Int) (w : World) (hr : Reads w w.heap.size 1 A n (nums .u8 zs)) (hz : ∀ z ∈ zs, 0 ≤ z ∧ z < 256) (h8 : n ≤ 8) :
    Calls Tryd.prog 70 #[.slice A n cap] w fun e w' => e = .returned (.int .u64 (num zs)) ∧ w = w' := by
  have hl : zs.length = n := by have := hr.1; simpa [nums] using this
  have HR := Lib.hid hr
  have HL := Lib.hid hl
  have HZ := Lib.hid hz
  clear hr hl hz
  go_enter Tryd.func70, Tryd.ntmps70
  go_wp2_with fail
  go_loop [3, 4] (fun r i => ∃ k : Nat, k ≤ n ∧ i = .int .i64 k ∧ r = .int .u64 (num (zs.take k))) (fun _ i => n - (intOf i).toNat)
  case atStart => exact ⟨0, Nat.zero_le _, rfl, rfl⟩
  case round =>
    obtain ⟨k, hk, rfl, rfl⟩ := hrel
    by_cases hlt : k < n
    · obtain ⟨b, off, u, rfl, hb, hu, hc⟩ := HR.out.at_ hlt
      obtain ⟨z, hz, rfl⟩ := nums_at hu
      have hzb := HZ.out z (List.mem_of_getElem? hz)
      have hkl : k < zs.length := by rw [HL.out]; exact hlt
      have hzk : zs[k] = z := by rw [List.getElem?_eq_getElem hkl] at hz; injection hz
      have hnt := num_take zs k hkl
      rw [hzk] at hnt
      have hnb := num_bound zs HZ.out k (by omega)
      have HN := Lib.hid hnt
      clear hu hz hzk hnt
      generalize num (zs.take k) = x at hnb HN
      obtain ⟨z0, z1⟩ := hzb
      obtain ⟨x0, x1⟩ := hnb
      go_wp2_with fail
      go_round
      case rel => exact ⟨k + 1, by omega, by go_num, by rw [HN.out]⟩
      case measure => simp [intOf]; omega
    · go_wp2_with fail
      go_ret
      have hfin : num (zs.take k) = num zs := by rw [List.take_of_length_le (by have := HL.out; omega)]
      exact ⟨ret_int hfin, rfl⟩
end Go.Proofs.YtjdimgigbgafbaaDoor
namespace Go.Proofs.YtjdimgigbgafbaaDoor
open Go.RowKit
theorem u32_xor_bv (a b : Crc.W32) : bits .xor .u32 (a.toNat : Int) (b.toNat : Int) = ((a ^^^ b).toNat : Int) := by
  rw [u32_xor_nat _ _ a.isLt b.isLt, BitVec.toNat_xor]
theorem u32_and_bv (a b : Crc.W32) : bits .and .u32 (a.toNat : Int) (b.toNat : Int) = ((a &&& b).toNat : Int) := by
  rw [u32_and_nat _ _ a.isLt b.isLt, BitVec.toNat_and]
theorem u32_not_bv (a : Crc.W32) : bits .xor .u32 IntKind.u32.max (a.toNat : Int) = ((~~~ a).toNat : Int) := by
  have h : IntKind.u32.max = ((BitVec.allOnes 32).toNat : Int) := by decide
  rw [h, u32_xor_bv, BitVec.allOnes_xor]
open Crc (wd wd_toNat)
theorem u32_xor_wd (a : Crc.W32) (z : Int) (h : 0 ≤ z ∧ z < 256) : bits .xor .u32 (a.toNat : Int) z = ((a ^^^ wd z).toNat : Int) := by
  rw [← u32_xor_bv, wd_toNat z h]
theorem take_wd (zs : List Int) (k : Nat) (z : Int) (h : zs[k]? = some z) : (zs.take (k + 1)).map wd = (zs.take k).map wd ++ [wd z] := by
  have hk : k < zs.length := by
    rcases Nat.lt_or_ge k zs.length with h' | h'
    · exact h'
    · rw [List.getElem?_eq_none h'] at h; cases h
  rw [List.take_succ_eq_append_getElem hk, List.map_append]
  rw [List.getElem?_eq_getElem hk] at h
  injection h with h
  simp [h]
def Tab (w : World) : Prop := ∀ j, j < 16 → w.cell? ⟨0, j, none⟩ = some (.int .u32 (Crc.tab.getD j 0 : Nat))
theorem Tab.size {w : World} (h : Tab w) : 0 < w.heap.size := by
  have h0 := h 0 (by decide)
  rcases Nat.lt_or_ge 0 w.heap.size with h' | h'
  · exact h'
  · simp [World.cell?, Array.getElem?_eq_none h'] at h0
theorem Tab.below {w w' : World} {B : Nat} (h : Tab w) (hb : Below B w w') (hB : w.heap.size ≤ B) : Tab w' :=
  fun j hj => (hb.cell (p := ⟨0, j, none⟩) (Nat.lt_of_lt_of_le h.size hB)).trans (h j hj)
theorem Tab.alloc {w : World} (h : Tab w) (o : Obj) : Tab (w.alloc o) := fun j hj => (World.cell?_alloc_lt w o _ h.size).trans (h j hj)
theorem Tab.drew {w : World} (h : Tab w) : Tab w.drew := h
theorem Tab.drewN {w : World} (h : Tab w) (n : Nat) : Tab (w.drewN n) := h
theorem four_bits (x : Crc.W32) (w : World) (ht : Tab w) : ∃ (j : Nat) (t : Int) (y : Crc.W32), j < 16 ∧ bits .and .u32 (x.toNat : Int) 15 = (j : Int) ∧ w.cell? ⟨0, j, none⟩ = some (.int .u32 t) ∧
    bits .xor .u32 ((x.toNat : Int) / 16) t = (y.toNat : Int) ∧ Hid (y = Crc.stN 4 x) := by
  have hj : (x &&& 15#32).toNat < 16 := by rw [BitVec.toNat_and]; exact Nat.lt_of_le_of_lt Nat.and_le_right (by decide)
  refine ⟨(x &&& 15#32).toNat, _, Crc.stN 4 x, hj, ?_, ht _ hj, ?_, Lib.hid rfl⟩
  · exact u32_and_bv x 15#32
  · have e1 : (((x.toNat : Nat) : Int) / (16 : Int)) = (((x >>> 4).toNat : Nat) : Int) := by
      rw [BitVec.toNat_ushiftRight, Nat.shiftRight_eq_div_pow]; omega
    have e2 := Crc.tab_is _ hj
    rw [← e2, e1, u32_xor_bv, Crc.stN_four x]
    simp
set_option maxHeartbeats 400000 in
theorem more_any (c : Crc.W32) (A : Option Addr) (n cap : Nat) (zs : List Int) (w : World) (ht : Tab w) (hr : Reads w w.heap.size 1 A n (nums .u8 zs)) (hz : ∀ z ∈ zs, 0 ≤ z ∧ z < 256) (hn : n ≤ 9223372036854775807) :
    Calls Tryd.prog 71 #[.int .u32 c.toNat, .slice A n cap] w fun e w' => e = .returned (.int .u32 (Crc.more c zs).toNat) ∧ w = w' := by
  have HR := Lib.hid hr
  have HZ := Lib.hid hz
  have HT := Lib.hid ht
  have HL : zs.length = n := by simpa [nums_length] using hr.1
  have HL' := Lib.hid HL
  clear hr hz ht HL
  obtain ⟨c0, e0, H0⟩ : ∃ c0 : Crc.W32, bits .xor .u32 IntKind.u32.max (c.toNat : Int) = (c0.toNat : Int) ∧ Hid (~~~ c = c0) := ⟨~~~ c, u32_not_bv c, rfl⟩
  go_enter Tryd.func71, Tryd.ntmps71
  go_wp2
  clear e0
  go_loop [5, 12] (fun r i => ∃ k : Nat, k ≤ n ∧ i = .int .i64 k ∧ r = .int .u32 (Crc.run c0 ((zs.take k).map wd)).toNat) (fun _ i => n - (intOf i).toNat)
  case atStart => exact ⟨0, Nat.zero_le _, rfl, rfl⟩
  case round =>
    obtain ⟨k, hk, rfl, rfl⟩ := hrel
    by_cases hlt : k < n
    · obtain ⟨b, off, u, rfl, hb, hu, hc⟩ := HR.out.at_ hlt
      obtain ⟨z, hz, rfl⟩ := nums_at hu
      have hzb := HZ.out z (List.mem_of_getElem? hz)
      have HK := Lib.hid (take_wd zs k z hz)
      clear hu hz
      obtain ⟨r, hr⟩ : ∃ r, Crc.run c0 ((zs.take k).map wd) = r := ⟨_, rfl⟩
      rw [hr]
      have HRun := Lib.hid hr
      clear hr
      obtain ⟨x1, e1, H1⟩ : ∃ x1 : Crc.W32, bits .xor .u32 (r.toNat : Int) z = (x1.toNat : Int) ∧ Hid (x1 = r ^^^ wd z) := ⟨_, u32_xor_wd r z hzb, rfl⟩
      obtain ⟨j1, t1, x2, hj1, a1, c1, b1, H2⟩ := four_bits x1 w HT.out
      obtain ⟨j2, t2, x3, hj2, a2, c2, b2, H3⟩ := four_bits x2 w HT.out
      obtain ⟨z0, z1⟩ := hzb
      go_wp2
      go_round
      case rel =>
        refine ⟨k + 1, by omega, by go_num, ?_⟩
        have e : x3 = Crc.run c0 ((zs.take (k + 1)).map wd) := by
          rw [HK.out, Crc.run_append, HRun.out, H3.out, H2.out, H1.out, ← Crc.stN_add]
          rfl
        rw [e]
      case measure => simp [intOf]; omega
    · obtain ⟨d, hd⟩ : ∃ d, Crc.run c0 ((zs.take k).map wd) = d := ⟨_, rfl⟩
      rw [hd]
      have HD := Lib.hid hd
      clear hd
      obtain ⟨d0, e0, HD0⟩ : ∃ d0 : Crc.W32, bits .xor .u32 IntKind.u32.max (d.toNat : Int) = (d0.toNat : Int) ∧ Hid (~~~ d = d0) := ⟨~~~ d, u32_not_bv d, rfl⟩
      go_wp2
      go_ret
      have hfin : (d0.toNat : Int) = ((Crc.more c zs).toNat : Int) := by
        unfold Crc.more
        rw [H0.out, ← HD0.out, ← HD.out, List.take_of_length_le (by have := HL'.out; omega)]
      exact ⟨ret_int hfin, rfl⟩
theorem one_bit (x : Crc.W32) : (∃ y : Crc.W32, (((x.toNat : Int) % 2 == 1) = true) ∧ ∃ v : Int, (x.toNat : Int) / 2 = v ∧ bits .xor .u32 v 2197175160 = (y.toNat : Int) ∧ Hid (y = Crc.st1 x)) ∨
    ((((x.toNat : Int) % 2 == 1) = false) ∧ ∃ y : Crc.W32, (x.toNat : Int) / 2 = (y.toNat : Int) ∧ Hid (y = Crc.st1 x)) := by
  have hs : (((x.toNat : Nat) : Int) / (2 : Int)) = (((x >>> 1).toNat : Nat) : Int) := by
    rw [BitVec.toNat_ushiftRight, Nat.shiftRight_eq_div_pow]; omega
  have hl : x.getLsbD 0 = decide (x.toNat % 2 = 1) := by simp [BitVec.getLsbD, Nat.testBit_zero]
  rcases Nat.mod_two_eq_zero_or_one x.toNat with h | h
  · right
    refine ⟨by rw [beq_eq_false_iff_ne]; omega, x >>> 1, hs, ?_⟩
    have : x.getLsbD 0 = false := by rw [hl]; simp [h]
    exact Lib.hid (by unfold Crc.st1; rw [this]; rfl)
  · left
    refine ⟨(x >>> 1) ^^^ Crc.poly, by rw [beq_iff_eq]; omega, _, rfl, ?_, ?_⟩
    · rw [hs]; exact u32_xor_bv (x >>> 1) Crc.poly
    · have : x.getLsbD 0 = true := by rw [hl]; simp [h]
      exact Lib.hid (by unfold Crc.st1; rw [this]; rfl)
theorem u32_sub_not (a : Crc.W32) : (4294967295 : Int) - (a.toNat : Int) = ((~~~ a).toNat : Int) := by
  have := a.isLt
  rw [BitVec.toNat_not]; omega
set_option maxHeartbeats 400000 in
theorem refmore_any (c : Crc.W32) (A : Option Addr) (n cap : Nat) (zs : List Int) (w : World) (hr : Reads w w.heap.size 1 A n (nums .u8 zs)) (hz : ∀ z ∈ zs, 0 ≤ z ∧ z < 256) (hn : n ≤ 9223372036854775807) :
    Calls Tryd.prog 65 #[.int .u32 c.toNat, .slice A n cap] w fun e w' => e = .returned (.int .u32 (Crc.more c zs).toNat) ∧ w = w' := by
  have HR := Lib.hid hr
  have HZ := Lib.hid hz
  have HL : zs.length = n := by simpa [nums_length] using hr.1
  have HL' := Lib.hid HL
  clear hr hz HL
  have hlt := c.isLt
  obtain ⟨c0, e0, H0⟩ : ∃ c0 : Crc.W32, (4294967295 : Int) - (c.toNat : Int) = (c0.toNat : Int) ∧ Hid (~~~ c = c0) := ⟨~~~ c, u32_sub_not c, rfl⟩
  go_enter Tryd.func65, Tryd.ntmps65
  go_wp2
  clear e0
  go_loop [5, 6] (fun r i => ∃ k : Nat, k ≤ n ∧ i = .int .i64 k ∧ r = .int .u32 (Crc.run c0 ((zs.take k).map wd)).toNat) (fun _ i => n - (intOf i).toNat)
  case atStart => exact ⟨0, Nat.zero_le _, rfl, rfl⟩
  case round =>
    obtain ⟨k, hk, rfl, rfl⟩ := hrel
    by_cases hlt : k < n
    · obtain ⟨b, off, u, rfl, hb, hu, hc⟩ := HR.out.at_ hlt
      obtain ⟨z, hz, rfl⟩ := nums_at hu
      have hzb := HZ.out z (List.mem_of_getElem? hz)
      have HK := Lib.hid (take_wd zs k z hz)
      clear hu hz
      obtain ⟨r, hr⟩ : ∃ r, Crc.run c0 ((zs.take k).map wd) = r := ⟨_, rfl⟩
      rw [hr]
      have HRun := Lib.hid hr
      clear hr
      obtain ⟨x1, e1, H1⟩ : ∃ x1 : Crc.W32, bits .xor .u32 (r.toNat : Int) z = (x1.toNat : Int) ∧ Hid (x1 = r ^^^ wd z) := ⟨_, u32_xor_wd r z hzb, rfl⟩
      obtain ⟨z0, z1⟩ := hzb
      go_wp2
      clear e1
      go_loop [5, 7] (fun r i => ∃ j : Nat, j ≤ 8 ∧ i = .int .i64 j ∧ r = .int .u32 (Crc.stN j x1).toNat) (fun _ i => 8 - (intOf i).toNat)
      case atStart => exact ⟨0, Nat.zero_le _, rfl, rfl⟩
      case round =>
        obtain ⟨j, hj, rfl, rfl⟩ := hrel
        obtain ⟨y, hy⟩ : ∃ y, Crc.stN j x1 = y := ⟨_, rfl⟩
        rw [hy]
        have HY := Lib.hid hy
        clear hy
        have hyl := y.isLt
        by_cases hj8 : j < 8
        · rcases one_bit y with ⟨y2, ht, v, hv, hx, H2⟩ | ⟨ht, y2, hv, H2⟩
          · go_wp2
            go_round
            case rel => exact ⟨j + 1, by omega, by go_num, by rw [H2.out, ← HY.out, ← Crc.stN_succ]⟩
            case measure => simp [intOf]; omega
          · go_wp2
            go_round
            case rel => exact ⟨j + 1, by omega, by go_num, by rw [H2.out, ← HY.out, ← Crc.stN_succ]⟩
            case measure => simp [intOf]; omega
        · go_wp2
          go_round
          case rel =>
            refine ⟨k + 1, by omega, by go_num, ?_⟩
            have e : y = Crc.run c0 ((zs.take (k + 1)).map wd) := by
              obtain rfl : j = 8 := by omega
              rw [HK.out, Crc.run_append, HRun.out, ← HY.out, H1.out]
              rfl
            rw [e]
          case measure => simp [intOf]; omega
    · obtain ⟨d, hd⟩ : ∃ d, Crc.run c0 ((zs.take k).map wd) = d := ⟨_, rfl⟩
      rw [hd]
      have HD := Lib.hid hd
      clear hd
      have hdl := d.isLt
      obtain ⟨d0, e0, HD0⟩ : ∃ d0 : Crc.W32, (4294967295 : Int) - (d.toNat : Int) = (d0.toNat : Int) ∧ Hid (~~~ d = d0) := ⟨~~~ d, u32_sub_not d, rfl⟩
      go_wp2
      go_ret
      have hfin : (d0.toNat : Int) = ((Crc.more c zs).toNat : Int) := by
        unfold Crc.more
        rw [H0.out, ← HD0.out, ← HD.out, List.take_of_length_le (by have := HL'.out; omega)]
      exact ⟨ret_int hfin, rfl⟩
end Go.Proofs.YtjdimgigbgafbaaDoor
namespace Go.Proofs.YtjdimgigbgafbaaDoor
open Go.RowKit
open Crc (wd)
theorem sum_any (A : Option Addr) (n cap : Nat) (zs : List Int) (w : World) (ht : Tab w) (hr : Reads w w.heap.size 1 A n (nums .u8 zs)) (hz : ∀ z ∈ zs, 0 ≤ z ∧ z < 256) (hn : n ≤ 9223372036854775807) :
    Calls Tryd.prog 62 #[.slice A n cap] w fun e w' => e = .returned (.int .u32 (Crc.more 0#32 zs).toNat) ∧ w = w' := by
  have c : Calls Tryd.prog 71 #[.int .u32 0, .slice A n cap] w fun e w' => e = .returned (.int .u32 (Crc.more 0#32 zs).toNat) ∧ w = w' := more_any 0#32 A n cap zs w ht hr hz hn
  clear ht hr hz
  go_enter Tryd.func62, Tryd.ntmps62
  go_wp2_with fail
  refine c.mono ?_
  rintro e w' ⟨rfl, rfl⟩
  go_wp2
  go_ret
  exact ⟨rfl, rfl⟩
theorem refsum_any (A : Option Addr) (n cap : Nat) (zs : List Int) (w : World) (hr : Reads w w.heap.size 1 A n (nums .u8 zs)) (hz : ∀ z ∈ zs, 0 ≤ z ∧ z < 256) (hn : n ≤ 9223372036854775807) :
    Calls Tryd.prog 54 #[.slice A n cap] w fun e w' => e = .returned (.int .u32 (Crc.more 0#32 zs).toNat) ∧ w = w' := by
  have c : Calls Tryd.prog 65 #[.int .u32 0, .slice A n cap] w fun e w' => e = .returned (.int .u32 (Crc.more 0#32 zs).toNat) ∧ w = w' := refmore_any 0#32 A n cap zs w hr hz hn
  clear hr hz
  go_enter Tryd.func54, Tryd.ntmps54
  go_wp2_with fail
  refine c.mono ?_
  rintro e w' ⟨rfl, rfl⟩
  go_wp2
  go_ret
  exact ⟨rfl, rfl⟩
end Go.Proofs.YtjdimgigbgafbaaDoor
namespace Go.Proofs.YtjdimgigbgafbaaDoor
open Go.RowKit
open Crc (wd)
def bytesZ (r : Crc.W32) : List Int := [(r.toNat : Int) % 256, (r.toNat : Int) / 256 % 256, (r.toNat : Int) / 65536 % 256, (r.toNat : Int) / 16777216]
theorem bytesZ_lt (r : Crc.W32) : ∀ z ∈ bytesZ r, 0 ≤ z ∧ z < 256 := by
  have hr := r.isLt
  intro z hz
  simp only [bytesZ, List.mem_cons, List.mem_nil_iff, or_false] at hz
  rcases hz with rfl | rfl | rfl | rfl <;> omega
theorem bytesZ_shr (r : Crc.W32) (k : Nat) (h : k < 4) : (bytesZ r).getD k 0 = (r.toNat : Int) / 2 ^ (8 * k) % 256 := by
  have hr := r.isLt
  have hk : k = 0 ∨ k = 1 ∨ k = 2 ∨ k = 3 := by omega
  rcases hk with rfl | rfl | rfl | rfl
  · simp [bytesZ]
  · simp [bytesZ]
  · simp [bytesZ]
  · simp [bytesZ]; omega
end Go.Proofs.YtjdimgigbgafbaaDoor
namespace Go.Proofs.YtjdimgigbgafbaaDoor
open Go.RowKit
open Byts
set_option linter.unusedVariables false
set_option maxHeartbeats 400000 in
theorem high20_any (n : Nat) (x : Int) (w : World) (hx : 0 ≤ x) (hx1 : x ≤ 18446744073709551615) (hn : n ≤ 8) :
    Calls Tryd.prog 53 #[.int .u64 x, .int .i64 (n : Int)] w fun e w' => e = .returned (.slice (some ⟨w.heap.size, 0, none⟩) n n) ∧ Blk w' w.heap.size 5 (nums .u8 (be n x)).toArray ∧ Below w.heap.size w w' ∧ w'.heap.size = w.heap.size + 1 := by
  have hmk := make_bytes n (by omega)
  go_enter Tryd.func53, Tryd.ntmps53
  go_wp2_with fail
  clear hmk
  go_loopw [0, 6] (fun x0 i wr => ∃ k : Nat, k ≤ n ∧ i = .int .i64 ((n : Int) - 1 - k) ∧ x0 = .int .u64 (x / 256 ^ k) ∧ Blk wr w.heap.size 5 (nums .u8 (fill n k x)).toArray ∧ Below w.heap.size w wr ∧ wr.heap.size = w.heap.size + 1) (fun _ i _ => (intOf i + 1).toNat)
  case atStart => exact ⟨0, Nat.zero_le _, by simp, by simp, by rw [fill_zero]; exact Blk.new _ _ _, (Below.refl _ _).alloc (Nat.le_refl _) _, by simp⟩
  case round =>
    obtain ⟨k, hk, rfl, rfl, hblk, hbel, hsz⟩ := hrel
    have hy0 : 0 ≤ x / 256 ^ k := Int.ediv_nonneg hx (Int.pow_nonneg (by decide))
    have hy1 : x / 256 ^ k ≤ 18446744073709551615 := Int.le_trans (Int.ediv_le_self _ hx) hx1
    have hys : Hid (x / 256 ^ k / 256 = x / 256 ^ (k + 1)) := Lib.hid (by rw [Int.ediv_ediv_of_nonneg (Int.pow_nonneg (by decide)), Int.pow_succ])
    by_cases hlt : k < n
    · have hc : wr.cell? ⟨w.heap.size, n - 1 - k, none⟩ = some (.int .u8 0) := by
        rw [hblk.cell, List.getElem?_toArray]
        exact nums_get (fill_at n k x hlt)
      have hf : wr.frozen? ⟨w.heap.size, n - 1 - k, none⟩ = false := hblk.frozen _
      have hst := hblk.set_ (n - 1 - k) (.int .u8 (x / 256 ^ k % 256))
      rw [nums_setArr, fill_set n k x hlt] at hst
      have HS := Lib.hid hst
      have HB := Lib.hid (hbel.setCell (p := ⟨w.heap.size, n - 1 - k, none⟩) (Nat.le_refl _) (.int .u8 (x / 256 ^ k % 256)))
      have HZ := Lib.hid hsz
      clear hst hblk hbel hsz
      generalize x / 256 ^ k = y at hy0 hy1 hys HS HB
      have i0 : (0 : Int) ≤ (n : Int) - 1 - (k : Int) := by omega
      have i1 : ((n : Int) - 1 - (k : Int)).toNat = n - 1 - k := by omega
      go_wp2_with fail
      clear i1
      go_roundw
      case rel => exact ⟨k + 1, by omega, by go_num, by rw [hys.out], HS.out, HB.out, by simp [World.setCell, HZ.out]⟩
      case measure => simp [intOf]; omega
    · obtain rfl : k = n := by omega
      rw [fill_all] at hblk
      have HS := Lib.hid hblk
      have HB := Lib.hid hbel
      have HZ := Lib.hid hsz
      clear hblk hbel hsz
      go_wp2_with fail
      go_ret
      exact ⟨rfl, HS.out, HB.out, HZ.out⟩
set_option maxHeartbeats 400000 in
theorem high09_any (n : Nat) (x : Int) (w : World) (hx : 0 ≤ x) (hx1 : x ≤ 4294967295) (hn : n ≤ 8) :
    Calls Tryd.prog 64 #[.int .u32 x, .int .i64 (n : Int)] w fun e w' => e = .returned (.slice (some ⟨w.heap.size, 0, none⟩) n n) ∧ Blk w' w.heap.size 5 (nums .u8 (be n x)).toArray ∧ Below w.heap.size w w' ∧ w'.heap.size = w.heap.size + 1 := by
  have hmk := make_bytes n (by omega)
  go_enter Tryd.func64, Tryd.ntmps64
  go_wp2_with fail
  clear hmk
  go_loopw [0, 6] (fun x0 i wr => ∃ k : Nat, k ≤ n ∧ i = .int .i64 ((n : Int) - 1 - k) ∧ x0 = .int .u32 (x / 256 ^ k) ∧ Blk wr w.heap.size 5 (nums .u8 (fill n k x)).toArray ∧ Below w.heap.size w wr ∧ wr.heap.size = w.heap.size + 1) (fun _ i _ => (intOf i + 1).toNat)
  case atStart => exact ⟨0, Nat.zero_le _, by simp, by simp, by rw [fill_zero]; exact Blk.new _ _ _, (Below.refl _ _).alloc (Nat.le_refl _) _, by simp⟩
  case round =>
    obtain ⟨k, hk, rfl, rfl, hblk, hbel, hsz⟩ := hrel
    have hy0 : 0 ≤ x / 256 ^ k := Int.ediv_nonneg hx (Int.pow_nonneg (by decide))
    have hy1 : x / 256 ^ k ≤ 4294967295 := Int.le_trans (Int.ediv_le_self _ hx) hx1
    have hys : Hid (x / 256 ^ k / 256 = x / 256 ^ (k + 1)) := Lib.hid (by rw [Int.ediv_ediv_of_nonneg (Int.pow_nonneg (by decide)), Int.pow_succ])
    by_cases hlt : k < n
    · have hc : wr.cell? ⟨w.heap.size, n - 1 - k, none⟩ = some (.int .u8 0) := by
        rw [hblk.cell, List.getElem?_toArray]
        exact nums_get (fill_at n k x hlt)
      have hf : wr.frozen? ⟨w.heap.size, n - 1 - k, none⟩ = false := hblk.frozen _
      have hst := hblk.set_ (n - 1 - k) (.int .u8 (x / 256 ^ k % 256))
      rw [nums_setArr, fill_set n k x hlt] at hst
      have HS := Lib.hid hst
      have HB := Lib.hid (hbel.setCell (p := ⟨w.heap.size, n - 1 - k, none⟩) (Nat.le_refl _) (.int .u8 (x / 256 ^ k % 256)))
      have HZ := Lib.hid hsz
      clear hst hblk hbel hsz
      generalize x / 256 ^ k = y at hy0 hy1 hys HS HB
      have i0 : (0 : Int) ≤ (n : Int) - 1 - (k : Int) := by omega
      have i1 : ((n : Int) - 1 - (k : Int)).toNat = n - 1 - k := by omega
      go_wp2_with fail
      clear i1
      go_roundw
      case rel => exact ⟨k + 1, by omega, by go_num, by rw [hys.out], HS.out, HB.out, by simp [World.setCell, HZ.out]⟩
      case measure => simp [intOf]; omega
    · obtain rfl : k = n := by omega
      rw [fill_all] at hblk
      have HS := Lib.hid hblk
      have HB := Lib.hid hbel
      have HZ := Lib.hid hsz
      clear hblk hbel hsz
      go_wp2_with fail
      go_ret
      exact ⟨rfl, HS.out, HB.out, HZ.out⟩
end Go.Proofs.YtjdimgigbgafbaaDoor
namespace Go.Proofs.YtjdimgigbgafbaaDoor
open Go.RowKit
open Byts Fram
set_option linter.unusedVariables false
def smZ (l : List Int) : List Int := bytesZ (Crc.more 0#32 l)
theorem smZ_length (l : List Int) : (smZ l).length = 4 := rfl
theorem smZ_bytes (l : List Int) : ∀ z ∈ smZ l, 0 ≤ z ∧ z < 256 := bytesZ_lt _
theorem frm_bytes (zs : List Int) (hz : ∀ z ∈ zs, 0 ≤ z ∧ z < 256) : ∀ z ∈ frm smZ zs, 0 ≤ z ∧ z < 256 := by
  intro z h
  unfold frm at h
  rw [List.mem_append] at h
  rcases h with h | h
  · exact fhd_bytes zs hz z h
  · exact smZ_bytes _ z h
theorem size_in (n : Int) (w : World) (h0 : 0 ≤ n) (h1 : n ≤ 60000) :
    Calls Tryd.prog 61 #[.int .i64 n] w fun e w' => e = .returned (.int .i64 (4 + n + 4)) ∧ w = w' := by
  go_enter Tryd.func61, Tryd.ntmps61
  go_wp2_with fail
  go_ret
  exact ⟨rfl, rfl⟩
theorem fput_long (A : Option Addr) (n c : Nat) (w : World) (hn : 60000 < n) (hn1 : n ≤ 9223372036854775807) :
    Calls Tryd.prog 46 #[.slice A n c] w fun e w' => e = .returned (.tuple #[.slice none 0 0, .int .i64 4]) ∧ w = w' := by
  go_enter Tryd.func46, Tryd.ntmps46
  go_wp2_with fail
  go_ret2
  exact ⟨rfl, rfl⟩
theorem be3_head (n : Nat) (h : n ≤ 60000) : [(181 : Int), (n : Int) / 65536, (n : Int) / 256, (n : Int) % 256] = 181 :: be 3 (n : Int) := by
  have e : be 3 (n : Int) = [(n : Int) / 65536 % 256, (n : Int) / 256 % 256, (n : Int) / 1 % 256] := rfl
  rw [e, Int.ediv_one, show (n : Int) / 65536 % 256 = (n : Int) / 65536 by omega, show (n : Int) / 256 % 256 = (n : Int) / 256 by omega]
def FPut (zs : List Int) (w : World) (e : Ending) (w' : World) : Prop :=
  ∃ A c, e = .returned (.tuple #[.slice A (8 + zs.length) c, .int .i64 0]) ∧ Reads w' w'.heap.size 1 A (8 + zs.length) (nums .u8 (frm smZ zs)) ∧ Below w.heap.size w w' ∧ 8 + zs.length ≤ c ∧ c ≤ maxLen
set_option maxHeartbeats 400000 in
theorem fput_ok (A : Option Addr) (n c : Nat) (zs : List Int) (w : World) (ht : Tab w) (hn : n ≤ 60000) (hr : Reads w w.heap.size 1 A n (nums .u8 zs)) (hz : ∀ z ∈ zs, 0 ≤ z ∧ z < 256) :
    Calls Tryd.prog 46 #[.slice A n c] w (FPut zs w) := by
  have hl : zs.length = n := by have := hr.1; simpa [nums] using this
  have HR := Lib.hid hr
  have HZ := Lib.hid hz
  have HL := Lib.hid hl
  have HT := Lib.hid ht
  clear hr hz hl ht
  have hsz := size_in (n : Int) w (by omega) (by omega)
  have hmk : ∀ w, (Instr.makeSlice 39 (.int .i64 0) (.int .i64 (4 + (n : Int) + 4))).run Tryd.prog w = .ok (.slice (some ⟨w.heap.size, 0, none⟩) 0 (n + 8)) (w.alloc (.cells (nums .u8 (List.replicate (n + 8) 0)).toArray 5)) := by
    intro w
    have := make_cap (n + 8) (by omega) w
    rw [show (4 + (n : Int) + 4) = ((n + 8 : Nat) : Int) by omega]
    exact this
  go_enter Tryd.func46, Tryd.ntmps46
  go_wp2_with fail
  refine hsz.mono ?_
  rintro e w' ⟨rfl, rfl⟩
  go_wp2_with (at_builtin; refine wpl_bytes rfl (.tmp 14) (.tmp 23) rfl w.heap.size _ 0 [] rfl ?o1 (w.heap.size + 2) _ 4 4 (181 :: be 3 (n : Int)) rfl ?r1 ?c1 ?c2 ?_)
  case o1 => exact (own_cap w w.heap.size 5 .u8 (List.replicate (n + 8) 0) (n + 8) _ rfl (Nat.le_refl _) (by simp) (by unfold maxLen; omega)).alloc _
  case r1 =>
    have := reads_new (w.alloc (.cells (nums .u8 (List.replicate (n + 8) 0)).toArray 5)) (nums .u8 [181, (n : Int) / 65536, (n : Int) / 256, (n : Int) % 256]) 5 (0, 0) 4 (w.heap.size + 1) (w.heap.size + 2) (by simp) rfl (by omega)
    rw [← be3_head n hn]
    exact this
  case c1 => omega
  case c2 => simp; omega
  intro A1 c1 w1 hown1 hgr1 hb1 hor1
  try simp only [Nat.zero_add, List.nil_append] at hown1
  have hbA : Below w.heap.size w w1 := (((Below.refl _ _).alloc (Nat.le_refl _) _).alloc (by simp) _).trans hb1
  have hr1 := HR.out.below hbA
  have hs1 := hbA.size
  clear hgr1 hor1 hmk hb1
  have HBA := Lib.hid hbA
  clear hbA
  go_wp2_with (at_builtin; refine wpl_bytes rfl (.tmp 25) (.tmp 26) rfl w.heap.size _ 4 (181 :: be 3 (n : Int)) rfl hown1 w.heap.size A n c zs rfl hr1 ?c3 ?c4 ?_)
  case c3 => omega
  case c4 => exact hs1
  intro A2 c2 w2 hown2 hgr2 hb2 hor2
  have hbB := HBA.out.trans hb2
  have e2 : 181 :: (be 3 (n : Int) ++ zs) = fhd zs := by rw [← HL.out]; rfl
  rw [e2] at hown2
  have cs := sum_any A2 (4 + n) c2 (fhd zs) w2 (HT.out.below hbB (Nat.le_refl _)) (own_reads hown2) (fhd_bytes zs HZ.out) (by omega)
  have hs2 := hbB.size
  obtain ⟨r, hr⟩ : ∃ r, Crc.more 0#32 (fhd zs) = r := ⟨_, rfl⟩
  rw [hr] at cs
  have HRR := Lib.hid hr
  have HBB := Lib.hid hbB
  have HO2 := Lib.hid hown2
  have hrl := r.isLt
  clear hgr2 hor2 hb2 hbB e2 hown1 hown2 hr1 hr
  go_wp2_with fail
  refine cs.mono ?_
  rintro e w' ⟨rfl, rfl⟩
  go_wp2_with (at_builtin; refine wpl_bytes rfl (.tmp 30) (.tmp 42) rfl w.heap.size _ (4 + n) (fhd zs) rfl ?o3 (w2.heap.size + 1) _ 4 4 (bytesZ r) rfl ?r3 ?c5 ?c6 ?_)
  case o3 => exact HO2.out.alloc _
  case r3 => exact reads_new w2 (nums .u8 (bytesZ r)) 5 (0, 0) 4 _ _ rfl rfl (by omega)
  case c5 => omega
  case c6 => simp; omega
  intro A3 c3 w3 hown3 hgr3 hb3 hor3
  have hbC := HBB.out.trans (((Below.refl _ _).alloc hs2 _).trans hb3)
  have e3 : fhd zs ++ bytesZ r = frm smZ zs := by rw [← HRR.out]; rfl
  rw [e3] at hown3
  have e4 : 4 + n + 4 = 8 + zs.length := by rw [HL.out]; omega
  rw [e4] at hown3
  have HC := Lib.hid hbC
  have HO3 := Lib.hid hown3
  have E4 := Lib.hid e4
  clear hgr3 hor3 hb3 hbC e3 e4 hown3
  go_wp2
  rw [E4.out]
  go_ret2
  exact ⟨A3, c3, rfl, own_reads HO3.out, HC.out, own_bd HO3.out⟩
end Go.Proofs.YtjdimgigbgafbaaDoor
namespace Go.Proofs.YtjdimgigbgafbaaDoor
open Go.RowKit
open Byts Fram
set_option linter.unusedVariables false
theorem div256 (r : Crc.W32) (j : Nat) : (r.toNat : Int) / 256 ^ j / 256 = (r.toNat : Int) / 256 ^ (j + 1) := by
  rw [Int.ediv_ediv_of_nonneg (Int.pow_nonneg (by decide)), Int.pow_succ]
theorem bytesZ_shr' (r : Crc.W32) (k : Nat) (h : k < 4) : (bytesZ r).getD k 0 = (r.toNat : Int) / 256 ^ k % 256 := by
  have hr := r.isLt
  have hk : k = 0 ∨ k = 1 ∨ k = 2 ∨ k = 3 := by omega
  rcases hk with rfl | rfl | rfl | rfl
  · simp [bytesZ]
  · simp [bytesZ]
  · simp [bytesZ]
  · simp [bytesZ]; omega
theorem bytesZ_succ (r : Crc.W32) (j : Nat) (h : j < 4) : (bytesZ r).take (j + 1) = (bytesZ r).take j ++ [(r.toNat : Int) / 256 ^ j % 256] := by
  have e := bytesZ_shr' r j h
  have hl : j < (bytesZ r).length := h
  rw [List.take_add_one, List.getElem?_eq_getElem hl]
  have : (bytesZ r)[j] = (bytesZ r).getD j 0 := by simp [List.getD, hl]
  rw [this, e]
  rfl
def FRef (zs : List Int) (w : World) (e : Ending) (w' : World) : Prop :=
  ∃ A c, e = .returned (.slice A (8 + zs.length) c) ∧ w'.ownsRow w.heap.size 5 1 (.slice A (8 + zs.length) c) (8 + zs.length) (nums .u8 (frm smZ zs)) ∧ Below w.heap.size w w'
set_option maxHeartbeats 800000 in
theorem frefput_any (A : Option Addr) (n c : Nat) (zs : List Int) (w : World) (hn : n ≤ 60000) (hr : Reads w w.heap.size 1 A n (nums .u8 zs)) (hz : ∀ z ∈ zs, 0 ≤ z ∧ z < 256) :
    Calls Tryd.prog 48 #[.slice A n c] w (FRef zs w) := by
  have hl : zs.length = n := by have := hr.1; simpa [nums] using this
  have HR := Lib.hid hr
  have HZ := Lib.hid hz
  have HL := Lib.hid hl
  clear hr hz hl
  go_enter Tryd.func48, Tryd.ntmps48
  go_wp2_with fail
  refine (high09_any 3 (n : Int) _ (by omega) (by omega) (by omega)).mono ?_
  rintro e w1 ⟨rfl, hb1, hbe1, hs1⟩
  have hbA : Below w.heap.size w w1 := ((Below.refl _ _).alloc (Nat.le_refl _) _).trans (hbe1.mono (by simp))
  have hz1 : w1.heap.size = w.heap.size + 2 := by rw [hs1]; simp
  have ho1 : w1.ownsRow w.heap.size 5 1 (.slice (some ⟨w.heap.size, 0, none⟩) 1 1) 1 (nums .u8 [181]) :=
    (own_new w w.heap.size 5 .u8 [181] 1 _ rfl (Nat.le_refl _) rfl (by decide)).kept (row := none) ⟨hbe1.os, hbe1.tape, hbe1.output, hbe1.size, fun k hk _ => hbe1.block k hk⟩ (.inr (by simp [Value.ownBlock]))
  have hrd := hb1.reads 0 3 (by rw [be_length]; omega)
  rw [List.drop_zero, List.take_of_length_le (by rw [be_length]; exact Nat.le_refl _)] at hrd
  have HBA := Lib.hid hbA
  have HZ1 := Lib.hid hz1
  clear hb1 hbe1 hs1 hbA hz1
  go_wp2_with (at_builtin; refine wpl_bytes rfl (.tmp 6) (.tmp 10) rfl w.heap.size _ 1 [181] rfl ho1 w1.heap.size (some ⟨w.heap.size + 1, 0, none⟩) 3 3 (be 3 (n : Int)) rfl ?r1 ?c1 ?c2 ?_)
  case r1 => simpa using hrd
  case c1 => omega
  case c2 => have := HZ1.out; omega
  intro A1 c1 w2 hown1 hgr1 hb2 hor1
  have hbB := HBA.out.trans hb2
  have hs2 := hbB.size
  have hr2 := HR.out.below hbB
  have HBB := Lib.hid hbB
  clear hgr1 hor1 hb2 hbB ho1 hrd
  go_wp2_with (at_builtin; refine wpl_bytes rfl (.tmp 11) (.tmp 12) rfl w.heap.size _ (1 + 3) ([181] ++ be 3 (n : Int)) rfl ?o2 w.heap.size A n c zs rfl hr2 ?c3 ?c4 ?_)
  case o2 => exact hown1
  case c3 => omega
  case c4 => exact hs2
  intro A2 c2 w3 hown2 hgr2 hb3 hor2
  have hbC := HBB.out.trans hb3
  have hs3 := hbC.size
  have e2 : nums .u8 ([181] ++ be 3 (n : Int) ++ zs) = nums .u8 (fhd zs) := by rw [← HL.out]; rfl
  have hown3 : w3.ownsRow w.heap.size 5 1 (.slice A2 (4 + n) c2) (4 + n) (nums .u8 (fhd zs)) := by rw [← e2]; exact hown2
  have cs := refsum_any A2 (4 + n) c2 (fhd zs) w3 (own_reads hown3) (fhd_bytes zs HZ.out) (by omega)
  obtain ⟨r, hr⟩ : ∃ r, Crc.more 0#32 (fhd zs) = r := ⟨_, rfl⟩
  rw [hr] at cs
  have HRR := Lib.hid hr
  have HBC := Lib.hid hbC
  have HO3 := Lib.hid hown3
  have hrl := r.isLt
  clear hgr2 hor2 hb3 hbC e2 hown1 hown2 hown3 hr2 hr
  go_wp2_with fail
  refine cs.mono ?_
  rintro e w' ⟨rfl, rfl⟩
  go_wp2_with fail
  go_loopw [3, 4, 5] (fun s x i wr => ∃ (j : Nat) (A3 : Option Addr) (c3 : Nat), j ≤ 4 ∧ i = .int .i64 j ∧ x = .int .u32 ((r.toNat : Int) / 256 ^ j) ∧ s = .slice A3 (4 + n + j) c3 ∧ wr.ownsRow w.heap.size 5 1 (.slice A3 (4 + n + j) c3) (4 + n + j) (nums .u8 (fhd zs ++ (bytesZ r).take j)) ∧ Below w.heap.size w wr) (fun _ _ i _ => 4 - (intOf i).toNat)
  case atStart => exact ⟨0, A2, c2, by omega, rfl, by simp, rfl, by simpa using HO3.out, HBC.out⟩
  case round =>
    obtain ⟨j, A3, c3, hj, rfl, rfl, rfl, hown, hbel⟩ := hrel
    have hsz := hbel.size
    by_cases hlt : j < 4
    · have hd := Lib.hid (div256 r j)
      have y0 : 0 ≤ (r.toNat : Int) / 256 ^ j := Int.ediv_nonneg (by omega) (Int.pow_nonneg (by decide))
      have y1 : (r.toNat : Int) / 256 ^ j ≤ 4294967295 := Int.le_trans (Int.ediv_le_self _ (by omega)) (by omega)
      have hbs := Lib.hid (bytesZ_succ r j hlt)
      have HB := Lib.hid hbel
      clear hbel
      generalize (r.toNat : Int) / 256 ^ j = y at y0 y1 hd hbs
      go_wp2_with (at_builtin; refine wpl_bytes rfl (.tmp 20) (.tmp 24) rfl w.heap.size _ (4 + n + j) (fhd zs ++ (bytesZ r).take j) rfl ?o4 (wr.heap.size + 1) (some ⟨wr.heap.size, 0, none⟩) 1 1 [y % 256] rfl ?r4 ?c7 ?c8 ?_)
      case o4 => exact hown.alloc _
      case r4 => exact reads_new wr (nums .u8 [y % 256]) 5 (0, 0) 1 _ _ rfl rfl (by omega)
      case c7 => omega
      case c8 => simp; omega
      intro A4 c4 w4 hown4 hgr4 hb4 hor4
      try rw [List.append_assoc] at hown4
      rw [← hbs.out] at hown4
      have hbD := Lib.hid (HB.out.trans (((Below.refl _ _).alloc hsz _).trans hb4))
      have HO4 := Lib.hid hown4
      clear hgr4 hor4 hb4 hown4 hown
      go_wp2_with fail
      go_roundw
      case rel => exact ⟨j + 1, A4, c4, by omega, by go_num, by rw [hd.out], rfl, HO4.out, hbD.out⟩
      case measure => simp [intOf]; omega
    · obtain rfl : j = 4 := by omega
      have e3 : nums .u8 (fhd zs ++ (bytesZ r).take 4) = nums .u8 (frm smZ zs) := by
        rw [show (bytesZ r).take 4 = bytesZ r from rfl, ← HRR.out]; rfl
      rw [e3, show 4 + n + 4 = 8 + zs.length by rw [HL.out]; omega] at hown
      have HO4 := Lib.hid hown
      have HB := Lib.hid hbel
      have E4 := Lib.hid (show 4 + n + 4 = 8 + zs.length by rw [HL.out]; omega)
      clear hown hbel e3
      go_wp2
      rw [E4.out]
      go_ret
      exact ⟨A3, c3, rfl, HO4.out, HB.out⟩
end Go.Proofs.YtjdimgigbgafbaaDoor
namespace Go.Proofs.YtjdimgigbgafbaaDoor
open Go.RowKit
open Byts Fram
set_option linter.unusedVariables false
def pz (zs : List Int) (k : Nat) : Int := if k ≤ 1 then 0 else if k = 2 then zs.getD 1 0 else if k = 3 then zs.getD 1 0 * 256 + zs.getD 2 0 else nZ zs
theorem pz_succ (zs : List Int) (k : Nat) (h1 : 1 ≤ k) (h : k < 4) : pz zs (k + 1) = pz zs k * 256 + zs.getD k 0 := by
  have hk : k = 1 ∨ k = 2 ∨ k = 3 := by omega
  rcases hk with rfl | rfl | rfl <;> simp [pz, nZ]
theorem pz_bd (zs : List Int) (hz : ∀ z ∈ zs, 0 ≤ z ∧ z < 256) (k : Nat) (h : k < 4) : 0 ≤ pz zs k ∧ pz zs k < 65536 := by
  have b1 := getD_nn hz 1
  have b2 := getD_nn hz 2
  unfold pz
  split
  · omega
  · split
    · omega
    · split
      · omega
      · omega
theorem or64_low (a b : Int) (ha : 0 ≤ a) (ha1 : a < 65536) (hb : 0 ≤ b ∧ b < 256) : bits .or .i64 (a * 256) b = a * 256 + b := by
  obtain ⟨a, rfl⟩ := Int.eq_ofNat_of_zero_le ha
  obtain ⟨b, rfl⟩ := Int.eq_ofNat_of_zero_le hb.1
  have h := i64_or_nat (a * 256) b (by omega) (by omega)
  rw [show (((a * 256 : Nat) : Nat) : Int) = (a : Int) * 256 by omega] at h
  rw [h, show a * 256 = 2 ^ 8 * a by omega, ← Nat.two_pow_add_eq_or_of_lt (show b < 2 ^ 8 by omega)]
  omega
theorem getD_cell {w : World} {B n cap : Nat} {A : Option Addr} {zs : List Int} (hr : Reads w B 1 A n (nums .u8 zs)) {k : Nat} (hk : k < n) : ∃ b off, A = some ⟨b, off, none⟩ ∧ w.cell? ⟨b, off + k, none⟩ = some (.int .u8 (zs.getD k 0)) := by
  obtain ⟨b, off, u, rfl, _, hu, hc⟩ := hr.at_ hk
  obtain ⟨z, hz, rfl⟩ := nums_at hu
  exact ⟨b, off, rfl, by rw [hc]; simp [List.getD, hz]⟩
set_option maxHeartbeats 400000 in
theorem length_bad (A : Option Addr) (n c : Nat) (zs : List Int) (w : World) (hr : Reads w w.heap.size 1 A n (nums .u8 zs)) (hn : n ≤ 9223372036854775807) (h0 : n ≠ 0) (h1 : zs.getD 0 0 ≠ 181) :
    Calls Tryd.prog 73 #[.slice A n c] w fun e w' => e = .returned (.tuple #[.int .i64 0, .bool false]) ∧ w = w' := by
  obtain ⟨b, off, rfl, hc⟩ := getD_cell (cap := c) hr (k := 0) (by omega)
  have ht : (zs.getD 0 0 != 181) = true := by rw [bne_iff_ne]; exact h1
  have h0' : 0 < n := by omega
  generalize zs.getD 0 0 = z at hc ht
  rw [Nat.add_zero] at hc
  clear h1 hr h0
  go_enter Tryd.func73, Tryd.ntmps73
  go_wp2_with fail
  go_ret2
  exact ⟨rfl, rfl⟩
set_option maxHeartbeats 400000 in
theorem length_good (A : Option Addr) (n c : Nat) (zs : List Int) (w : World) (hr : Reads w w.heap.size 1 A n (nums .u8 zs)) (hz : ∀ z ∈ zs, 0 ≤ z ∧ z < 256) (hn : n ≤ 9223372036854775807) (h1 : n = 0 ∨ zs.getD 0 0 = 181) :
    Calls Tryd.prog 73 #[.slice A n c] w fun e w' => e = .returned (.tuple #[.int .i64 (nZ zs), .bool (decide (nZ zs ≤ 60000))]) ∧ w = w' := by
  have hl : zs.length = n := by have := hr.1; simpa [nums] using this
  have HR := Lib.hid hr
  have HZ := Lib.hid hz
  have HL := Lib.hid hl
  clear hr hz hl
  have key : ∀ (pre : Hid True), Calls Tryd.prog 73 #[.slice A n c] w fun e w' => e = .returned (.tuple #[.int .i64 (pz zs 4), .bool (decide (pz zs 4 ≤ 60000))]) ∧ w = w' := by
    intro _
    go_enter Tryd.func73, Tryd.ntmps73
    go_upto_region 1 with fail
    go_cut [14] (fun v wx => v = .bool false ∧ w = wx)
    case first =>
      rcases Nat.eq_zero_or_pos n with h0 | h0
      · subst h0
        go_wp2_with fail
        go_meet
        exact ⟨rfl, rfl⟩
      · have h2 := h1.resolve_left (by omega)
        obtain ⟨b, off, rfl, hc⟩ := getD_cell (cap := c) HR.out (k := 0) h0
        rw [h2, Nat.add_zero] at hc
        clear h1 h2
        go_wp2_with fail
        go_meet
        exact ⟨rfl, rfl⟩
    case rest =>
      obtain ⟨rfl, rfl⟩ := hcut
      go_wp2_with fail
      go_loop [4, 5] (fun v i => ∃ k : Nat, 1 ≤ k ∧ k ≤ 4 ∧ i = .int .i64 k ∧ v = .int .i64 (pz zs k)) (fun _ i => 4 - (intOf i).toNat)
      case atStart => exact ⟨1, by omega, by omega, rfl, rfl⟩
      case round =>
        obtain ⟨k, hk1, hk, rfl, rfl⟩ := hrel
        by_cases hlt : k < 4
        · obtain ⟨b0, b1⟩ := pz_bd zs HZ.out k hlt
          have hs := Lib.hid (pz_succ zs k hk1 hlt)
          generalize pz zs k = x at b0 b1 hs
          by_cases hkn : k < n
          · obtain ⟨b, off, rfl, hc⟩ := getD_cell (cap := c) HR.out hkn
            have hzb := getD_nn HZ.out k
            generalize zs.getD k 0 = z at hc hzb hs
            have ho := Lib.hid (or64_low x z b0 b1 hzb)
            obtain ⟨z0, z1⟩ := hzb
            go_wp2_with fail
            go_round
            case rel => exact ⟨k + 1, by omega, by omega, by go_num, by rw [hs.out, ho.out]⟩
            case measure => simp [intOf]; omega
          · have hz0 : zs.getD k 0 = 0 := by simp [List.getD, List.getElem?_eq_none (show zs.length ≤ k by rw [HL.out]; omega)]
            have hs2 := Lib.hid (show pz zs (k + 1) = x * 256 by rw [hs.out, hz0]; omega)
            clear hz0
            go_wp2_with fail
            go_round
            case rel => exact ⟨k + 1, by omega, by omega, by go_num, by rw [hs2.out]⟩
            case measure => simp [intOf]; omega
        · obtain rfl : k = 4 := by omega
          obtain ⟨x, hx⟩ : ∃ x, pz zs 4 = x := ⟨_, rfl⟩
          rw [hx]
          have HX := Lib.hid hx
          clear hx
          go_wp2_with fail
          go_ret2
          exact ⟨by rw [HX.out]; rfl, rfl⟩
  exact key (Lib.hid trivial)
def FGetO (zs : List Int) (w : World) (e : Ending) (w' : World) : Prop :=
  ∃ A c, e = .returned (.tuple #[.slice A (gB smZ zs).length c, .int .i64 (gN smZ zs), .int .i64 (gE smZ zs)]) ∧ w'.ownsRow w.heap.size 5 1 (.slice A (gB smZ zs).length c) (gB smZ zs).length (nums .u8 (gB smZ zs)) ∧ Below w.heap.size w w'
theorem FGet_bad {zs : List Int} {w w' : World} {c : Int} (hc : c ≠ 0) (he : gE smZ zs = c) (hb : Below w.heap.size w w') : FGetO zs w (.returned (.tuple #[.slice none 0 0, .int .i64 0, .int .i64 c])) w' := by
  have e1 : gB smZ zs = [] := by unfold gB; rw [if_neg (by rw [he]; exact hc)]
  have e2 : gN smZ zs = 0 := by unfold gN; rw [if_neg (by rw [he]; exact hc)]
  refine ⟨none, 0, ?_, ?_, hb⟩
  · rw [e1, e2, he]; rfl
  · rw [e1]; exact World.ownsRow_nil _ _ _ _
set_option maxHeartbeats 400000 in
theorem fget_form (A : Option Addr) (n c : Nat) (zs : List Int) (w : World) (hr : Reads w w.heap.size 1 A n (nums .u8 zs)) (hz : ∀ z ∈ zs, 0 ≤ z ∧ z < 256) (hn : n ≤ 9223372036854775807) (h : (n ≠ 0 ∧ zs.getD 0 0 ≠ 181) ∨ ((n = 0 ∨ zs.getD 0 0 = 181) ∧ 60000 < nZ zs)) :
    Calls Tryd.prog 69 #[.slice A n c] w (FGetO zs w) := by
  have hl : zs.length = n := by have := hr.1; simpa [nums] using this
  have he : gE smZ zs = 6 := by
    unfold gE
    rcases h with h | h
    · rw [if_pos (by rw [hl]; exact h)]
    · rw [if_neg (by rw [hl]; intro h'; rcases h.1 with h1 | h1; exact h'.1 h1; exact h'.2 h1), if_pos h.2]
  have HE := Lib.hid he
  rcases h with h | h
  · have hc := length_bad A n c zs w hr hn h.1 h.2
    clear hr hz h he hl
    go_enter Tryd.func69, Tryd.ntmps69
    go_wp2_with fail
    refine hc.mono ?_
    rintro e w' ⟨rfl, rfl⟩
    go_wp2_with fail
    go_ret3
    exact FGet_bad (by decide) HE.out (Below.refl _ _)
  · have hc := length_good A n c zs w hr hz hn h.1
    have hd : decide (nZ zs ≤ 60000) = false := by simp; exact h.2
    rw [hd] at hc
    generalize nZ zs = x at hc
    clear hr hz h he hl hd
    go_enter Tryd.func69, Tryd.ntmps69
    go_wp2_with fail
    refine hc.mono ?_
    rintro e w' ⟨rfl, rfl⟩
    go_wp2_with fail
    go_ret3
    exact FGet_bad (by decide) HE.out (Below.refl _ _)
set_option maxHeartbeats 400000 in
theorem fget_short (A : Option Addr) (n c : Nat) (zs : List Int) (w : World) (hr : Reads w w.heap.size 1 A n (nums .u8 zs)) (hz : ∀ z ∈ zs, 0 ≤ z ∧ z < 256) (hn : n ≤ 9223372036854775807) (h1 : n = 0 ∨ zs.getD 0 0 = 181) (h2 : nZ zs ≤ 60000) (h3 : (n : Int) < 8 + nZ zs) :
    Calls Tryd.prog 69 #[.slice A n c] w (FGetO zs w) := by
  have hl : zs.length = n := by have := hr.1; simpa [nums] using this
  have he : gE smZ zs = 5 := by
    unfold gE
    rw [if_neg (by rw [hl]; intro h'; rcases h1 with h1 | h1; exact h'.1 h1; exact h'.2 h1), if_neg (by omega), if_pos (by rw [hl]; exact h3)]
  have HE := Lib.hid he
  have hc := length_good A n c zs w hr hz hn h1
  have hd : decide (nZ zs ≤ 60000) = true := by simp; exact h2
  rw [hd] at hc
  obtain ⟨x0, x1⟩ := nZ_nn hz
  generalize nZ zs = x at hc h2 h3 x0 x1
  have hs := size_in x w x0 h2
  clear hr hz h1 he hl hd
  by_cases h4 : n < 4
  · go_enter Tryd.func69, Tryd.ntmps69
    go_wp2_with fail
    refine hc.mono ?_
    rintro e w' ⟨rfl, rfl⟩
    go_wp2_with fail
    go_ret3
    exact FGet_bad (by decide) HE.out (Below.refl _ _)
  · go_enter Tryd.func69, Tryd.ntmps69
    go_wp2_with fail
    refine hc.mono ?_
    rintro e w' ⟨rfl, rfl⟩
    go_wp2_with fail
    refine hs.mono ?_
    rintro e w' ⟨rfl, rfl⟩
    go_wp2_with fail
    go_ret3
    exact FGet_bad (by decide) HE.out (Below.refl _ _)
end Go.Proofs.YtjdimgigbgafbaaDoor
namespace Go.Proofs.YtjdimgigbgafbaaDoor
open Go.RowKit
open Byts Fram
set_option linter.unusedVariables false
theorem tail_at (zs : List Int) (m j : Nat) (hj : j < 4) (h : m + 4 ≤ zs.length) : ((zs.drop m).take 4)[j]? = some (zs.getD (m + j) 0) := by
  rw [List.getElem?_take, if_pos hj, List.getElem?_drop]
  simp [List.getD, show m + j < zs.length by omega]
theorem bytesZ_at (r : Crc.W32) (j : Nat) (hj : j < 4) : (bytesZ r)[j]? = some ((bytesZ r).getD j 0) := by
  simp [List.getD, show j < (bytesZ r).length from hj]
theorem tail_ne (zs : List Int) (m j : Nat) (r : Crc.W32) (hj : j < 4) (h : m + 4 ≤ zs.length) (hne : zs.getD (m + j) 0 ≠ (bytesZ r).getD j 0) : (zs.drop m).take 4 ≠ bytesZ r := by
  intro he
  have := tail_at zs m j hj h
  rw [he, bytesZ_at r j hj] at this
  injection this with this
  exact hne this.symm
theorem tail_eq (zs : List Int) (m : Nat) (r : Crc.W32) (h : m + 4 ≤ zs.length) (he : ∀ j, j < 4 → zs.getD (m + j) 0 = (bytesZ r).getD j 0) : (zs.drop m).take 4 = bytesZ r := by
  apply List.ext_getElem?
  intro j
  rcases Nat.lt_or_ge j 4 with hj | hj
  · rw [tail_at zs m j hj h, bytesZ_at r j hj, he j hj]
  · rw [List.getElem?_eq_none (by simp; omega), List.getElem?_eq_none (by exact hj)]
set_option maxHeartbeats 800000 in
theorem fget_main (A : Option Addr) (n c : Nat) (zs : List Int) (w : World) (ht : Tab w) (hr : Reads w w.heap.size 1 A n (nums .u8 zs)) (hz : ∀ z ∈ zs, 0 ≤ z ∧ z < 256) (hnc : n ≤ c) (hc0 : c ≤ 9223372036854775807) (h1 : n = 0 ∨ zs.getD 0 0 = 181) (h2 : nZ zs ≤ 60000) (h3 : 8 + nZ zs ≤ (n : Int)) :
    Calls Tryd.prog 69 #[.slice A n c] w (FGetO zs w) := by
  have hl : zs.length = n := by have := hr.1; simpa [nums] using this
  have hc := length_good A n c zs w hr hz (by omega) h1
  have hd : decide (nZ zs ≤ 60000) = true := by simp; exact h2
  rw [hd] at hc
  obtain ⟨x0, x1⟩ := nZ_nn hz
  have hgE : gE smZ zs = if (zs.drop (4 + (nZ zs).toNat)).take 4 ≠ smZ (zs.take (4 + (nZ zs).toNat)) then 13 else 0 := by
    unfold gE
    rw [if_neg (by rw [hl]; intro h'; rcases h1 with h1 | h1; exact h'.1 h1; exact h'.2 h1), if_neg (by omega), if_neg (by rw [hl]; omega)]
  obtain ⟨m, hm⟩ := Int.eq_ofNat_of_zero_le x0
  rw [hm, Int.toNat_natCast] at hgE
  have HGB : Hid (gE smZ zs = 0 → gB smZ zs = (zs.drop 4).take m ∧ gN smZ zs = 8 + (m : Int)) := Lib.hid (by
    intro h
    unfold gB gN
    rw [if_pos h, if_pos h, hm, Int.toNat_natCast]
    exact ⟨rfl, rfl⟩)
  rw [hm] at hc h2 h3
  have hm8 : 8 + m ≤ n := by omega
  have hm6 : m ≤ 60000 := by omega
  have hs := fun w' => size_in (m : Int) w' (by omega) h2
  have cs := sum_any A (4 + m) c (zs.take (4 + m)) w ht (by
    have := hr.first (k := 4 + m) (by omega)
    rw [Nat.mul_one] at this
    have e : (nums .u8 zs).take (4 + m) = nums .u8 (zs.take (4 + m)) := by simp [nums]
    rwa [e] at this) (fun z h => hz z (List.mem_of_mem_take h)) (by omega)
  obtain ⟨r, hr0⟩ : ∃ r, Crc.more 0#32 (zs.take (4 + m)) = r := ⟨_, rfl⟩
  have hsm : smZ (zs.take (4 + m)) = bytesZ r := by unfold smZ; rw [hr0]
  rw [hr0] at cs
  rw [hsm] at hgE
  have HE := Lib.hid hgE
  have HR := Lib.hid hr
  have HZ := Lib.hid hz
  have HL := Lib.hid hl
  have HS := Lib.hid hs
  have hrl := r.isLt
  clear hr hz h1 hl hd hgE hsm hr0 hm hs ht x0 x1 h2 h3
  go_enter Tryd.func69, Tryd.ntmps69
  go_wp2_with fail
  refine hc.mono ?_
  rintro e w' ⟨rfl, rfl⟩
  go_wp2_with fail
  refine (HS.out _).mono ?_
  rintro e w' ⟨rfl, rfl⟩
  go_wp2_with fail
  refine cs.mono ?_
  rintro e w' ⟨rfl, rfl⟩
  clear hc cs
  go_wp2_with fail
  go_loopw [8, 31] (fun _ i wr => ∃ k : Nat, k ≤ 4 ∧ i = .int .i64 k ∧ Hid (∀ j, j < k → zs.getD (4 + m + j) 0 = (bytesZ r).getD j 0) ∧ Below w.heap.size w wr) (fun _ i _ => 4 - (intOf i).toNat)
  case atStart => exact ⟨0, by omega, rfl, Lib.hid (fun j hj => absurd hj (by omega)), Below.refl _ _⟩
  case round =>
    obtain ⟨k, hk, rfl, HP, hbel⟩ := hrel
    have HB := Lib.hid hbel
    clear hbel
    by_cases hlt : k < 4
    · obtain ⟨b, off, rfl, hcell⟩ := getD_cell (cap := c) (HR.out.below HB.out) (k := 4 + m + k) (by omega)
      have hsh := Lib.hid (bytesZ_shr r k hlt)
      have hzb := getD_nn HZ.out (4 + m + k)
      have i0 : (0 : Int) ≤ 4 + (m : Int) + (k : Int) := by omega
      have i1 : 4 + (m : Int) + (k : Int) < (n : Int) := by omega
      have y0 : 0 ≤ (r.toNat : Int) / 2 ^ (8 * k) := Int.ediv_nonneg (by omega) (Int.pow_nonneg (by decide))
      have HNe := fun hne => tail_ne zs (4 + m) k r hlt (by rw [HL.out]; omega) hne
      obtain ⟨z, hzk⟩ : ∃ z, zs.getD (4 + m + k) 0 = z := ⟨_, rfl⟩
      rw [hzk] at hcell hzb HNe
      have HNE := Lib.hid HNe
      have HZk := Lib.hid hzk
      clear hzk HNe
      by_cases heq : z = (bytesZ r).getD k 0
      · have HQ := Lib.hid heq
        rw [hsh.out] at heq
        have ht : (z != ((r.toNat : Int) / 2 ^ (8 * k) % 256)) = false := by rw [heq]; simp
        clear heq
        go_wp2_with fail
        go_quiet (fail)
        go_wp2_with fail
        go_roundw
        case rel =>
          refine ⟨k + 1, by omega, by go_num, Lib.hid (fun j hj => ?_), below_drewN HB.out _⟩
          rcases Nat.lt_or_ge j k with h | h
          · exact HP.out j h
          · obtain rfl : j = k := by omega
            rw [HZk.out, HQ.out]
        case measure => simp [intOf]; omega
      · have hbad : gE smZ zs = 13 := by rw [HE.out, if_pos (HNE.out heq)]
        have HBad := Lib.hid hbad
        have ht : (z != ((r.toNat : Int) / 2 ^ (8 * k) % 256)) = true := by rw [bne_iff_ne, ← hsh.out]; exact heq
        clear heq hbad
        go_wp2_with fail
        go_quiet (fail)
        go_wp2_with fail
        go_ret3
        exact FGet_bad (by decide) HBad.out (below_drewN HB.out _)
    · obtain rfl : k = 4 := by omega
      have hok : gE smZ zs = 0 := by
        rw [HE.out, if_neg]
        intro h
        exact h (tail_eq zs (4 + m) r (by rw [HL.out]; omega) HP.out)
      obtain ⟨e1, e2⟩ := HGB.out hok
      have hcr := (HR.out.below HB.out).cut (k := 4) (cap := c) (by omega) hnc
      have hcr2 := hcr.first (k := m) (by omega)
      have ed : ((nums .u8 zs).drop (4 * 1)).take (m * 1) = nums .u8 ((zs.drop 4).take m) := by simp [nums]
      rw [ed, Nat.mul_one] at hcr2
      have hA3 : (if c = 4 then A else A.map (·.add (4 * 1))) = Option.map (fun x : Addr => ({ block := x.block, off := x.off + 4 } : Addr)) A := by rw [if_neg (by omega)]; rfl
      have hm4 := Lib.hid (show 4 + m - 4 = m by omega)
      rw [hA3] at hcr2
      have HC2 := Lib.hid hcr2
      have HOk := Lib.hid hok
      have E1 := Lib.hid e1
      have E2 := Lib.hid e2
      have hws := HB.out.size
      clear hok e1 e2 hcr hcr2 ed HP hA3
      go_wp2_with (at_builtin; refine wpl_bytes rfl (.const (.slice none 0 0)) (.tmp 51) rfl w.heap.size (.slice none 0 0) 0 [] rfl (World.ownsRow_nil _ _ _ _) w.heap.size (Option.map (fun x : Addr => ({ block := x.block, off := x.off + 4 } : Addr)) A) (4 + m - 4) (c - 4) ((zs.drop 4).take m) rfl ?r1 ?c1 ?c2 ?_)
      case r1 => rw [hm4.out]; exact HC2.out
      case c1 => omega
      case c2 => exact hws
      intro A4 c4 w4 hown4 hgr4 hb4 hor4
      have hbD := HB.out.trans hb4
      have HBD := Lib.hid hbD
      have HO := Lib.hid hown4
      have hs4 := HS.out w4
      clear hgr4 hor4 hb4 hown4 hbD
      go_wp2_with fail
      refine hs4.mono ?_
      rintro e w' ⟨rfl, rfl⟩
      go_wp2
      go_ret3
      have ho := HO.out
      try simp only [Nat.zero_add, List.nil_append, hm4.out] at ho
      have hlen : (gB smZ zs).length = m := by rw [E1.out]; simp [HL.out]; omega
      refine ⟨A4, c4, ?_, ?_, HBD.out⟩
      · rw [hlen, E2.out, HOk.out, show (8 : Int) + (m : Int) = 4 + (m : Int) + 4 by omega]; rfl
      · rw [hlen, E1.out]; exact ho
end Go.Proofs.YtjdimgigbgafbaaDoor
namespace Go.Proofs.YtjdimgigbgafbaaDoor
open Go.RowKit
open Byts Fram
set_option linter.unusedVariables false
def gStep (zs : List Int) : Nat := max 1 (gN smZ zs).toNat
def allF (zs : List Int) (p : Nat) : List (List Int) × Nat × Int :=
  if h : p < zs.length then
    if gE smZ (zs.drop p) = 0 then
      let r := allF zs (p + gStep (zs.drop p))
      (gB smZ (zs.drop p) :: r.1, r.2)
    else ([], p, gE smZ (zs.drop p))
  else ([], p, 0)
termination_by zs.length - p
decreasing_by
  unfold gStep
  omega
theorem allF_end {zs : List Int} {p : Nat} (h : zs.length ≤ p) : allF zs p = ([], p, 0) := by
  rw [allF, dif_neg (by omega)]
theorem allF_bad {zs : List Int} {p : Nat} (h : p < zs.length) (he : gE smZ (zs.drop p) ≠ 0) : allF zs p = ([], p, gE smZ (zs.drop p)) := by
  rw [allF, dif_pos h, if_neg he]
theorem allF_ok {zs : List Int} {p : Nat} (h : p < zs.length) (he : gE smZ (zs.drop p) = 0) : allF zs p = (gB smZ (zs.drop p) :: (allF zs (p + gStep (zs.drop p))).1, (allF zs (p + gStep (zs.drop p))).2) := by
  rw [allF, dif_pos h, if_pos he]
structure AllSt (zs : List Int) (p : Nat) (o : List (List Int)) : Prop where
  at_ : allF zs 0 = (o ++ (allF zs p).1, (allF zs p).2)
  le : p ≤ zs.length
  few : o.length ≤ p
theorem AllSt.start (zs : List Int) : AllSt zs 0 [] := ⟨rfl, Nat.zero_le _, Nat.le_refl _⟩
theorem gN_ok {zs : List Int} (hz : ∀ z ∈ zs, 0 ≤ z ∧ z < 256) (h : gE smZ zs = 0) : 8 ≤ gN smZ zs ∧ gN smZ zs ≤ (zs.length : Int) ∧ (gStep zs : Int) = gN smZ zs := by
  have h0 := (nZ_nn hz).1
  have e : gN smZ zs = 8 + nZ zs := by unfold gN; rw [if_pos h]
  have h2 : ¬ ((zs.length : Int) < 8 + nZ zs) := by
    intro hlt
    unfold gE at h
    split at h
    · cases h
    · split at h
      · cases h
      · cases h
  unfold gStep
  omega
variable {zs : List Int} {p : Nat} {o : List (List Int)}
theorem AllSt.next (h : AllSt zs p o) (hz : ∀ z ∈ zs, 0 ≤ z ∧ z < 256) (hp : p < zs.length) (he : gE smZ (zs.drop p) = 0) : AllSt zs (p + gStep (zs.drop p)) (o ++ [gB smZ (zs.drop p)]) := by
  obtain ⟨h8, hl, hs⟩ := gN_ok (fun z hz' => hz z (List.mem_of_mem_drop hz')) he
  rw [List.length_drop] at hl
  refine ⟨?_, by omega, ?_⟩
  · rw [h.at_, allF_ok hp he]
    simp
  · have := h.few
    simp only [List.length_append, List.length_cons, List.length_nil]
    omega
theorem AllSt.done (h : AllSt zs p o) (hp : zs.length ≤ p) : allF zs 0 = (o, p, 0) := by
  rw [h.at_, allF_end hp, List.append_nil]
theorem AllSt.bad (h : AllSt zs p o) (hp : p < zs.length) (he : gE smZ (zs.drop p) ≠ 0) : allF zs 0 = (o, p, gE smZ (zs.drop p)) := by
  rw [h.at_, allF_bad hp he, List.append_nil]
theorem fgetO_any (A : Option Addr) (n c : Nat) (zs : List Int) (w : World) (ht : Tab w) (hr : Reads w w.heap.size 1 A n (nums .u8 zs)) (hz : ∀ z ∈ zs, 0 ≤ z ∧ z < 256) (hnc : n ≤ c) (hc0 : c ≤ 9223372036854775807) :
    Calls Tryd.prog 69 #[.slice A n c] w (FGetO zs w) := by
  by_cases h1 : n ≠ 0 ∧ zs.getD 0 0 ≠ 181
  · exact fget_form A n c zs w hr hz (by omega) (.inl h1)
  · have h1' : n = 0 ∨ zs.getD 0 0 = 181 := by
      by_cases h : n = 0
      · exact .inl h
      · right
        by_cases h2 : zs.getD 0 0 = 181
        · exact h2
        · exact absurd ⟨h, h2⟩ h1
    by_cases h2 : nZ zs ≤ 60000
    · by_cases h3 : (n : Int) < 8 + nZ zs
      · exact fget_short A n c zs w hr hz (by omega) h1' h2 h3
      · exact fget_main A n c zs w ht hr hz hnc hc0 h1' h2 (by omega)
    · exact fget_form A n c zs w hr hz (by omega) (.inr ⟨h1', by omega⟩)
end Go.Proofs.YtjdimgigbgafbaaDoor
namespace Go.Proofs.YtjdimgigbgafbaaDoor
set_option maxRecDepth 100000
open Byts Seal Fram
set_option linter.unusedVariables false
namespace Lo
structure Ls where
  (fr ct : Nat) (ep nx : Int) (sm tm : List Int) (bad : Int)
def Bytes (l : List Int) : Prop := ∀ z ∈ l, 0 ≤ z ∧ z < 256
structure Byte (s : Ds) : Prop where
  k : ∀ x ∈ s.kept, Bytes x
  p : ∀ x ∈ s.pend, Bytes x.2
def okP (zs : List Int) (ep : Int) : Bool := decide (sE smZ zs = 0 ∧ sK smZ zs = 1 ∧ sA smZ zs = ep ∧ 1 ≤ sB smZ zs ∧ sB smZ zs < 4611686018427387904 ∧ 10 < (sV smZ zs).length)
def pAt (zs : List Int) : Int := (sV smZ zs).getD 0 0 * 256 + (sV smZ zs).getD 1 0
def pPrev (zs : List Int) : Int := num (((sV smZ zs).drop 2).take 8)
def pBy (zs : List Int) : List Int := (sV smZ zs).drop 10
structure Os where
  (nx : Int) (ch : Bool) (tm sm : List Int)
def fol (o : Os) (i : Nat) (zs : List Int) : Bool :=
  if pAt zs ≠ i ∨ o.sm.length ≠ i * 991 then false else if i = 0 then decide (pPrev zs = 0) else decide (pPrev zs = o.tm.getD (i - 1) 0)
def opNx (ep : Int) (zs : List Int) (o : Os) : Int := if okP zs ep then max o.nx (sB smZ zs + 1) else o.nx
def opStep (ep : Int) (i : Nat) (zs : List Int) (o : Os) : Os :=
  if (o.ch && okP zs ep && fol o i zs) = true then ⟨opNx ep zs o, true, o.tm ++ [sB smZ zs], o.sm ++ pBy zs⟩ else ⟨opNx ep zs o, false, o.tm, o.sm⟩
def opI (s : Ds) (fr : Nat) (ep : Int) : Nat → Os
  | 0 => ⟨1, true, [], []⟩
  | i + 1 => opStep ep i (s.now (fr + i)) (opI s fr ep i)
def used (l : List Int) : Nat := (allF l 0).2.1
def recs (l : List Int) : List (List Int) := (allF l 0).1
def openL (s : Ds) (fr ct : Nat) (ep : Int) : Ls :=
  ⟨fr, ct, ep, (opI s fr ep ct).nx, (opI s fr ep ct).sm.take (used (opI s fr ep ct).sm), (opI s fr ep ct).tm.take ((used (opI s fr ep ct).sm + 990) / 991), 0⟩
def rdN (s : Ds) (n : Nat) : Ds := { s with rd := s.rd + n }
structure OsOk (o : Os) (i : Nat) : Prop where
  n1 : 1 ≤ o.nx
  n2 : o.nx ≤ 4611686018427387904
  c1 : o.ch = true → o.tm.length = i
  c2 : o.tm.length ≤ i
  sb : Bytes o.sm
  sl : o.sm.length ≤ i * 991
  sg : o.sm.length ≤ o.tm.length * 991
  sh : (o.tm.length - 1) * 991 ≤ o.sm.length
  tt : ∀ t ∈ o.tm, 0 ≤ t ∧ t ≤ 4611686018427387904
theorem okP_iff {zs : List Int} {ep : Int} : okP zs ep = true ↔ sE smZ zs = 0 ∧ sK smZ zs = 1 ∧ sA smZ zs = ep ∧ 1 ≤ sB smZ zs ∧ sB smZ zs < 4611686018427387904 ∧ 10 < (sV smZ zs).length := decide_eq_true_iff
theorem sV_le {zs : List Int} (hz : Bytes zs) : (sV smZ zs).length ≤ 1001 := by
  unfold sV
  split
  · rename_i h
    have : sN zs ≤ 1001 := by
      unfold sE at h
      split at h
      · cases h
      · split at h
        · cases h
        · split at h
          · cases h
          · omega
    have hb := sN_bd hz
    rw [List.length_take]
    omega
  · exact Nat.zero_le _
theorem pBy_le {zs : List Int} (hz : Bytes zs) : (pBy zs).length ≤ 991 := by
  have := sV_le hz
  unfold pBy
  rw [List.length_drop]
  omega
theorem pBy_pos {zs : List Int} {ep : Int} (h : okP zs ep = true) : 0 < (pBy zs).length := by
  have := (okP_iff.1 h).2.2.2.2.2
  unfold pBy
  rw [List.length_drop]
  omega
theorem pBy_bytes {zs : List Int} (hz : Bytes zs) : Bytes (pBy zs) := fun z hz' => sV_bytes smZ zs hz z (List.mem_of_mem_drop hz')
theorem OsOk.zero : OsOk ⟨1, true, [], []⟩ 0 := ⟨by decide, by decide, fun _ => rfl, Nat.le_refl _, (fun z hz => by cases hz), Nat.le_refl _, Nat.le_refl _, Nat.le_refl _, (fun z hz => by cases hz)⟩
theorem OsOk.nx_bd {o : Os} {i : Nat} (h : OsOk o i) (ep : Int) (zs : List Int) : 1 ≤ opNx ep zs o ∧ opNx ep zs o ≤ 4611686018427387904 := by
  have h1 := h.n1
  have h2 := h.n2
  unfold opNx
  split
  · rename_i hk
    have := okP_iff.1 hk
    omega
  · exact ⟨h1, h2⟩
theorem fol_len {o : Os} {i : Nat} {zs : List Int} (h : fol o i zs = true) : o.sm.length = i * 991 := by
  unfold fol at h
  split at h
  · cases h
  · rename_i hh
    omega
theorem OsOk.step {o : Os} {i : Nat} (h : OsOk o i) (ep : Int) {zs : List Int} (hz : Bytes zs) : OsOk (opStep ep i zs o) (i + 1) := by
  have hn := h.nx_bd ep zs
  have hl := pBy_le hz
  have hc := h.c2
  have hs := h.sl
  have hg := h.sg
  have hh := h.sh
  unfold opStep
  split
  · rename_i hk
    simp only [Bool.and_eq_true] at hk
    have hc1 := h.c1 hk.1.1
    have hf := fol_len hk.2
    refine ⟨hn.1, hn.2, fun _ => by simp [hc1], by simp [hc1], ?_, ?_, ?_, ?_, ?_⟩
    · intro z hz'
      rcases List.mem_append.1 hz' with h1 | h1
      · exact h.sb z h1
      · exact pBy_bytes hz z h1
    · simp only [List.length_append]; omega
    · simp only [List.length_append, List.length_cons, List.length_nil]; omega
    · simp only [List.length_append, List.length_cons, List.length_nil]; omega
    · intro t ht
      have hq := okP_iff.1 hk.1.2
      rcases List.mem_append.1 ht with h1 | h1
      · exact h.tt t h1
      · obtain rfl : t = sB smZ zs := by simpa using h1
        omega
  · exact ⟨hn.1, hn.2, (fun hk => by cases hk), by dsimp only; omega, h.sb, by dsimp only; omega, hg, hh, h.tt⟩
theorem now_bytes {s : Ds} (hb : Byte s) {a : Nat} (ha : a < s.kept.length) : Bytes (s.now a) :=
  nowI_mem (p := Bytes) ha hb.k hb.p _ (Nat.le_refl _)
theorem opI_ok {s : Ds} (hb : Byte s) {fr : Nat} (ep : Int) : ∀ {i : Nat}, fr + i ≤ s.kept.length → OsOk (opI s fr ep i) i
  | 0, _ => OsOk.zero
  | i + 1, h => (opI_ok hb ep (by omega)).step ep (now_bytes hb (by omega))
theorem allF_le {l : List Int} (hl : Bytes l) : ∀ (n p : Nat), p ≤ l.length → l.length - p ≤ n → (allF l p).2.1 ≤ l.length
  | 0, p, hp, h => by rw [allF_end (by omega)]; exact hp
  | n + 1, p, hp, h => by
    by_cases h1 : p < l.length
    · by_cases h2 : gE smZ (l.drop p) = 0
      · rw [allF_ok h1 h2]
        have hg := gN_ok (fun z hz => hl z (List.mem_of_mem_drop hz)) h2
        rw [List.length_drop] at hg
        exact allF_le hl n _ (by omega) (by omega)
      · rw [allF_bad h1 h2]; exact hp
    · rw [allF_end (by omega)]; exact hp
theorem used_le {l : List Int} (hl : Bytes l) : used l ≤ l.length := allF_le hl _ 0 (Nat.zero_le _) (Nat.le_refl _)
def shB (i : Nat) (prev : Int) (ch : List Int) : List Int := be 2 (i : Int) ++ (be 8 prev ++ ch)
def secL (ep nx : Int) (body : List Int) : List Int := sec 1 ep nx body (smZ (hd 1 ep nx body))
def prevL (l : Ls) (i : Nat) : Int := if i = 0 then 0 else l.tm.getD (i - 1) 0
def chunk (l : Ls) (i : Nat) : List Int := (l.sm.drop (i * 991)).take 991
def wrL (s : Ds) (l : Ls) (i : Nat) : Ds × Ls × Int :=
  let r := s.do_ ⟨1, ((l.fr + i : Nat) : Int), secL l.ep l.nx (shB i (prevL l i) (chunk l i)), true, []⟩
  (r.1, if r.2.2 = 0 then { l with tm := l.tm.take i ++ [l.nx], nx := l.nx + 1 } else l, r.2.2)
def wrN (s : Ds) (l : Ls) (i : Nat) : Nat → Ds × Ls × Int
  | 0 => (s, l, 0)
  | k + 1 =>
    let r := wrL s l i
    if r.2.2 = 0 then wrN r.1 r.2.1 (i + 1) k else (r.1, { r.2.1 with bad := r.2.2 }, r.2.2)
def appL (s : Ds) (l : Ls) (body : List Int) : Ds × Ls × Int :=
  if l.bad ≠ 0 then (s, l, l.bad)
  else if 60000 < body.length then (s, l, 4)
  else
    let f := frm smZ body
    let first := l.sm.length / 991
    let last := (l.sm.length + f.length - 1) / 991
    if l.ct * 991 < l.sm.length + f.length ∨ 4611686018427387904 ≤ l.nx + ((last - first : Nat) : Int) then (s, l, 12)
    else wrN s { l with sm := l.sm ++ f } first (last + 1 - first)
def syncL (s : Ds) (l : Ls) : Ds × Ls × Int :=
  if l.bad ≠ 0 then (s, l, l.bad)
  else
    let r := s.do_ ⟨2, 0, [], true, []⟩
    (r.1, { l with bad := r.2.2 }, r.2.2)
structure Ok (l : Ls) (n : Nat) : Prop where
  f1 : l.fr + l.ct ≤ n
  f2 : 1 ≤ l.ct
  e : 0 ≤ l.ep ∧ l.ep ≤ 18446744073709551615
  n1 : 1 ≤ l.nx
  n2 : l.nx ≤ 4611686018427387904
  sb : Bytes l.sm
  sl : l.sm.length ≤ l.ct * 991
  tl : l.bad = 0 → l.tm.length = (l.sm.length + 990) / 991
  tt : ∀ t ∈ l.tm, 0 ≤ t ∧ t ≤ 4611686018427387904
  tc : l.tm.length ≤ l.ct
end Lo
end Go.Proofs.YtjdimgigbgafbaaDoor
namespace Go.Proofs.YtjdimgigbgafbaaDoor
set_option maxRecDepth 100000
open Go.RowKit H
open Lo
set_option linter.unusedVariables false
def FullS (k : IntKind) (e : TypeId) (N : Nat) (w : World) (A : Option Addr) (n : Nat) (zs : List Int) : Prop :=
  ∃ g cs, A = some ⟨g, 0, none⟩ ∧ N ≤ g ∧ Blk w g e cs ∧ zs.length = n ∧ n ≤ maxLen ∧ ∀ j, j < n → cs[j]? = some (.int k (zs.getD j 0))
def Sm (k : IntKind) (e : TypeId) (N : Nat) (w : World) (A : Option Addr) (n c : Nat) (zs : List Int) : Prop :=
  w.ownsRow N e 1 (.slice A n c) n (nums k zs) ∨ (c = n ∧ FullS k e N w A n zs)
section
variable {k : IntKind} {e : TypeId} {N n c : Nat} {w w' : World} {A : Option Addr} {zs : List Int}
theorem Sm.len (h : Sm k e N w A n c zs) : zs.length = n := by
  rcases h with h | ⟨_, g, cs, _, _, _, h, _⟩
  · have := h.1; simpa [nums] using this
  · exact h
theorem FullS.reads (h : FullS k e N w A n zs) : Reads w w.heap.size 1 A n (nums k zs) := by
  obtain ⟨g, cs, rfl, _, hb, hl, _, hc⟩ := h
  refine ⟨by simp [nums, hl], fun _ => ⟨_, rfl, hb.lt, fun j u hu => ?_⟩⟩
  rw [Addr.add_mid, Nat.zero_add, hb.cell]
  simp only [nums, List.getElem?_map] at hu
  cases hz : zs[j]? with
  | none => rw [hz] at hu; cases hu
  | some z =>
    rw [hz] at hu
    have hj : j < n := by rw [← hl]; exact (List.getElem?_eq_some_iff.1 hz).1
    rw [hc j hj, List.getD, hz]
    exact hu
theorem Sm.reads (h : Sm k e N w A n c zs) : Reads w w.heap.size 1 A n (nums k zs) := by
  rcases h with h | ⟨_, h⟩
  · exact Reads.of_own h
  · exact h.reads
theorem Sm.bd (h : Sm k e N w A n c zs) : n ≤ c ∧ c ≤ maxLen := by
  rcases h with h | ⟨rfl, g, cs, _, _, _, _, h, _⟩
  · exact own_bd h
  · exact ⟨Nat.le_refl _, h⟩
theorem Sm.own (h : Sm k e N w A n c zs) {g : Nat} (hg : Value.ownBlock (.slice A n c) = some g) : IsT w g e ∧ N ≤ g := by
  rcases h with h | ⟨_, b, cs, rfl, hb, hk, _⟩
  · exact own_isT h hg
  · obtain rfl : b = g := by injection hg
    exact ⟨hk.isT, hb⟩
theorem Sm.kept (h : Sm k e N w A n c zs) {r : Option Nat} (hg : w.grownBy w' r) (hne : ∀ g, Value.ownBlock (.slice A n c) = some g → r ≠ some g) : Sm k e N w' A n c zs := by
  rcases h with h | ⟨hc, b, cs, rfl, hb, hk, hr⟩
  · refine .inl (h.kept hg ?_)
    cases ho : Value.ownBlock (.slice A n c) with
    | none => exact .inl rfl
    | some g => exact .inr (fun e => hne g ho e.symm)
  · exact .inr ⟨hc, b, cs, rfl, hb, hk.grown hg (fun e => hne b rfl e.symm), hr⟩
theorem Sm.ext (h : Sm k e N w A n c zs) (he : Ext w w') : Sm k e N w' A n c zs := h.kept (grown_ext (r := none) he) (fun g _ e => by cases e)
theorem Sm.chg (h : Sm k e N w A n c zs) {S : Nat → Prop} (hC : Chg S w w') (hne : ∀ g, Value.ownBlock (.slice A n c) = some g → ¬ S g) : Sm k e N w' A n c zs := by
  rcases h with h | ⟨hc, b, cs, rfl, hb, hk, hr⟩
  · exact .inl (hC.own h (fun g hg => hne g hg))
  · exact .inr ⟨hc, b, cs, rfl, hb, hC.blk hk (hne b rfl), hr⟩
theorem Sm.cut (h : Sm k e N w A n c zs) {q : Nat} (hq : q ≤ n) : Sm k e N w A q q (zs.take q) := by
  have hl := h.len
  have hb := h.bd
  rcases h with h | ⟨_, b, cs, rfl, hN, hk, _, hm, hr⟩
  · rcases h.2 with ⟨hv, h0⟩ | ⟨b, cap, cur, hv, hN, hh, h1, h2, h3, h4⟩
    · injection hv with e1 e2 e3
      subst e1 e2
      obtain rfl : q = 0 := by omega
      exact .inl (own_nil _ _ _ _)
    · injection hv with e1 e2 e3
      subst e1 e3
      refine .inr ⟨rfl, b, cur, rfl, hN, hh, by rw [List.length_take]; omega, by omega, fun j hj => ?_⟩
      have h5 : (nums k zs)[j]? = some (.int k (zs.getD j 0)) := by
        have : j < zs.length := by omega
        simp [nums, List.getD, this]
      rw [← h4, List.getElem?_take] at h5
      rw [if_pos (by omega)] at h5
      have h6 : (zs.take q).getD j 0 = zs.getD j 0 := by simp [List.getD, hj]
      rw [h6]
      simpa using h5
  · refine .inr ⟨rfl, b, cs, rfl, hN, hk, by rw [List.length_take]; omega, by omega, fun j hj => ?_⟩
    have h6 : (zs.take q).getD j 0 = zs.getD j 0 := by simp [List.getD, hj]
    rw [h6]
    exact hr j (by omega)
end
namespace H
section
variable {P : Program} {n : Nat} {ops rest : List Oper} {Q : Exit → Fr → World → Prop} {f : Fr} {w w' : World} {d : Option Tmp} {ty : TypeId} {pos : String} {aft : Array Edge} {g : Option (Nat × Bool)} {x y z : Operand} {v u p : Value} {t e tx tz : TypeId}
theorem wp_append_full {o : Oper} {a : Act} {K : Act → World → Prop} {Q : Exit → Act → World → Prop} (w : World) (s x : Operand) (t : TypeId)
    (ho : o.op = .call { callee := .builtin .append, args := #[s, x], argTypes := #[t, t] })
    (e : TypeId) (i : TypeInfo) (z : Value) (size bytes : Nat) (ht : P.underlying t = some (.slice e)) (hi : P.info? e = some i) (hz : i.zero = some z)
    (hsize : i.size = size) (hby : i.bytes = bytes) (hzs : z.cells.size = size) (hsz : 0 < size)
    (b : Addr) (n cap : Nat) (olds : List Value) (hlo : olds.length = n * size) (holds : ∀ j u, olds[j]? = some u → w.cell? (b.add j) = some u)
    (ad : Addr) (m c : Nat) (news : List Value) (hl : news.length = m * size) (hnews : ∀ j u, news[j]? = some u → w.cell? (ad.add j) = some u)
    (hg : cap < n + m) (h63 : n + m ≤ maxLen) (hbytes : (n + m) * bytes ≤ 140737488355328) (hs : a.eval s = .slice (some b) n cap) (hx : a.eval x = .slice (some ad) m c)
    (h : ∀ v' w', w'.ownsRow w.heap.size e size v' (n + m) (olds ++ news) → w.grownBy w' none → K (a.put o.dst v') w') : o.wp P a w K Q := by
  obtain ⟨v', w', hrun, h2, h3⟩ := run_append_arg_grows (P := P) w t o.type e i z size bytes ht hi hz hsize hby hzs hsz b n cap olds hlo holds ad m c news hl hnews hg h63 hbytes
  unfold Oper.wp execOp
  simp only [ho, resolve, invoke, builtin, Sem.run_bind, Sem.run_pure, Result.andThen_ok, List.map_toArray, List.map_cons, List.map_nil, hs, hx, hrun]
  exact h v' w' h2 h3
theorem L.appendSm {base n' c' m c B bytes : Nat} {k : IntKind} {A A' : Option Addr} {xs zs : List Int} {z : Value} (hg : wn ops f g = true) (hs : ev f x = .slice A' n' c') (hx : ev f y = .slice A m c) (ht : P.underlying t = some (.slice e)) (he : Elm P e z 1 bytes)
    (hown : Sm k e base w A' n' c' xs) (hr : Reads w B 1 A m (nums k zs)) (hm : 0 < m) (hlen : n' + m ≤ maxLen ∧ (n' + m) * bytes ≤ 140737488355328) (hbase : base ≤ w.heap.size)
    (h : ∀ A2 c2 w', w'.ownsRow base e 1 (.slice A2 (n' + m) c2) (n' + m) (nums k (xs ++ zs)) → w.grownBy w' (Value.ownBlock (.slice A' n' c')) → (∀ b, Value.ownBlock (.slice A2 (n' + m) c2) = some b → Value.ownBlock (.slice A' n' c') = some b ∨ w.heap.size ≤ b) → L P n ops Q rest (putO f d (.slice A2 (n' + m) c2)) w') :
    L P n ops Q (⟨d, .call { callee := .builtin .append, args := #[x, y], argTypes := #[t, t] }, ty, pos, aft, g⟩ :: rest) f w := by
  rcases hown with hown | ⟨rfl, hfull⟩
  · refine L.appendN hg hs hx ht he hown hr hlen hbase fun A2 c2 w2 h1 h2 _ h4 => h A2 c2 w2 h1 h2 fun b hb => ?_
    rcases h4 with h4 | h4
    · exact .inl (h4 ▸ hb)
    · rw [hb] at h4
      injection h4 with h4
      exact .inr (by omega)
  · refine L.law hg fun a hr' K hK => ?_
    obtain ⟨i, hi0, hz, hs1, hb1⟩ := info_parts he.1
    have hR := hfull.reads
    obtain ⟨b, cs, rfl, hN, hk, hl, hmx, hcs⟩ := hfull
    obtain ⟨hlz, hat⟩ := hr
    obtain ⟨ad, rfl, _, hcells⟩ := hat hm
    have hlo : (nums k xs).length = c' * 1 := by simp [nums, hl]
    have holds : ∀ j u, (nums k xs)[j]? = some u → w.cell? ((⟨b, 0, none⟩ : Addr).add j) = some u := fun j u hu => by
      obtain ⟨_, hat2⟩ := hR
      obtain ⟨ad2, e2, _, hc2⟩ := hat2 (by
        have := (List.getElem?_eq_some_iff.1 hu).1
        rw [hlo] at this
        omega)
      injection e2 with e2
      subst e2
      exact hc2 j u hu
    refine wp_append_full w x y t rfl e i z 1 bytes ht hi0 hz hs1 hb1 he.2.1 he.2.2 ⟨b, 0, none⟩ c' c' (nums k xs) hlo holds ad m c (nums k zs) (by rw [hlz]) hcells (by omega) hlen.1 hlen.2 (by rw [hr'.eval]; exact hs) (by rw [hr'.eval]; exact hx) fun v' w2 h2 h3 => ?_
    obtain ⟨A2, c2, rfl⟩ := ownsRow_slice h2
    rw [nums_append] at h2
    exact hK _ _ (h A2 c2 w2 (h2.mono hbase) (grown_ext (grown_none h3)) fun b2 hb2 => .inr (own_isT h2 hb2).2)
end
end H
end Go.Proofs.YtjdimgigbgafbaaDoor
namespace Go.Proofs.YtjdimgigbgafbaaDoor
set_option maxRecDepth 100000
open Go.RowKit H
open Lo
set_option linter.unusedVariables false
theorem Tab.low {w w' : World} {B : Nat} (h : Tab w) (hb : Below B w w') (hB : 0 < B) : Tab w' := fun j hj => (hb.cell (p := ⟨0, j, none⟩) hB).trans (h j hj)
theorem tabx {w w' : World} (h : Tab w) (he : Ext w w') : Tab w' := h.below he (Nat.le_refl _)
structure Lg where
  (p : Nat) (sA : Option Addr) (sc : Nat) (tA : Option Addr) (tc : Nat) (st : Ls)
namespace Lg
abbrev ss (L : Lg) : Value := .slice L.sA L.st.sm.length L.sc
abbrev ts (L : Lg) : Value := .slice L.tA L.st.tm.length L.tc
abbrev ptr (L : Lg) : Value := .pointer (some ⟨L.p, 0, none⟩)
abbrev cs (L : Lg) (v : Dk) : Array Value := #[.bool true, v.ptr, .int .i64 (L.st.fr : Int), .int .i64 (L.st.ct : Int), .int .u64 L.st.ep, .int .u64 L.st.nx, L.ss, L.ts, .int .i64 L.st.bad]
structure At (L : Lg) (v : Dk) (N : Nat) (C : Nat → Prop) (w : World) : Prop where
  hd : v.At N C w
  hb : Blk w L.p 83 (L.cs v)
  hs : Sm .u8 5 N w L.sA L.st.sm.length L.sc L.st.sm
  ht : w.ownsRow N 35 1 L.ts L.st.tm.length (nums .u64 L.st.tm)
  sep : ∀ x, v.Cl x → ∀ g, sblk x = some g → L.ss.ownBlock ≠ some g
  hN : N ≤ L.p
  tab : Tab w
  tN : 0 < N
def LS (L : Lg) (v : Dk) (C : Nat → Prop) (w : World) (g : Nat) : Prop :=
  g = v.kb ∨ g = v.d ∨ (IsT w g 107 ∧ ¬ C g) ∨ g = L.p ∨ L.ss.ownBlock = some g ∨ L.ts.ownBlock = some g
structure Gr (L L' : Lg) (n : Nat) : Prop where
  p : L'.p = L.p
  s : ∀ g, L'.ss.ownBlock = some g → L.ss.ownBlock = some g ∨ n ≤ g
  t : ∀ g, L'.ts.ownBlock = some g → L.ts.ownBlock = some g ∨ n ≤ g
theorem Gr.refl (L : Lg) (n : Nat) : Gr L L n := ⟨rfl, fun g h => .inl h, fun g h => .inl h⟩
theorem Gr.trans {a b c : Lg} {n m : Nat} (h : Gr a b n) (k : Gr b c m) (hn : n ≤ m) : Gr a c n :=
  ⟨k.p.trans h.p, fun g hg => (k.s g hg).elim (fun e => h.s g e) (fun e => .inr (by omega)), fun g hg => (k.t g hg).elim (fun e => h.t g e) (fun e => .inr (by omega))⟩
section
variable {L L' : Lg} {v v' : Dk} {N : Nat} {C : Nat → Prop} {w w' : World}
theorem _root_.Go.Proofs.YtjdimgigbgafbaaDoor.Kq.chg {kb d : Nat} (k : Kq kb d C w w') : Chg (fun g => g = kb ∨ g = d ∨ (IsT w g 107 ∧ ¬ C g)) w w' :=
  ⟨k.os, k.tape, k.output, k.size, fun g hg hS => k.block g hg (fun e => hS (.inl e)) (fun e => hS (.inr (.inl e))) (fun ht => Classical.byContradiction fun hc => hS (.inr (.inr ⟨ht, hc⟩)))⟩
theorem At.below (h : L.At v N C w) (k : Chg (L.LS v C w) w w') : Below N w w' := by
  refine k.below h.hd.nsz fun g hg => ?_
  rcases hg with rfl | rfl | ⟨_, hc⟩ | rfl | hg | hg
  · exact h.hd.kT.2
  · exact h.hd.hN
  · exact Decidable.byContradiction fun hn => hc (h.hd.hCN g (by omega))
  · exact h.hN
  · exact (h.hs.own hg).2
  · exact (own_isT h.ht hg).2
theorem At.ext (h : L.At v N C w) (he : Ext w w') : L.At v N C w' := ⟨h.hd.ext he, h.hb.ext he, h.hs.ext he, h.ht.ext he, h.sep, h.hN, tabx h.tab he, h.tN⟩
theorem At.disk (h : L.At v N C w) (hv : v'.At N C w') (hd : v'.d = v.d) (k : Kq v.kb v.d C w w') (hF : v.Fr v' w.heap.size) : L.At v' N C w' := by
  have kc := k.chg
  have nT : ∀ {g t : Nat}, IsT w g t → t ≠ 39 → t ≠ 105 → t ≠ 107 → ¬ (g = v.kb ∨ g = v.d ∨ (IsT w g 107 ∧ ¬ C g)) := by
    rintro g t ht h1 h2 h3 (rfl | rfl | ⟨h4, _⟩)
    · exact h1 (ht.fun_ h.hd.kT.1)
    · exact h2 (ht.fun_ h.hd.dT)
    · exact h3 (ht.fun_ h4)
  refine ⟨hv, ?_, h.hs.chg kc fun g hg => nT (h.hs.own hg).1 (by decide) (by decide) (by decide), kc.own h.ht fun g hg => nT (own_isT h.ht hg).1 (by decide) (by decide) (by decide), fun x hx g hg he => ?_, h.hN, h.tab.low (h.hd.below k) h.tN, h.tN⟩
  · have := kc.blk h.hb (nT h.hb.isT (by decide) (by decide) (by decide))
    have e : L.cs v' = L.cs v := by unfold cs Dk.ptr; rw [hd]
    rw [e]
    exact this
  · rcases hF x hx with h1 | h1
    · exact h.sep x h1 g hg he
    · have h2 := h1 g hg
      obtain ⟨cs, h3⟩ := (h.hs.own he).1
      have h4 : Blk w g 5 cs := h3
      have := h4.lt
      omega
def To (L : Lg) (v : Dk) (N : Nat) (C : Nat → Prop) (s : Ds) (l : Ls) (w w' : World) : Prop :=
  ∃ L' : Lg, ∃ v' : Dk, L'.At v' N C w' ∧ v'.d = v.d ∧ v'.kb = v.kb ∧ v'.abs = s ∧ L'.st = l ∧ Chg (L.LS v C w) w w' ∧ Gr L L' w.heap.size
theorem LS.back (hC : Chg (L.LS v C w) w w') (hd : v'.d = v.d) (hk : v'.kb = v.kb) (hg : Gr L L' w.heap.size) {g : Nat} (hlt : g < w.heap.size) (h : L'.LS v' C w' g) : L.LS v C w g := by
  rcases h with h | h | ⟨h1, h2⟩ | h | h | h
  · exact .inl (h.trans hk)
  · exact .inr (.inl (h.trans hd))
  · refine Classical.byContradiction fun hn => hn (.inr (.inr (.inl ⟨h1.same (hC.block g hlt hn), h2⟩)))
  · exact .inr (.inr (.inr (.inl (h.trans hg.p))))
  · rcases hg.s g h with h | h
    · exact .inr (.inr (.inr (.inr (.inl h))))
    · omega
  · rcases hg.t g h with h | h
    · exact .inr (.inr (.inr (.inr (.inr h))))
    · omega
theorem chg_trans {w2 : World} (h : Chg (L.LS v C w) w w') (hd : v'.d = v.d) (hk : v'.kb = v.kb) (hg : Gr L L' w.heap.size) (k : Chg (L'.LS v' C w') w' w2) : Chg (L.LS v C w) w w2 :=
  h.trans k fun g hlt hS => LS.back h hd hk hg hlt hS
theorem chg_kq {w2 : World} (h : Chg (L.LS v C w) w w') (hd : v'.d = v.d) (hk : v'.kb = v.kb) (hg : Gr L L' w.heap.size) (k : Kq v'.kb v'.d C w' w2) : Chg (L.LS v C w) w w2 :=
  chg_trans h hd hk hg (k.chg.mono fun g hS => by
    rcases hS with h | h | h
    · exact .inl h
    · exact .inr (.inl h)
    · exact .inr (.inr (.inl h)))
theorem chg_ext {w2 : World} (h : Chg (L.LS v C w) w w') (k : Ext w' w2) : Chg (L.LS v C w) w w2 := h.trans (Chg.of_ext (S := fun _ => False) k) fun g _ hf => hf.elim
theorem At.put (h : L.At v N C w) (hg : w.grownBy w' (some L.p)) : v.At N C w' ∧ Sm .u8 5 N w' L.sA L.st.sm.length L.sc L.st.sm ∧ w'.ownsRow N 35 1 L.ts L.st.tm.length (nums .u64 L.st.tm) ∧ Chg (L.LS v C w) w w' := by
  have hT := h.hb.isT
  refine ⟨?_, h.hs.kept hg fun g hg2 e => ?_, h.ht.kept hg (.inr fun e => ?_), Chg.of_grown hg fun g hg => .inr (.inr (.inr (.inl (by injection hg with hg; exact hg.symm))))⟩
  · have n1 : L.p ≠ v.kb := fun e => by rw [e] at hT; exact absurd (hT.fun_ h.hd.kT.1) (by decide)
    have n2 : L.p ≠ v.d := fun e => by rw [e] at hT; exact absurd (hT.fun_ h.hd.dT) (by decide)
    have n3 : v.pend.ownBlock ≠ some L.p := fun e => absurd (hT.fun_ (own_isT h.hd.hp e).1) (by decide)
    have dat : ∀ {x : Value} {zs : List Int}, Dat w x zs → Dat w' x zs := by
      rintro x zs ⟨b, off, c, cs, rfl, hl, hb, hc⟩
      exact ⟨b, off, c, cs, rfl, hl, hb.grown hg (fun e => by injection e with e; subst e; exact absurd (hT.fun_ hb.isT) (by decide)), hc⟩
    exact ⟨h.hd.hb.grown hg (fun e => n2 (by injection e with e; exact e.symm)), h.hd.hk.kept hg (.inr (fun e => n1 (by injection e with e; exact e.symm))), h.hd.hp.kept hg (.inr n3), h.hd.hC, fun b hb => Nat.lt_of_lt_of_le (h.hd.hL b hb) hg.size, h.hd.hCN, fun x hx => dat (h.hd.kd x hx), fun x hx => ⟨(h.hd.pd x hx).1, dat (h.hd.pd x hx).2⟩, h.hd.hN, h.hd.h1, h.hd.hl⟩
  · injection e with e
    subst e
    exact absurd (hT.fun_ (h.hs.own hg2).1) (by decide)
  · exact absurd (hT.fun_ (own_isT h.ht e).1) (by decide)
end
end Lg
end Go.Proofs.YtjdimgigbgafbaaDoor
