/-
  manifest.Put and the reference's.
-/
import Derived.Test.YtlohbkcedpkjaaaDoorWManA
import Derived.Test.YtlohbkcedpkjaaaDoorWBufP
import Derived.Test.YtlohbkcedpkjaaaDoorWSealI
import Derived.Test.YtlohbkcedpkjaaaDoorWSealR
namespace Go.Proofs.YtlohbkcedpkjaaaDoor
set_option maxRecDepth 100000
open Go.RowKit H
open Byts Cod Seal
set_option linter.unusedVariables false
namespace Man
theorem rb_take_le {m : M} (h : may m) (i : Nat) : (rb (m.r.take i)).length ≤ 18 * m.r.length := by
  have h1 := rb_le (l := m.r.take i) (fun r hr => h.2.2.2.2.2 r (List.mem_of_mem_take hr))
  rw [List.length_take] at h1
  omega
theorem tab_ext {w w' : World} (h : Tab w) (he : Ext w w') : Tab w' := h.below he (Nat.le_refl _)
theorem sc_length {m : M} (h : may m) (hi : In m) : (sc smZ m).length = 1024 := by
  unfold sc sec smZ
  rw [List.length_append, hd_length _ _ _ _ (body_le h hi)]
  simp [bytesZ]
theorem rb_take_succ (l : List (Int × Int)) {i : Nat} {x : Int × Int} (hx : l[i]? = some x) : rb (l.take (i + 1)) = rb (l.take i) ++ (cu x.1 ++ cu x.2) := by
  rw [List.take_succ_eq_append_getElem (List.getElem?_eq_some_iff.1 hx).1, rb_snoc, (List.getElem?_eq_some_iff.1 hx).2]
theorem cul {x : Int} (h0 : 0 ≤ x) (h1 : x ≤ 18446744073709551615) : (cu x).length = wd x + 1 ∧ wd x ≤ 8 := ⟨cu_length x, wd_le8 h0 h1⟩
theorem put_no {w : World} {N : Nat} (m : M) (A : Option Addr) (c : Nat) (hr : Reads w N 2 A m.r.length (m.r.flatMap rV)) (hN : N ≤ w.heap.size) (h0 : 0 ≤ m.v) (hm : m.r.length ≤ 1000000) (h : ¬ may m) :
    Calls Tryd.prog 17 #[val m A c] w fun e w' => e = .returned (.tuple #[.slice none 0 0, .int .i64 2]) ∧ Ext w w' := by
  have k := fun w => may_ (w := w) (N := N) m A c
  rw [decide_eq_false h] at k
  refine enter Tryd.func17 rfl (by kernel_rfl) ?_
  refine J.seq ?_
  refine J.region ?_
  -- box
  refine L.boxA (l := [_, _, _, _, _]) rfl rfl ?_
  intro b1 w1 hb1 hs1 hk1 he1
  refine L.va rfl (X.assign (by conv => lhs; whnf)) ?_
  refine L.va rfl (X.assign (by conv => lhs; whnf)) ?_
  refine L.nil ?_
  refine J.seq ?_
  refine J.seq ?_
  refine J.region ?_
  refine L.va rfl ((by first | exact X.loadAgg rfl (range_l hk1) Tryd.underlying30 rfl (by kernel_rfl) | exact X.loadAgg rfl (range_blk hk1) Tryd.underlying30 rfl (by kernel_rfl))) ?_
  -- callfn bushel/manifest.may
  refine L.call rfl en_30 rfl (k w1 (hr.low (Below.mono he1 hN) (Nat.le_refl _)) (by omega) h0 hm) ?_
  rintro e w2 ⟨rfl, he2⟩
  refine ⟨_, rfl, ?_⟩
  refine L.va rfl (X.not rfl) ?_
  refine L.nil ?_
  -- cond
  refine J.iteT rfl ?_
  refine J.seq ?_
  refine J.region ?_
  refine L.va rfl (X.assign (by conv => lhs; whnf)) ?_
  refine L.va rfl (X.assign (by conv => lhs; whnf)) ?_
  refine L.nil ?_
  -- ret
  refine J.ret ?_
  refine thn_ret <| ?_
  refine fin2 ?_
  exact ⟨rfl, he1.trans he2⟩
theorem put_yes {w : World} {N : Nat} (ht : Tab w) (m : M) (A : Option Addr) (c : Nat) (hr : Reads w N 2 A m.r.length (m.r.flatMap rV)) (hN : N ≤ w.heap.size) (hi : In m) (h : may m) :
    Calls Tryd.prog 17 #[val m A c] w fun e w' => ∃ A' c', e = .returned (.tuple #[.slice A' 1024 c', .int .i64 0]) ∧ w'.ownsRow w.heap.size 5 1 (.slice A' 1024 c') 1024 (nums .u8 (sc smZ m)) ∧ Ext w w' := by
  have hbl := body_le h hi
  have hbb := body_bytes h hi
  have hm := h
  have hin := hi
  obtain ⟨v0, v1, e0, e1, b0, b1⟩ := hi
  obtain ⟨h1, h2, h3, h5, h6, h7⟩ := hm
  have k := fun w => may_ (w := w) (N := N) m A c
  rw [decide_eq_true h] at k
  refine enter Tryd.func17 rfl (by kernel_rfl) ?_
  refine J.seq ?_
  refine J.region ?_
  -- box
  refine L.boxA (l := [_, _, _, _, _]) rfl rfl ?_
  intro g1 w1 hb1 hs1 hk1 he1
  have hr1 := hr.low (Below.mono he1 hN) (Nat.le_refl _)
  refine L.va rfl (X.assign (by conv => lhs; whnf)) ?_
  refine L.va rfl (X.assign (by conv => lhs; whnf)) ?_
  refine L.nil ?_
  refine J.seq ?_
  refine J.seq ?_
  refine J.region ?_
  refine L.va rfl ((by first | exact X.loadAgg rfl (range_l hk1) Tryd.underlying30 rfl (by kernel_rfl) | exact X.loadAgg rfl (range_blk hk1) Tryd.underlying30 rfl (by kernel_rfl))) ?_
  -- callfn bushel/manifest.may
  refine L.call rfl en_30 rfl (k w1 hr1 (by omega) v0 (by omega)) ?_
  rintro e w2 ⟨rfl, he2⟩
  refine ⟨_, rfl, ?_⟩
  have hk2 := hk1.ext he2
  have hr2 := hr1.low (Below.mono he2 (by omega)) (Nat.le_refl _)
  have ho : Ext w w2 := he1.trans he2
  have z2 := he2.le
  refine L.va rfl (X.not rfl) ?_
  refine L.nil ?_
  -- cond
  refine J.iteF rfl ?_
  refine J.skip ?_
  refine J.seq ?_
  refine J.region ?_
  -- callfn bushel/buf.NewOut
  refine L.call rfl en_35 rfl (OutB.new w2) ?_
  rintro e w3 ⟨b, rfl, hO, hbb0, he3⟩
  refine ⟨_, rfl, ?_⟩
  have hk3 := hk2.ext he3
  have z3 := he3.le
  obtain ⟨cb1, cb2⟩ := cul b0 b1
  obtain ⟨cs1, cs2⟩ := cul (x := m.s) (by omega) (by omega)
  obtain ⟨cl1, cl2⟩ := cul (x := (m.r.length : Int)) (by omega) (by omega)
  refine L.va rfl (X.assign (by conv => lhs; whnf)) ?_
  refine L.nil ?_
  refine J.seq ?_
  refine J.region ?_
  refine L.va rfl (X.move (by conv => lhs; whnf)) ?_
  refine L.va rfl (X.fieldAddr rfl Tryd.underlying30 rfl sz_22 (by decide)) ?_
  refine L.va rfl (X.load rfl sc_22 (by first | exact Ld.blk hk3 rfl)) ?_
  -- callfn (*bushel/buf.Out).U
  refine L.call rfl en_36 rfl (hO.U m.b b0 b1 (by omega)) ?_
  rintro e w4 ⟨rfl, ⟨A4, c4, hO⟩, hc4⟩
  refine ⟨_, rfl, ?_⟩
  have hk4 := hc4.blk hk3 (fun hh => by omega)
  refine L.nil ?_
  refine J.seq ?_
  refine J.region ?_
  refine L.va rfl (X.move (by conv => lhs; whnf)) ?_
  refine L.va rfl (X.fieldAddr rfl Tryd.underlying30 rfl sz_3 (by decide)) ?_
  refine L.va rfl (X.load rfl sc_3 (by first | exact Ld.blk hk4 rfl)) ?_
  refine L.va rfl ((by first | exact X.convU rfl is_3 Tryd.underlying22 (by omega) | exact X.convw rfl is_3 Tryd.underlying22)) ?_
  -- callfn (*bushel/buf.Out).U
  refine L.call rfl en_36 rfl (hO.U m.s (by omega) (by omega) (by omega)) ?_
  rintro e w5 ⟨rfl, ⟨A5, c5, hO⟩, hc5⟩
  refine ⟨_, rfl, ?_⟩
  have hk5 := hc5.blk hk4 (fun hh => by omega)
  refine L.nil ?_
  refine J.seq ?_
  refine J.region ?_
  refine L.va rfl (X.move (by conv => lhs; whnf)) ?_
  refine L.va rfl (X.fieldAddr rfl Tryd.underlying30 rfl sz_28 (by decide)) ?_
  refine L.va rfl (X.load rfl sc_28 (by first | exact Ld.blk hk5 rfl)) ?_
  refine L.va rfl (X.len rfl Tryd.underlying28) ?_
  refine L.va rfl ((by first | exact X.convU rfl is_3 Tryd.underlying22 (by omega) | exact X.convw rfl is_3 Tryd.underlying22)) ?_
  -- callfn (*bushel/buf.Out).U
  refine L.call rfl en_36 rfl (hO.U (m.r.length : Int) (by omega) (by omega) (by omega)) ?_
  rintro e w6 ⟨rfl, ⟨A6, c6, hO⟩, hc6⟩
  refine ⟨_, rfl, ?_⟩
  have hk6 := hc6.blk hk5 (fun hh => by omega)
  have hc36 := (hc4.trans hc5 (fun _ _ => id)).trans hc6 (fun _ _ => id)
  have be36 : Below w2.heap.size w3 w6 := hc36.below (by omega) (fun g hg => hg.1)
  have be26 : Ext w2 w6 := he3.low be36 (Nat.le_refl _)
  have z6 := be26.le
  have hr6 := hr2.low (Below.mono be26 (by omega)) (Nat.le_refl _)
  obtain ⟨pre, hpre⟩ : ∃ p, p = cu m.b ++ cu m.s ++ cu (m.r.length : Int) := ⟨_, rfl⟩
  have hpl : pre.length ≤ 27 := by rw [hpre]; simp only [List.length_append]; omega
  refine L.nil ?_
  refine J.seq ?_
  refine J.seq ?_
  refine J.region ?_
  refine L.va rfl (X.fieldAddr rfl Tryd.underlying30 rfl sz_28 (by decide)) ?_
  refine L.va rfl (X.load rfl sc_28 (by first | exact Ld.blk hk6 rfl)) ?_
  refine L.va rfl (X.len rfl Tryd.underlying28) ?_
  refine L.va rfl (X.move (by conv => lhs; whnf)) ?_
  refine L.nil ?_
  refine J.block ?_
  -- loop
  refine J.loop (X := Nat) [6, 29, 30, 31, 32, 33, 34, 35, 36, 37, 38, 39, 40, 41, 42, 43] (fun i => [(29, .int .i64 (i : Int))]) (fun i w' => i ≤ m.r.length ∧ (∃ A n c, OutB w2.heap.size (fun _ => False) w' b A n c (pre ++ rb (m.r.take i))) ∧ Below w2.heap.size w6 w') (fun i => m.r.length - i) (0) (At1 (by first | rfl | exact at_int rfl (by omega) | exact at_slice rfl (by omega) | exact at_int rfl (by simp))) ?_ ?_
  · exact ⟨Nat.zero_le _, ⟨_, _, _, by simpa [rb, hpre] using hO⟩, Below.refl _ _⟩
  · rintro i g w7 ⟨hi, ⟨A7, n7, c7, hO7⟩, hc7⟩
    have hn7 := hO7.hl
    rw [List.length_append] at hn7
    have hrt := rb_take_le h i
    have be27 : Ext w2 w7 := be26.low hc7 (Nat.le_refl _)
    have z7 := be27.le
    have hk7 := hk6.below hc7 (by omega)
    have hr7 := hr2.low (Below.mono be27 (by omega)) (Nat.le_refl _)
    refine J.seq ?_
    refine J.region ?_
    refine L.va rfl (X.lss rfl rfl) ?_
    refine L.nil ?_
    refine J.seq ?_
    -- cond
    refine J.dec rfl (fun hlt => ?_) (fun hlt => ?_)
    · have hil : i < m.r.length := by omega
      have hA := hr7.some_ (by omega)
      obtain ⟨x, hx⟩ : ∃ x, m.r[i]? = some x := ⟨_, List.getElem?_eq_getElem hil⟩
      obtain ⟨x1, x2, x3, x4, _⟩ := h7 x (List.mem_of_getElem? hx)
      obtain ⟨d1, d2⟩ := cul (x := x.1) x1 (by omega)
      obtain ⟨d3, d4⟩ := cul (x := x.2) x3 (by omega)
      -- t32
      refine J.skip ?_
      refine J.seq ?_
      refine J.block ?_
      refine J.seq ?_
      refine J.region ?_
      refine L.va rfl ((by first | exact X.indexAddrn rfl rfl Tryd.underlying28 sz_59 (by first | exact Option.some_ne_none _ | exact hA) (by omega) | exact X.indexAddr rfl rfl Tryd.underlying28 sz_59 (by first | exact Option.some_ne_none _ | exact hA) (by omega))) ?_
      refine L.va rfl (X.loadRow (cs := rV x) rfl hr7 (fun r u hu => flat_row rV_len hx r u hu) (Nat.zero_lt_succ _) Tryd.underlying59 rfl (by kernel_rfl)) ?_
      -- alloc
      refine L.alloc rfl zr_59 ?_
      intro b8 w8 hb8 hs8 hk8 he8
      -- store
      refine L.storeAgg (vs := [_, _]) rfl rfl rfl rfl sz_59 (hk8) rfl ?_
      intro w9 hk9 hg9 hs9
      have he9 : Ext w7 w9 := he8.grw hg9 (by intro g hg; injection hg with hg; omega)
      have hk9 : Blk w9 b8 59 #[.int .i64 x.1, .int .i64 x.2] := hk9
      have hO9 := hO7.more (Y := fun g => g = b8) (fun g hg => .inr ⟨by omega, by have := hk9.lt; omega⟩) he9
      refine L.nil ?_
      refine J.seq ?_
      refine J.region ?_
      refine L.va rfl (X.move (by conv => lhs; whnf)) ?_
      refine L.va rfl (X.fieldAddr rfl Tryd.underlying59 rfl sz_3 (by decide)) ?_
      refine L.va rfl (X.load rfl sc_3 (by first | exact Ld.blk hk7 rfl | exact Ld.blk hk9 rfl | exact hA)) ?_
      refine L.va rfl ((by first | exact X.convU rfl is_3 Tryd.underlying22 (by omega) | exact X.convw rfl is_3 Tryd.underlying22)) ?_
      -- callfn (*bushel/buf.Out).U
      refine L.call rfl en_36 rfl (hO9.U x.1 x1 (by omega) (by omega)) ?_
      rintro e w10 ⟨rfl, ⟨A10, c10, hO10⟩, hc10⟩
      refine ⟨_, rfl, ?_⟩
      have hk10 := hc10.blk hk9 (fun hh => hh.2 rfl)
      refine L.nil ?_
      refine J.region ?_
      refine L.va rfl (X.move (by conv => lhs; whnf)) ?_
      refine L.va rfl (X.fieldAddr rfl Tryd.underlying59 rfl sz_3 (by decide)) ?_
      refine L.va rfl (X.load rfl sc_3 (by first | exact Ld.blk hk7 rfl | exact Ld.blk hk10 rfl | exact hA)) ?_
      refine L.va rfl ((by first | exact X.convU rfl is_3 Tryd.underlying22 (by omega) | exact X.convw rfl is_3 Tryd.underlying22)) ?_
      -- callfn (*bushel/buf.Out).U
      refine L.call rfl en_36 rfl (hO10.U x.2 x3 (by omega) (by omega)) ?_
      rintro e w11 ⟨rfl, ⟨A11, c11, hO11⟩, hc11⟩
      refine ⟨_, rfl, ?_⟩
      refine L.nil ?_
      refine J.region ?_
      refine L.va rfl (X.add rfl rfl (by omega)) ?_
      refine L.va rfl (X.move (by conv => lhs; whnf)) ?_
      refine L.nil ?_
      -- loopend
      refine ⟨i + 1, At1 (by first | rfl | exact at_int rfl (by omega) | exact at_slice rfl (by omega) | exact at_int rfl (by simp)), (by (iterate 16 refine Agr.lk rfl ?_); exact Agr.lk rfl (Agr.hav rfl Agr.rfl')), ?_⟩
      have hc911 := hc10.trans hc11 (fun _ _ => id)
      have z9 := he9.le
      refine ⟨⟨by omega, ⟨A11, n7 + (wd x.1 + 1) + (wd x.2 + 1), c11, ?_⟩, ?_⟩, by omega⟩
      · have h11 := hO11.more (Y := fun _ => False) (fun g hg => hg.elim) (Ext.refl w11)
        rw [rb_take_succ m.r hx]
        simpa only [List.append_assoc] using h11
      · exact (hc7.trans (Below.mono he9 (by omega))).trans (hc911.below (by omega) (fun g hg => hg.1))
    · obtain rfl : i = m.r.length := by omega
      rw [List.take_of_length_le (Nat.le_refl _)] at hO7
      have eb : pre ++ rb m.r = body m := by rw [hpre]; unfold body; simp only [List.append_assoc]
      rw [eb] at hO7
      have hn8 := hO7.hl
      have ht7 : Tab w7 := tab_ext (tab_ext ht ho) be27
      refine J.exit ?_
      refine J.seq ?_
      -- draw
      refine J.draw (ℓ := 1000000) (S := Ext w7) mixed (fun w8 hS hS_h => ?_)
      refine D.va 0 rfl (by kernel_rfl) (fun _ _ _ h => h) rfl (fun w' hw => X.fieldAddr rfl Tryd.underlying30 rfl sz_22 (by decide)) hS ?_
      refine D.va 1 rfl (by kernel_rfl) (fun _ _ _ h => h) rfl (fun w' hw => X.load rfl sc_22 (by first | exact Ld.blk (hk7.ext hw) rfl)) hS ?_
      refine D.va 2 rfl (by kernel_rfl) (fun _ _ _ h => h) rfl (fun w' hw => X.fieldAddr rfl Tryd.underlying30 rfl sz_22 (by decide)) hS ?_
      refine D.va 3 rfl (by kernel_rfl) (fun _ _ _ h => h) rfl (fun w' hw => X.load rfl sc_22 (by first | exact Ld.blk (hk7.ext hw) rfl)) hS ?_
      refine D.va 4 rfl (by kernel_rfl) (fun _ _ _ h => h) rfl (fun w' hw => X.move (by conv => lhs; whnf)) hS ?_
      -- callfn (*bushel/buf.Out).Bytes
      refine D.one 5 (by kernel_rfl) rfl ?_
      refine L.call rfl en_38 rfl ((hO7.ext hS).Bytes (by omega)) ?_
      rintro e w9 ⟨A9, c9, rfl, ho9, he9⟩
      refine ⟨_, rfl, ?_⟩
      have hS1 := hS.trans he9
      refine L.nil ?_
      refine ⟨fun _ => hS1, ?_⟩
      refine D.va 6 rfl (by kernel_rfl) (fun _ _ _ h => h) rfl (fun w' hw => X.build (l := [_, _, _, _]) (Evs.cons (by conv => lhs; whnf) (Evs.cons (by conv => lhs; whnf) (Evs.cons (by conv => lhs; whnf) (Evs.cons (by conv => lhs; whnf) Evs.nil)))) (bld_run Tryd.underlying25 (bp_25 Tryd.underlying25) zr_25 rfl)) hS1 ?_
      -- callfn bushel/seal.Put
      refine D.one 7 (by kernel_rfl) rfl ?_
      refine L.call rfl en_37 rfl (put_ok 2 m.v m.e A9 n7 c9 (body m) w9 (tab_ext (tab_ext ht7 hS) he9) (by decide) (by decide) v0 v1 e0 e1 (by omega) (Reads.of_own ho9) hbb) ?_
      rintro e w10 ⟨rfl, hk10, he10⟩
      refine ⟨_, rfl, ?_⟩
      have hS2 := hS1.low he10 (hS.trans he9).le
      refine L.nil ?_
      refine ⟨fun _ => hS2, ?_⟩
      refine D.va 8 rfl (by kernel_rfl) (fun _ _ _ h => h) rfl (fun w' hw => X.extract rfl rfl) hS2 ?_
      refine D.va 9 rfl (by kernel_rfl) (fun _ _ _ h => h) rfl (fun w' hw => X.extract rfl rfl) hS2 ?_
      refine D.va 10 rfl (by kernel_rfl) (fun _ _ _ h => h) rfl (fun w' hw => X.assign (by conv => lhs; whnf)) hS2 ?_
      refine D.va 11 rfl (by kernel_rfl) (fun _ _ _ h => h) rfl (fun w' hw => X.assign (by conv => lhs; whnf)) hS2 ?_
      refine D.done (by kernel_rfl) ?_
      replace hk7 := hk7.ext hS2
      -- ret
      refine J.ret ?_
      refine fin2 ?_
      have he710 : Ext w7 w10 := hS2
      have hw10 : Ext w w10 := (ho.trans be27).trans he710
      refine ⟨_, _, rfl, ?_, hw10⟩
      have h9 := (hS.trans he9).le
      exact blk_own1 hk10 (by have := ho.le; omega) (by unfold maxLen; omega) (by simpa [nums] using sc_length h hin)
end Man
end Go.Proofs.YtlohbkcedpkjaaaDoor
