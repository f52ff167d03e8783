/-
  The law KeyOrders, walked: every schema and set, two lists of codes.
-/
import Derived.Test.YtmiieppcoknmfaaWKeyD
namespace Go.Proofs.Ytmiieppcoknmfaa
set_option maxRecDepth 100000
open Go.RowKit H
set_option linter.unusedVariables false
theorem vec2s {w : World} {B : Nat} {vs : List Value} {a : Vec 2 (List (Nm .i64))} (h : Lay.lies w B vs a) : ∃ A1 n1 c1 A2 n2 c2, ∃ z1 z2 : List Int, vs = [.slice A1 n1 c1, .slice A2 n2 c2] ∧ n1 ≤ maxLen ∧ n2 ≤ maxLen ∧ Reads w B 1 A1 n1 (nums .i64 z1) ∧ Reads w B 1 A2 n2 (nums .i64 z2) := by
  obtain ⟨l, hl⟩ := a
  obtain ⟨h1, h2⟩ := h
  match l, hl with
  | [y0, y1], _ =>
    have hs : vs.length = 2 := h1
    match vs, hs with
    | [v0, v1], _ =>
      obtain ⟨A1, n1, c1, g0, p1, p2, _, p3⟩ := h2 0 y0 rfl
      obtain ⟨A2, n2, c2, g1, q1, q2, _, q3⟩ := h2 1 y1 rfl
      have k0 : [v0] = [.slice A1 n1 c1] := g0
      have k1 : [v1] = [.slice A2 n2 c2] := g1
      injection k0 with e0
      injection k1 with e1
      subst e0 e1
      exact ⟨A1, n1, c1, A2, n2, c2, _, _, rfl, Nat.le_trans p1 p2, Nat.le_trans q1 q2, p3.reads, q3.reads⟩
theorem law_KeyOrders (w : World) (vs0 : List Value) (a0 : (List ((Str) × (Nm .i64))) × (List (Str)) × (List (Str)) × (List (Nm .u32))) (hl0 : Lay.lies w w.heap.size vs0 a0) (x1 : Nm .u32) (vs2 : List Value) (a2 : Vec 2 (List (Nm .i64))) (hl2 : Lay.lies w w.heap.size vs2 a2) :
    Calls Try.prog 4 #[.agg vs0.toArray, .int .u32 x1.z, .agg vs2.toArray] w fun e w' => e = .returned (.bool true) ∧ Below w.heap.size w w' := by
  obtain ⟨s, rfl, hH⟩ := sch_of hl0
  obtain ⟨m, hm⟩ := Int.eq_ofNat_of_zero_le x1.u32.1
  have hm32 : m < 4294967296 := by have := x1.u32.2; omega
  rw [hm]
  obtain ⟨A1, n1, c1, A2, n2, c2, z1, z2, rfl, l1, l2, r1, r2⟩ := vec2s hl2
  unfold maxLen at l1 l2
  refine enter Try.func4 rfl (by kernel_rfl) ?_
  refine J.seq ?_
  refine J.region ?_
  -- box
  refine L.boxA (l := [_, _, _, _]) rfl rfl ?_
  intro b1 w1 hb1 hs1 hk1 he1
  -- box
  refine L.boxA (l := [_, _]) rfl rfl ?_
  intro b2 w2 hb2 hs2 hk2 he2
  replace hk1 := hk1.ext he2
  have he02 := he1.trans he2
  refine L.va rfl (X.assign (by conv => lhs; whnf)) ?_
  refine L.nil ?_
  refine J.seq ?_
  refine J.seq ?_
  refine J.region ?_
  refine L.va rfl ((by first | exact X.loadAgg rfl (range_l hk1) Try.underlying26 rfl (by kernel_rfl) | exact X.loadAgg rfl (range_blk hk1) Try.underlying26 rfl (by kernel_rfl) | exact X.loadAgg rfl (range_l hk2) Try.underlying26 rfl (by kernel_rfl) | exact X.loadAgg rfl (range_blk hk2) Try.underlying26 rfl (by kernel_rfl))) ?_
  -- callfn bushel/bushelref11.Light
  refine L.call rfl en_14 rfl ((hH.ext he02).light) ?_
  rintro e w3 ⟨l, rfl, hll, he3⟩
  refine ⟨_, rfl, ?_⟩
  have he3 : Ext w2 w3 := he3
  have he03 := he02.trans he3
  replace hk1 := hk1.ext he3
  replace hk2 := hk2.ext he3
  refine L.va rfl (X.not rfl) ?_
  refine L.va rfl (X.move (by conv => lhs; whnf)) ?_
  -- case t15
  cases l
  · -- case t15
    refine L.caseBT (k := 15) rfl (by rfl) ?_
    refine L.no rfl ?_
    refine L.no rfl ?_
    refine L.no rfl ?_
    refine L.no rfl ?_
    refine L.va rfl (X.pickT rfl (by conv => lhs; whnf)) ?_
    refine L.va rfl (X.move (by conv => lhs; whnf)) ?_
    refine L.no rfl ?_
    refine L.no rfl ?_
    refine L.no rfl ?_
    refine L.no rfl ?_
    refine L.va rfl (X.pickT rfl (by conv => lhs; whnf)) ?_
    refine L.nil ?_
    -- cond
    refine J.iteT rfl ?_
    refine J.seq ?_
    refine J.region ?_
    -- callfn bushel/bushellaw13.awake
    refine L.call rfl en_15 rfl (awake13 _) ?_
    rintro e w4 ⟨rfl, he4⟩
    refine ⟨_, rfl, ?_⟩
    refine L.va rfl (X.assign (by conv => lhs; whnf)) ?_
    refine L.nil ?_
    -- ret
    refine J.ret ?_
    refine thn_ret <| ?_
    refine fin1 ?_
    exact ⟨rfl, he03.trans he4⟩
  · have H3 : s.Here w3 := (hH.ext he03).here (hll rfl)
    -- case t15
    refine L.caseBF (k := 15) rfl (by rfl) ?_
    refine L.va rfl (X.indexArr1n (j := 0) rfl rfl Try.underlying46 sz_28 (by omega)) ?_
    refine L.va rfl (X.load rfl sc_28 (by first | exact Ld.blk hk1 rfl | exact Ld.blk hk2 rfl)) ?_
    refine L.va rfl (X.len rfl Try.underlying28) ?_
    refine L.va rfl (X.gtr rfl rfl) ?_
    refine L.va rfl (X.pickF rfl (by conv => lhs; whnf)) ?_
    refine L.va rfl (X.move (by conv => lhs; whnf)) ?_
    -- case t21
    refine L.caseDec (k := 21) rfl (fun g1 => ?_) (fun g1 => ?_)
    · refine L.no rfl ?_
      refine L.no rfl ?_
      refine L.no rfl ?_
      refine L.no rfl ?_
      refine L.va rfl (X.pickT rfl (by conv => lhs; whnf)) ?_
      refine L.nil ?_
      -- cond
      refine J.iteT rfl ?_
      refine J.seq ?_
      refine J.region ?_
      -- callfn bushel/bushellaw13.awake
      refine L.call rfl en_15 rfl (awake13 _) ?_
      rintro e w4 ⟨rfl, he4⟩
      refine ⟨_, rfl, ?_⟩
      refine L.va rfl (X.assign (by conv => lhs; whnf)) ?_
      refine L.nil ?_
      -- ret
      refine J.ret ?_
      refine thn_ret <| ?_
      refine fin1 ?_
      exact ⟨rfl, he03.trans he4⟩
    · refine L.va rfl (X.indexArr1n (j := 1) rfl rfl Try.underlying46 sz_28 (by omega)) ?_
      refine L.va rfl (X.load rfl sc_28 (by first | exact Ld.blk hk1 rfl | exact Ld.blk hk2 rfl)) ?_
      refine L.va rfl (X.len rfl Try.underlying28) ?_
      refine L.va rfl (X.gtr rfl rfl) ?_
      refine L.va rfl (X.pickF rfl (by conv => lhs; whnf)) ?_
      refine L.nil ?_
      -- cond
      refine J.dec rfl (fun g2 => ?_) (fun g2 => ?_)
      · refine J.seq ?_
        refine J.region ?_
        -- callfn bushel/bushellaw13.awake
        refine L.call rfl en_15 rfl (awake13 _) ?_
        rintro e w4 ⟨rfl, he4⟩
        refine ⟨_, rfl, ?_⟩
        refine L.va rfl (X.assign (by conv => lhs; whnf)) ?_
        refine L.nil ?_
        -- ret
        refine J.ret ?_
        refine thn_ret <| ?_
        refine fin1 ?_
        exact ⟨rfl, he03.trans he4⟩
      · refine J.skip ?_
        refine J.seq ?_
        refine J.region ?_
        refine L.va rfl ((by first | exact X.loadAgg rfl (range_l hk1) Try.underlying26 rfl (by kernel_rfl) | exact X.loadAgg rfl (range_blk hk1) Try.underlying26 rfl (by kernel_rfl) | exact X.loadAgg rfl (range_l hk2) Try.underlying26 rfl (by kernel_rfl) | exact X.loadAgg rfl (range_blk hk2) Try.underlying26 rfl (by kernel_rfl))) ?_
        refine L.va rfl (X.move (by conv => lhs; whnf)) ?_
        refine L.va rfl (X.indexArr1n (j := 0) rfl rfl Try.underlying46 sz_28 (by omega)) ?_
        refine L.va rfl (X.load rfl sc_28 (by first | exact Ld.blk hk1 rfl | exact Ld.blk hk2 rfl)) ?_
        -- callfn bushel/key.Of
        refine L.call rfl en_16 rfl (H3.of hm32 A1 n1 c1 z1 ((r1.ext he03).here (by decide)) (by omega)) ?_
        rintro e w4 ⟨rfl, he4⟩
        refine ⟨_, rfl, ?_⟩
        have he4 : Ext w3 w4 := he4
        have he04 := he03.trans he4
        have H4 := H3.ext he4
        replace hk1 := hk1.ext he4
        replace hk2 := hk2.ext he4
        refine L.va rfl (X.move (by conv => lhs; whnf)) ?_
        refine L.va rfl (X.extract rfl rfl) ?_
        refine L.va rfl (X.extract rfl rfl) ?_
        refine L.va rfl (X.assign (by conv => lhs; whnf)) ?_
        refine L.va rfl (X.assign (by conv => lhs; whnf)) ?_
        refine L.nil ?_
        refine J.seq ?_
        refine J.region ?_
        refine L.va rfl ((by first | exact X.loadAgg rfl (range_l hk1) Try.underlying26 rfl (by kernel_rfl) | exact X.loadAgg rfl (range_blk hk1) Try.underlying26 rfl (by kernel_rfl) | exact X.loadAgg rfl (range_l hk2) Try.underlying26 rfl (by kernel_rfl) | exact X.loadAgg rfl (range_blk hk2) Try.underlying26 rfl (by kernel_rfl))) ?_
        refine L.va rfl (X.move (by conv => lhs; whnf)) ?_
        refine L.va rfl (X.indexArr1n (j := 1) rfl rfl Try.underlying46 sz_28 (by omega)) ?_
        refine L.va rfl (X.load rfl sc_28 (by first | exact Ld.blk hk1 rfl | exact Ld.blk hk2 rfl)) ?_
        -- callfn bushel/key.Of
        refine L.call rfl en_16 rfl (H4.of hm32 A2 n2 c2 z2 ((r2.ext he04).here (by decide)) (by omega)) ?_
        rintro e w5 ⟨rfl, he5⟩
        refine ⟨_, rfl, ?_⟩
        have he5 : Ext w4 w5 := he5
        have he05 := he04.trans he5
        have H5 := H4.ext he5
        replace hk1 := hk1.ext he5
        replace hk2 := hk2.ext he5
        refine L.va rfl (X.move (by conv => lhs; whnf)) ?_
        refine L.va rfl (X.extract rfl rfl) ?_
        refine L.va rfl (X.extract rfl rfl) ?_
        refine L.va rfl (X.assign (by conv => lhs; whnf)) ?_
        refine L.va rfl (X.assign (by conv => lhs; whnf)) ?_
        refine L.nil ?_
        refine J.seq ?_
        refine J.seq ?_
        refine J.region ?_
        refine L.va rfl (X.move (by conv => lhs; whnf)) ?_
        refine L.va rfl (X.neq rfl rfl) ?_
        refine L.va rfl (X.move (by conv => lhs; whnf)) ?_
        -- case t46
        refine L.caseNdec (k := 46) rfl (fun e1 => ?_) (fun e1 => ?_)
        · refine L.no rfl ?_
          refine L.no rfl ?_
          refine L.va rfl (X.pickT rfl (by conv => lhs; whnf)) ?_
          refine L.nil ?_
          -- cond
          refine J.iteT rfl ?_
          refine J.seq ?_
          refine J.region ?_
          -- callfn bushel/bushellaw13.awake
          refine L.call rfl en_15 rfl (awake13 _) ?_
          rintro e w6 ⟨rfl, he6⟩
          refine ⟨_, rfl, ?_⟩
          refine L.va rfl (X.assign (by conv => lhs; whnf)) ?_
          refine L.nil ?_
          -- ret
          refine J.ret ?_
          refine thn_ret <| ?_
          refine fin1 ?_
          exact ⟨rfl, he05.trans he6⟩
        · refine L.va rfl (X.move (by conv => lhs; whnf)) ?_
          refine L.va rfl (X.neq rfl rfl) ?_
          refine L.va rfl (X.pickF rfl (by conv => lhs; whnf)) ?_
          refine L.nil ?_
          -- cond
          refine J.ndec rfl (fun e2 => ?_) (fun e2 => ?_)
          · refine J.seq ?_
            refine J.region ?_
            -- callfn bushel/bushellaw13.awake
            refine L.call rfl en_15 rfl (awake13 _) ?_
            rintro e w6 ⟨rfl, he6⟩
            refine ⟨_, rfl, ?_⟩
            refine L.va rfl (X.assign (by conv => lhs; whnf)) ?_
            refine L.nil ?_
            -- ret
            refine J.ret ?_
            refine thn_ret <| ?_
            refine fin1 ?_
            exact ⟨rfl, he05.trans he6⟩
          · obtain ⟨k1, rfl, k2⟩ := Sch.ofE_ok (s := s) (m := m) (nc := n1) (cs := z1) (by omega)
            obtain ⟨_, rfl, k3⟩ := Sch.ofE_ok (s := s) (m := m) (nc := n2) (cs := z2) (by omega)
            have v1 := (Sch.ofE_0 k1 rfl k2).2
            have v2 := (Sch.ofE_0 k1 rfl k3).2
            obtain ⟨hc, hF⟩ := Sch.askE_0 k1
            obtain ⟨g0, g1⟩ := Sch.good hc
            rw [v1, v2]
            have hl1 := fun i => @kyO_lt s.ds m s.nd g1 z1 z2 k2 k3 i
            have hl2 := fun i => @kyO_lt s.ds m s.nd g1 z2 z1 k3 k2 i
            have hcg := @kyO_congr s.ds m z1 z2 s.nd
            refine J.skip ?_
            refine J.seq ?_
            refine J.seq ?_
            refine J.region ?_
            refine L.va rfl (X.indexArr1n (j := 0) rfl rfl Try.underlying46 sz_28 (by omega)) ?_
            refine L.va rfl (X.load rfl sc_28 (by first | exact Ld.blk hk1 rfl | exact Ld.blk hk2 rfl)) ?_
            refine L.va rfl (X.len rfl Try.underlying28) ?_
            refine L.va rfl (X.fieldAddr rfl Try.underlying26 rfl sz_22 (by decide)) ?_
            refine L.va rfl (X.load rfl sc_22 (by first | exact Ld.blk hk1 rfl | exact Ld.blk hk2 rfl)) ?_
            refine L.va rfl (X.len rfl Try.underlying22) ?_
            refine L.va rfl (X.neq rfl rfl) ?_
            refine L.va rfl (X.move (by conv => lhs; whnf)) ?_
            -- case t58
            refine L.caseNdecF (k := 58) rfl (by omega) ?_
            refine L.va rfl (X.indexArr1n (j := 1) rfl rfl Try.underlying46 sz_28 (by omega)) ?_
            refine L.va rfl (X.load rfl sc_28 (by first | exact Ld.blk hk1 rfl | exact Ld.blk hk2 rfl)) ?_
            refine L.va rfl (X.len rfl Try.underlying28) ?_
            refine L.va rfl (X.fieldAddr rfl Try.underlying26 rfl sz_22 (by decide)) ?_
            refine L.va rfl (X.load rfl sc_22 (by first | exact Ld.blk hk1 rfl | exact Ld.blk hk2 rfl)) ?_
            refine L.va rfl (X.len rfl Try.underlying22) ?_
            refine L.va rfl (X.neq rfl rfl) ?_
            refine L.va rfl (X.pickF rfl (by conv => lhs; whnf)) ?_
            refine L.nil ?_
            -- cond
            refine J.ndecF rfl (by omega) ?_
            refine J.skip ?_
            refine J.seq ?_
            refine J.seq ?_
            refine J.region ?_
            refine L.va rfl (X.assign (by conv => lhs; whnf)) ?_
            refine L.nil ?_
            refine J.block ?_
            -- loop
            have r15 := r1.ext he05
            have r25 := r2.ext he05
            refine J.loop (X := Nat) [6, 11, 67, 68, 69, 70, 71, 72, 73, 74, 75, 76, 77, 78, 79, 80, 81, 82, 83, 84, 85, 86, 87, 88, 89, 90, 91, 92, 93, 94, 95, 96, 97, 98, 99, 100, 101, 102, 103, 104, 105, 106, 107, 108, 109, 110, 111, 112] (fun i => [(11, .int .i64 (i : Int))]) (fun i w' => Ext w w' ∧ Ext w5 w' ∧ i ≤ s.nd ∧ ∀ j, j < i → m.testBit j = true → z1.getD j 0 = z2.getD j 0) (fun i => s.nd - i) (0) (At1 (by first | rfl | exact at_int rfl (by omega) | exact at_slice rfl (by omega) | exact at_int rfl (by simp))) ?_ ?_
            · exact ⟨he05, Ext.refl _, by omega, fun j hj => absurd hj (Nat.not_lt_zero _)⟩
            · rintro i g w6 ⟨he06, he56, hi, hP⟩
              have hk6 := hk1.ext he56
              have hk62 := hk2.ext he56
              have r16 := r1.ext he06
              have r26 := r2.ext he06
              refine J.seq ?_
              refine J.seq ?_
              refine J.region ?_
              refine L.va rfl (X.move (by conv => lhs; whnf)) ?_
              refine L.va rfl (X.fieldAddr rfl Try.underlying26 rfl sz_22 (by decide)) ?_
              refine L.va rfl (X.load rfl sc_22 (by first | exact Ld.blk hk6 rfl | exact Ld.blk hk62 rfl | exact Ld.num r16 (by omega) | exact Ld.num r26 (by omega))) ?_
              refine L.va rfl (X.len rfl Try.underlying22) ?_
              refine L.va rfl (X.lss rfl rfl) ?_
              refine L.nil ?_
              -- cond
              refine J.dec rfl (fun hlt => ?_) (fun hlt => ?_)
              · refine J.skip ?_
                refine J.seq ?_
                refine J.block ?_
                refine J.seq ?_
                -- draw
                refine J.quiet mixed (by kernel_rfl) ?_
                refine Qt.va rfl (fun w' hw => X.move (by conv => lhs; whnf)) ?_
                refine Qt.va rfl (fun w' hw => X.move (by conv => lhs; whnf)) ?_
                -- callfn bushel/bushelref11.In
                refine Qt.call rfl en_20 rfl (fun w' hw => calls_same hw (rin_any m i _ hm32 (by omega))) ?_
                refine Qt.va rfl (fun w' hw => X.move (by conv => lhs; whnf)) ?_
                -- case t77
                refine Qt.caseB (k := 77) rfl (fun ht => ?_) (fun ht => ?_)
                · refine Qt.va rfl (fun w' hw => X.indexArr1n (j := 0) rfl rfl Try.underlying46 sz_28 (by omega)) ?_
                  refine Qt.va rfl (fun w' hw => X.load rfl sc_28 (by first | exact Ld.blk (hk6.ext hw) rfl | exact Ld.blk (hk62.ext hw) rfl | exact Ld.num (r16.ext hw) (by omega) | exact Ld.num (r26.ext hw) (by omega))) ?_
                  refine Qt.va rfl (fun w' hw => X.move (by conv => lhs; whnf)) ?_
                  refine Qt.va rfl (fun w' hw => (by first | exact X.index1n rfl rfl Try.underlying28 sz_3 (by first | exact Option.some_ne_none _ | exact r16.some_ (by omega) | exact r26.some_ (by omega)) (by omega) | exact X.index1 rfl rfl Try.underlying28 sz_3 (by first | exact Option.some_ne_none _ | exact r16.some_ (by omega) | exact r26.some_ (by omega)) (by omega))) ?_
                  refine Qt.va rfl (fun w' hw => X.load rfl sc_3 (by first | exact Ld.blk (hk6.ext hw) rfl | exact Ld.blk (hk62.ext hw) rfl | exact Ld.num (r16.ext hw) (by omega) | exact Ld.num (r26.ext hw) (by omega))) ?_
                  refine Qt.va rfl (fun w' hw => X.indexArr1n (j := 1) rfl rfl Try.underlying46 sz_28 (by omega)) ?_
                  refine Qt.va rfl (fun w' hw => X.load rfl sc_28 (by first | exact Ld.blk (hk6.ext hw) rfl | exact Ld.blk (hk62.ext hw) rfl | exact Ld.num (r16.ext hw) (by omega) | exact Ld.num (r26.ext hw) (by omega))) ?_
                  refine Qt.va rfl (fun w' hw => X.move (by conv => lhs; whnf)) ?_
                  refine Qt.va rfl (fun w' hw => (by first | exact X.index1n rfl rfl Try.underlying28 sz_3 (by first | exact Option.some_ne_none _ | exact r16.some_ (by omega) | exact r26.some_ (by omega)) (by omega) | exact X.index1 rfl rfl Try.underlying28 sz_3 (by first | exact Option.some_ne_none _ | exact r16.some_ (by omega) | exact r26.some_ (by omega)) (by omega))) ?_
                  refine Qt.va rfl (fun w' hw => X.load rfl sc_3 (by first | exact Ld.blk (hk6.ext hw) rfl | exact Ld.blk (hk62.ext hw) rfl | exact Ld.num (r16.ext hw) (by omega) | exact Ld.num (r26.ext hw) (by omega))) ?_
                  refine Qt.va rfl (fun w' hw => X.neq rfl rfl) ?_
                  refine Qt.va rfl (fun w' hw => X.pickT rfl (by conv => lhs; whnf)) ?_
                  refine Qt.nil (fun w7 hq => ?_)
                  replace hk6 := hk6.ext hq
                  replace hk62 := hk62.ext hq
                  replace r16 := r16.ext hq
                  replace r26 := r26.ext hq
                  -- cond
                  refine J.ndec rfl (fun hne => ?_) (fun hne => ?_)
                  · have hne' : z1.getD i 0 ≠ z2.getD i 0 := hne
                    have hil : i < s.nd := by omega
                    replace hl1 := hl1 i hil ht hP
                    replace hl2 := hl2 i hil ht (fun j hj hb => (hP j hj hb).symm)
                    have hcmp : kyO s.ds m z1 s.nd < kyO s.ds m z2 s.nd ↔ z1.getD i 0 < z2.getD i 0 := by
                      constructor
                      · intro h
                        rcases Int.lt_or_gt_of_ne hne' with h' | h'
                        · exact h'
                        · have := hl2 h'; omega
                      · exact hl1
                    have hnk : kyO s.ds m z1 s.nd ≠ kyO s.ds m z2 s.nd := by
                      rcases Int.lt_or_gt_of_ne hne' with h' | h'
                      · have := hl1 h'; omega
                      · have := hl2 h'; omega
                    refine J.seq ?_
                    -- draw
                    refine J.quiet mixed (by kernel_rfl) ?_
                    refine Qt.va rfl (fun w' hw => X.move (by conv => lhs; whnf)) ?_
                    refine Qt.va rfl (fun w' hw => X.move (by conv => lhs; whnf)) ?_
                    refine Qt.va rfl (fun w' hw => X.lss rfl rfl) ?_
                    refine Qt.va rfl (fun w' hw => X.indexArr1n (j := 0) rfl rfl Try.underlying46 sz_28 (by omega)) ?_
                    refine Qt.va rfl (fun w' hw => X.load rfl sc_28 (by first | exact Ld.blk (hk6.ext hw) rfl | exact Ld.blk (hk62.ext hw) rfl | exact Ld.num (r16.ext hw) (by omega) | exact Ld.num (r26.ext hw) (by omega))) ?_
                    refine Qt.va rfl (fun w' hw => X.move (by conv => lhs; whnf)) ?_
                    refine Qt.va rfl (fun w' hw => (by first | exact X.index1n rfl rfl Try.underlying28 sz_3 (by first | exact Option.some_ne_none _ | exact r16.some_ (by omega) | exact r26.some_ (by omega)) (by omega) | exact X.index1 rfl rfl Try.underlying28 sz_3 (by first | exact Option.some_ne_none _ | exact r16.some_ (by omega) | exact r26.some_ (by omega)) (by omega))) ?_
                    refine Qt.va rfl (fun w' hw => X.load rfl sc_3 (by first | exact Ld.blk (hk6.ext hw) rfl | exact Ld.blk (hk62.ext hw) rfl | exact Ld.num (r16.ext hw) (by omega) | exact Ld.num (r26.ext hw) (by omega))) ?_
                    refine Qt.va rfl (fun w' hw => X.indexArr1n (j := 1) rfl rfl Try.underlying46 sz_28 (by omega)) ?_
                    refine Qt.va rfl (fun w' hw => X.load rfl sc_28 (by first | exact Ld.blk (hk6.ext hw) rfl | exact Ld.blk (hk62.ext hw) rfl | exact Ld.num (r16.ext hw) (by omega) | exact Ld.num (r26.ext hw) (by omega))) ?_
                    refine Qt.va rfl (fun w' hw => X.move (by conv => lhs; whnf)) ?_
                    refine Qt.va rfl (fun w' hw => (by first | exact X.index1n rfl rfl Try.underlying28 sz_3 (by first | exact Option.some_ne_none _ | exact r16.some_ (by omega) | exact r26.some_ (by omega)) (by omega) | exact X.index1 rfl rfl Try.underlying28 sz_3 (by first | exact Option.some_ne_none _ | exact r16.some_ (by omega) | exact r26.some_ (by omega)) (by omega))) ?_
                    refine Qt.va rfl (fun w' hw => X.load rfl sc_3 (by first | exact Ld.blk (hk6.ext hw) rfl | exact Ld.blk (hk62.ext hw) rfl | exact Ld.num (r16.ext hw) (by omega) | exact Ld.num (r26.ext hw) (by omega))) ?_
                    refine Qt.va rfl (fun w' hw => X.lss rfl rfl) ?_
                    refine Qt.va rfl (fun w' hw => X.eqlB rfl rfl Try.underlying4) ?_
                    refine Qt.va rfl (fun w' hw => X.move (by conv => lhs; whnf)) ?_
                    -- case t105
                    refine Qt.caseBT (k := 105) rfl (by exact beq_iff_eq.2 (decide_eq_decide.2 hcmp)) ?_
                    refine Qt.va rfl (fun w' hw => X.move (by conv => lhs; whnf)) ?_
                    refine Qt.va rfl (fun w' hw => X.move (by conv => lhs; whnf)) ?_
                    refine Qt.va rfl (fun w' hw => X.neq rfl rfl) ?_
                    refine Qt.va rfl (fun w' hw => X.pickT rfl (by conv => lhs; whnf)) ?_
                    refine Qt.va rfl (fun w' hw => X.move (by conv => lhs; whnf)) ?_
                    -- case t110
                    refine Qt.caseNdecT (k := 110) rfl (by exact hnk) ?_
                    -- callfn bushel/bushellaw13.awake
                    refine Qt.call rfl en_15 rfl (fun w' hw => calls_ext hw (awake13 _)) ?_
                    refine Qt.va rfl (fun w' hw => X.pickT rfl (by conv => lhs; whnf)) ?_
                    refine Qt.va rfl (fun w' hw => X.assign (by conv => lhs; whnf)) ?_
                    refine Qt.nil (fun w8 hq2 => ?_)
                    replace hk6 := hk6.ext hq2
                    replace hk62 := hk62.ext hq2
                    replace r16 := r16.ext hq2
                    replace r26 := r26.ext hq2
                    -- ret
                    refine J.ret ?_
                    refine inB_ret <|  thn_ret <|  thn_ret <|  inB_ret <|  thn_ret <| ?_
                    refine fin1 ?_
                    exact ⟨rfl, (he06.trans hq).trans hq2⟩
                  · have hne' : z1.getD i 0 = z2.getD i 0 := hne
                    refine J.skip ?_
                    refine J.region ?_
                    refine L.va rfl (X.move (by conv => lhs; whnf)) ?_
                    refine L.va rfl (X.add rfl rfl (by omega)) ?_
                    refine L.va rfl (X.assign (by conv => lhs; whnf)) ?_
                    refine L.nil ?_
                    -- loopend
                    refine ⟨i + 1, At1 (by first | rfl | exact at_int rfl (by omega) | exact at_slice rfl (by omega) | exact at_int rfl (by simp)), (by (iterate 25 refine Agr.lk rfl ?_); exact Agr.lk rfl (Agr.hav rfl Agr.rfl')), ?_⟩
                    refine ⟨⟨he06.trans hq, he56.trans hq, by omega, fun j hj hb => ?_⟩, by omega⟩
                    rcases Nat.lt_or_ge j i with h | h
                    · exact hP j h hb
                    · obtain rfl : j = i := by omega
                      exact hne'
                · refine Qt.no rfl ?_
                  refine Qt.no rfl ?_
                  refine Qt.no rfl ?_
                  refine Qt.no rfl ?_
                  refine Qt.no rfl ?_
                  refine Qt.no rfl ?_
                  refine Qt.no rfl ?_
                  refine Qt.no rfl ?_
                  refine Qt.no rfl ?_
                  refine Qt.no rfl ?_
                  refine Qt.no rfl ?_
                  refine Qt.va rfl (fun w' hw => X.pickF rfl (by conv => lhs; whnf)) ?_
                  refine Qt.nil (fun w7 hq => ?_)
                  replace hk6 := hk6.ext hq
                  replace hk62 := hk62.ext hq
                  replace r16 := r16.ext hq
                  replace r26 := r26.ext hq
                  -- cond
                  refine J.iteF rfl ?_
                  refine J.skip ?_
                  refine J.region ?_
                  refine L.va rfl (X.move (by conv => lhs; whnf)) ?_
                  refine L.va rfl (X.add rfl rfl (by omega)) ?_
                  refine L.va rfl (X.assign (by conv => lhs; whnf)) ?_
                  refine L.nil ?_
                  -- loopend
                  refine ⟨i + 1, At1 (by first | rfl | exact at_int rfl (by omega) | exact at_slice rfl (by omega) | exact at_int rfl (by simp)), (by (iterate 25 refine Agr.lk rfl ?_); exact Agr.lk rfl (Agr.hav rfl Agr.rfl')), ?_⟩
                  refine ⟨⟨he06.trans hq, he56.trans hq, by omega, fun j hj hb => ?_⟩, by omega⟩
                  rcases Nat.lt_or_ge j i with h | h
                  · exact hP j h hb
                  · obtain rfl : j = i := by omega
                    rw [ht] at hb; cases hb
              · obtain rfl : i = s.nd := by omega
                rw [hcg (fun j hj => hP j hj)]
                refine J.exit ?_
                refine J.seq ?_
                refine J.region ?_
                refine L.va rfl (X.move (by conv => lhs; whnf)) ?_
                refine L.va rfl (X.move (by conv => lhs; whnf)) ?_
                refine L.va rfl (X.eql rfl rfl) ?_
                refine L.va rfl (X.move (by conv => lhs; whnf)) ?_
                -- case t116
                refine L.caseDecT (k := 116) rfl (by rfl) ?_
                -- callfn bushel/bushellaw13.awake
                refine L.call rfl en_15 rfl (awake13 _) ?_
                rintro e w7 ⟨rfl, he7⟩
                refine ⟨_, rfl, ?_⟩
                refine L.va rfl (X.pickT rfl (by conv => lhs; whnf)) ?_
                refine L.va rfl (X.assign (by conv => lhs; whnf)) ?_
                refine L.nil ?_
                -- ret
                refine J.ret ?_
                refine fin1 ?_
                exact ⟨rfl, he06.trans he7⟩
end Go.Proofs.Ytmiieppcoknmfaa
