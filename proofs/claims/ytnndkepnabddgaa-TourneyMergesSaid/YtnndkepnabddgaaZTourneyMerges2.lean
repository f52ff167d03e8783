import Derived.Lib.Strings
import Derived.Test.YtnndkepnabddgaaZTourneyMerges1
/-
  What the law leans on, part 2: WNumA, WNumB, WNumC, WNumD, WdPlain, WAddA, WAddB, WAddC, WExaB, WExcA, WExcB, WExcC, WAggA, ExaPlainB, FlatSet, TypChg, WNames, SchemaData, WSchA, WSchG, WDiffC, WCelA.
-/
namespace Go.Proofs.Ytnndkepnabddgaa
set_option maxRecDepth 100000
open Go.RowKit H
open Num
set_option linter.unusedVariables false
structure Nu where
  (g : Bool) (A : Option Addr) (n c : Nat) (d : List Int)
namespace Nu
abbrev vs (x : Nu) : List Value := [.bool x.g, .slice x.A x.n x.c]
abbrev val (x : Nu) : Value := .agg x.vs.toArray
structure At (x : Nu) (N : Nat) (w : World) : Prop where
  r : Reads w N 1 x.A x.n (nums .i64 x.d)
  dg : Dig x.d
  cn : Cano x.d
  sg : x.g = true → 0 < x.n
  cp : x.n ≤ x.c
  sm : x.n ≤ 100000
abbrev Own (x : Nu) (N : Nat) (w : World) : Prop := w.ownsRow N 3 1 (.slice x.A x.n x.c) x.n (nums .i64 x.d)
theorem At.len {x : Nu} {N : Nat} {w : World} (h : x.At N w) : x.d.length = x.n := by have := h.r.1; simpa [nums] using this
theorem At.ext {x : Nu} {N : Nat} {w w' : World} (h : x.At N w) (he : Ext w w') : x.At N w' := ⟨h.r.ext he, h.dg, h.cn, h.sg, h.cp, h.sm⟩
theorem At.low {x : Nu} {N B : Nat} {w w' : World} (h : x.At N w) (he : Below B w w') (hB : N ≤ B) : x.At N w' := ⟨h.r.low he hB, h.dg, h.cn, h.sg, h.cp, h.sm⟩
theorem At.more {x : Nu} {N N' : Nat} {w : World} (h : x.At N w) (hN : N ≤ N') : x.At N' w := ⟨h.r.more hN, h.dg, h.cn, h.sg, h.cp, h.sm⟩
end Nu
theorem own_lowN {w : World} {base base' e sz n : Nat} {v : Value} {xs : List Value} (h : w.ownsRow base e sz v n xs) (hb : base' ≤ base) : w.ownsRow base' e sz v n xs := by
  refine ⟨h.1, ?_⟩
  rcases h.2 with h1 | ⟨b, cap, cur, h1, h2, h3⟩
  · exact .inl h1
  · exact .inr ⟨b, cap, cur, h1, Nat.le_trans hb h2, h3⟩
theorem i64take {l : List Int} {k : Nat} : (nums .i64 l).take k = nums .i64 (l.take k) := by unfold nums; rw [List.map_take]
theorem rdigit (A : Option Addr) (n c : Nat) (d : List Int) (i : Nat) (w : World) {N : Nat} (hr : Reads w N 1 A n (nums .i64 d)) (hl : d.length = n) (hn : n ≤ maxLen) : Calls Try.prog 81 #[.slice A n c, .int .i64 (i : Int)] w fun e w' => e = .returned (.int .i64 (d.getD i 0)) ∧ w = w' := by
  unfold maxLen at hn
  refine enter Try.func81 rfl (by kernel_rfl) ?_
  refine J.seq ?_
  refine J.region ?_
  refine L.va rfl (X.assign (by conv => lhs; whnf)) ?_
  refine L.nil ?_
  refine J.seq ?_
  refine J.seq ?_
  refine J.region ?_
  refine L.va rfl (X.move (by conv => lhs; whnf)) ?_
  refine L.va rfl (X.move (by conv => lhs; whnf)) ?_
  refine L.va rfl (X.len rfl Try.underlying35) ?_
  refine L.va rfl (X.lss rfl rfl) ?_
  refine L.nil ?_
  refine J.dec rfl (fun h => ?_) (fun h => ?_)
  · have hA := hr.some_ (by omega)
    refine J.seq ?_
    refine J.region ?_
    refine L.va rfl (X.move (by conv => lhs; whnf)) ?_
    refine L.va rfl (X.move (by conv => lhs; whnf)) ?_
    refine L.va rfl ((by first | exact X.index1n rfl rfl Try.underlying35 sz_3 (by first | exact Option.some_ne_none _ | exact hr.some_ (by omega) | exact hA) (by omega) | exact X.index1 rfl rfl Try.underlying35 sz_3 (by first | exact Option.some_ne_none _ | exact hr.some_ (by omega) | exact hA) (by omega))) ?_
    refine L.va rfl (X.load rfl sc_3 (by first | exact Ld.num hr (by omega) | exact hA)) ?_
    refine L.va rfl (X.assign (by conv => lhs; whnf)) ?_
    refine L.nil ?_
    refine J.ret ?_
    refine thn_ret <| ?_
    refine fin1 ?_
    exact ⟨rfl, rfl⟩
  · refine J.skip ?_
    refine J.seq ?_
    refine J.region ?_
    refine L.va rfl (X.assign (by conv => lhs; whnf)) ?_
    refine L.nil ?_
    refine J.ret ?_
    refine fin1 ?_
    refine ⟨?_, rfl⟩
    rw [List.getD, List.getElem?_eq_none (by omega)]
    rfl
theorem rmade (g : Bool) (A : Option Addr) (n c : Nat) (d : List Int) (w : World) {N : Nat} (hr : Reads w N 1 A n (nums .i64 d)) (hl : d.length = n) (hc : n ≤ c) (hn : n ≤ 1000000) : Calls Try.prog 61 #[.bool g, .slice A n c] w fun e w' => Ext w w' ∧ ∃ k : Nat, e = .returned (.agg #[.bool (g && decide (0 < k)), .slice A k c]) ∧ SizN d k := by
  refine enter Try.func61 rfl (by kernel_rfl) ?_
  refine J.seq ?_
  refine J.region ?_
  refine L.alloc rfl zr_80 ?_
  intro b1 w1 hb1 hs1 hk1 he1
  have hr1 := hr.ext he1
  refine L.nil ?_
  refine J.seq ?_
  refine J.region ?_
  refine L.va rfl (X.move (by conv => lhs; whnf)) ?_
  refine L.va rfl (X.len rfl Try.underlying35) ?_
  refine L.va rfl (X.assign (by conv => lhs; whnf)) ?_
  refine L.nil ?_
  refine J.cut (X := Nat) [5, 8, 9, 10, 11, 12, 13, 14, 15, 16, 17, 18, 19] (fun k => [(5, .int .i64 (k : Int))]) (fun k w' => SizN d k ∧ w1 = w') ?_ ?_
  · refine J.block ?_
    refine J.loop (X := Nat) [5, 8, 9, 10, 11, 12, 13, 14, 15, 16, 17, 18, 19] (fun k => [(5, .int .i64 (k : Int))]) (fun k w' => k ≤ n ∧ (∀ j, k ≤ j → j < d.length → d.getD j 0 = 0) ∧ w1 = w') (fun k => k) (n) (At1 (by first | rfl | exact at_int rfl (by omega) | exact at_slice rfl (by omega) | exact at_int rfl (by simp))) ?_ ?_
    · exact ⟨Nat.le_refl _, fun j h1 h2 => by omega, rfl⟩
    · rintro k g' w2 ⟨hk, hz, rfl⟩
      refine J.seq ?_
      refine J.seq ?_
      refine J.region ?_
      refine L.va rfl (X.move (by conv => lhs; whnf)) ?_
      refine L.va rfl (X.gtr rfl rfl) ?_
      refine L.va rfl (X.move (by conv => lhs; whnf)) ?_
      refine L.caseDec (k := 10) rfl (fun h1 => ?_) (fun h1 => ?_)
      · obtain ⟨m, rfl⟩ : ∃ m, k = m + 1 := ⟨k - 1, by omega⟩
        have hA := hr1.some_ (by omega)
        refine L.va rfl (X.move (by conv => lhs; whnf)) ?_
        refine L.va rfl (X.move (by conv => lhs; whnf)) ?_
        refine L.va rfl (X.sub rfl rfl (by omega)) ?_
        refine L.va rfl (X.index1e (j := m) rfl rfl (by omega) Try.underlying35 sz_3 hA (by omega)) ?_
        refine L.va rfl (X.load rfl sc_3 (by first | exact Ld.num hr1 (by omega))) ?_
        refine L.va rfl (X.eql rfl rfl) ?_
        refine L.va rfl (X.pickT rfl (by conv => lhs; whnf)) ?_
        refine L.nil ?_
        refine J.dec rfl (fun h2 => ?_) (fun h2 => ?_)
        · refine J.skip ?_
          refine J.block ?_
          refine J.region ?_
          refine L.va rfl (X.move (by conv => lhs; whnf)) ?_
          refine L.va rfl (X.sub rfl rfl (by omega)) ?_
          refine L.va rfl (X.assign (by conv => lhs; whnf)) ?_
          refine L.nil ?_
          refine ⟨m, At1 (at_int rfl (by omega)), (by (iterate 14 refine Agr.lk rfl ?_); exact Agr.lk rfl (Agr.hav rfl Agr.rfl')), ?_⟩
          refine ⟨⟨by omega, fun j hj hjl => ?_, rfl⟩, by omega⟩
          rcases Nat.lt_or_ge m j with h | h
          · exact hz j h hjl
          · obtain rfl : j = m := by omega
            exact h2
        · refine J.exit ?_
          refine ⟨m + 1, At1 (by first | rfl | exact at_int rfl (by omega) | exact at_slice rfl (by omega) | exact at_int rfl (by simp)), (by (iterate 11 refine Agr.lk rfl ?_); refine Agr.lk rfl ?_; refine Agr.hav rfl ?_; exact Agr.rfl'), ?_⟩
          exact ⟨⟨by omega, hz, fun _ => h2⟩, rfl⟩
      · refine L.no rfl ?_
        refine L.no rfl ?_
        refine L.no rfl ?_
        refine L.no rfl ?_
        refine L.no rfl ?_
        refine L.no rfl ?_
        refine L.va rfl (X.pickF rfl (by conv => lhs; whnf)) ?_
        refine L.nil ?_
        refine J.iteF rfl ?_
        refine J.exit ?_
        refine ⟨k, At1 (by first | rfl | exact at_int rfl (by omega) | exact at_slice rfl (by omega) | exact at_int rfl (by simp)), (by (iterate 11 refine Agr.lk rfl ?_); refine Agr.lk rfl ?_; refine Agr.hav rfl ?_; exact Agr.rfl'), ?_⟩
        exact ⟨⟨by omega, hz, fun h => absurd h (by omega)⟩, rfl⟩
  · rintro k g' w2 ⟨hk, rfl⟩
    have hkl := hk.le
    cases g
    · refine J.seq ?_
      refine J.region ?_
      refine L.va rfl (X.move (by conv => lhs; whnf)) ?_
      refine L.va rfl (X.move (by conv => lhs; whnf)) ?_
      refine L.caseBF (k := 21) rfl (by rfl) ?_
      refine L.no rfl ?_
      refine L.no rfl ?_
      refine L.va rfl (X.pickF rfl (by conv => lhs; whnf)) ?_
      refine L.va rfl (X.move (by conv => lhs; whnf)) ?_
      refine L.va rfl (X.move (by conv => lhs; whnf)) ?_
      refine L.va rfl ((by first | exact X.sliceTon rfl rfl Try.underlying35 sz_3 (by omega) | exact X.sliceTo rfl rfl Try.underlying35 sz_3 (by omega))) ?_
      refine L.va rfl (X.build (l := [_, _]) (Evs.cons (by conv => lhs; whnf) (Evs.cons (by conv => lhs; whnf) Evs.nil)) (bld_run Try.underlying80 (bp_80 Try.underlying80) zr_80 rfl)) ?_
      refine L.storeAgg (vs := [_, _]) rfl rfl rfl rfl sz_80 (hk1) rfl ?_
      intro w3 hk3 hg3 hs3
      have he3 : Ext w w3 := he1.grw hg3 (by intro g hg; injection hg with hg; omega)
      refine L.nil ?_
      refine J.ret ?_
      refine finC rfl (run_cell hk3 Try.underlying80 rfl (by kernel_rfl)) ?_
      exact ⟨he3, k, rfl, hk⟩
    · refine J.seq ?_
      refine J.region ?_
      refine L.va rfl (X.move (by conv => lhs; whnf)) ?_
      refine L.va rfl (X.move (by conv => lhs; whnf)) ?_
      refine L.caseBT (k := 21) rfl (by rfl) ?_
      refine L.va rfl (X.move (by conv => lhs; whnf)) ?_
      refine L.va rfl (X.gtr rfl rfl) ?_
      refine L.va rfl (X.pickT rfl (by conv => lhs; whnf)) ?_
      refine L.va rfl (X.move (by conv => lhs; whnf)) ?_
      refine L.va rfl (X.move (by conv => lhs; whnf)) ?_
      refine L.va rfl ((by first | exact X.sliceTon rfl rfl Try.underlying35 sz_3 (by omega) | exact X.sliceTo rfl rfl Try.underlying35 sz_3 (by omega))) ?_
      refine L.va rfl (X.build (l := [_, _]) (Evs.cons (by conv => lhs; whnf) (Evs.cons (by conv => lhs; whnf) Evs.nil)) (bld_run Try.underlying80 (bp_80 Try.underlying80) zr_80 rfl)) ?_
      refine L.storeAgg (vs := [_, _]) rfl rfl rfl rfl sz_80 (hk1) rfl ?_
      intro w3 hk3 hg3 hs3
      have he3 : Ext w w3 := he1.grw hg3 (by intro g hg; injection hg with hg; omega)
      refine L.nil ?_
      refine J.ret ?_
      refine finC rfl (run_cell hk3 Try.underlying80 rfl (by kernel_rfl)) ?_
      refine ⟨he3, k, ?_, hk⟩
      rw [Bool.true_and, show decide (0 < k) = decide (((0 : Nat) : Int) < (k : Int)) by by_cases h : 0 < k <;> simp [h]]
      rfl
theorem nu_made {g : Bool} {A : Option Addr} {n c k : Nat} {d : List Int} {w : World} {N : Nat} (hr : Reads w N 1 A n (nums .i64 d)) (hd : Dig d) (hl : d.length = n) (hc : n ≤ c) (hn : n ≤ 100000) (hk : SizN d k) : (Nu.mk (g && decide (0 < k)) A k c (d.take k)).At N w ∧ dv (d.take k) = dv d := by
  have hkl := hk.le
  refine ⟨⟨?_, dig_take hd k, fun h0 => ?_, fun h => ?_, by show k ≤ c; omega, by show k ≤ 100000; omega⟩, dv_trim hkl hk.z⟩
  · have := hr.first (k := k) (by omega)
    rw [Nat.mul_one, i64take] at this
    exact this
  · rw [List.length_take, Nat.min_eq_left hkl] at h0 ⊢
    have := hk.nz h0
    rw [List.getD, List.getElem?_take, if_pos (by omega)]
    exact this
  · simp at h
    exact h.2
theorem rnat (x : Nat) (w : World) (hx : x < 18446744073709551616) : Calls Try.prog 66 #[.int .u64 (x : Int)] w fun e w' => ∃ t : Nu, e = .returned t.val ∧ t.g = false ∧ t.At w'.heap.size w' ∧ dv t.d = (x : Int) ∧ t.n ≤ 7 ∧ t.Own w.heap.size w' ∧ Ext w w' := by
  refine enter Try.func66 rfl (by kernel_rfl) ?_
  refine J.seq ?_
  refine J.region ?_
  refine L.alloc rfl zr_80 ?_
  intro b1 w1 hb1 hs1 hk1 he1
  have z1 := he1.le
  refine L.nil ?_
  refine J.seq ?_
  refine J.region ?_
  refine L.va rfl (X.assign (by conv => lhs; whnf)) ?_
  refine L.nil ?_
  refine J.cut (X := Option Addr × Nat × List Int) [0, 3, 4, 5, 6, 7, 8, 9, 10, 11, 12, 13] (fun (B, c, d) => [(3, .slice B d.length c)]) (fun (B, c, d) w' => Dig d ∧ Cano d ∧ dv d = (x : Int) ∧ d.length ≤ 7 ∧ w'.ownsRow w1.heap.size 3 1 (.slice B d.length c) d.length (nums .i64 d) ∧ Ext w1 w') ?_ ?_
  · refine J.block ?_
    refine J.loop (X := Nat × Option Addr × Nat × List Int) [0, 3, 4, 5, 6, 7, 8, 9, 10, 11, 12, 13] (fun (y, B, c, d) => [(0, .int .u64 (y : Int)), (3, .slice B d.length c)]) (fun (y, B, c, d) w' => Dig d ∧ (y = 0 → Cano d) ∧ dv d + y * 1000 ^ d.length = (x : Int) ∧ (d.length ≤ 7 ∧ y * 1000 ^ d.length < 18446744073709551616) ∧ w'.ownsRow w1.heap.size 3 1 (.slice B d.length c) d.length (nums .i64 d) ∧ Ext w1 w') (fun (y, _) => y) ((x, none, 0, [])) (At2 (by first | rfl | exact at_int rfl (by omega) | exact at_slice rfl (by omega) | exact at_int rfl (by simp)) (by first | rfl | exact at_int rfl (by omega) | exact at_slice rfl (by omega) | exact at_int rfl (by simp))) ?_ ?_
    · exact ⟨dig_nil, fun _ h => absurd h (by simp), by simp [dv], ⟨by simp, by simpa using hx⟩, own_nil _ _ _ _, Ext.refl _⟩
    · rintro ⟨y, B, c, d⟩ g w2 ⟨hd, hcn, hv, ⟨h7, hb⟩, ho, he⟩
      have z2 := he.le
      have hy : y < 18446744073709551616 := by
        have : 1 ≤ 1000 ^ d.length := Nat.pow_pos (by decide)
        have := Nat.le_mul_of_pos_right y (show 0 < 1000 ^ d.length by omega)
        omega
      have h76 : 0 < y → d.length ≤ 6 := fun h0 => by
        apply Decidable.byContradiction
        intro hn
        have e7 : d.length = 7 := by omega
        rw [e7] at hb
        have : y * 1000 ^ 7 = y * 1000000000000000000000 := by rw [show (1000 : Nat) ^ 7 = 1000000000000000000000 by decide]
        omega
      refine J.seq ?_
      refine J.seq ?_
      refine J.region ?_
      refine L.va rfl (X.move (by conv => lhs; whnf)) ?_
      refine L.va rfl (X.gtr rfl rfl) ?_
      refine L.nil ?_
      refine J.dec rfl (fun h0 => ?_) (fun h0 => ?_)
      · have h0 : 0 < y := by omega
        have h6 := h76 h0
        refine J.skip ?_
        refine J.block ?_
        refine J.seq ?_
        refine J.region ?_
        refine L.va rfl (X.move (by conv => lhs; whnf)) ?_
        refine L.va rfl (X.move (by conv => lhs; whnf)) ?_
        refine L.va rfl (X.rem rfl rfl (by omega)) ?_
        refine L.va rfl ((by first | exact X.convI rfl is_44 Try.underlying3 (by omega) | exact X.convw rfl is_44 Try.underlying3)) ?_
        refine L.bslice (vs := [_]) rfl (Evs.cons (by conv => lhs; whnf) Evs.nil) rfl rfl rfl rfl Try.underlying35 sz_3 zr_3 (by decide) ?_
        intro b3 w3 hb3 hs3 hk3 he3
        have ho3 := ho.ext he3
        have z3 := he3.le
        refine L.appendQ (q := d.length + 1) (ys := d ++ [(y : Int) % 1000]) rfl rfl rfl Try.underlying35 el_3 (ho3) ((blk_reads (q := 1) (l := nums .i64 [(y : Int) % 1000]) hk3 hk3.lt rfl)) (by omega) (by simp) (by unfold maxLen; omega) (by omega) ?_
        intro B4 c4 w4 ho4 hg4 hb4 hor4
        have he4 := (he.trans he3).grw hg4 (fun g hg => (ho3.lt g hg).1)
        have el : (d ++ [(y : Int) % 1000]).length = d.length + 1 := by rw [List.length_append]; rfl
        refine L.va rfl (X.assign (by conv => lhs; whnf)) ?_
        refine L.nil ?_
        refine J.region ?_
        refine L.va rfl (X.move (by conv => lhs; whnf)) ?_
        refine L.va rfl (X.quoU rfl rfl (by omega)) ?_
        refine L.va rfl (X.assign (by conv => lhs; whnf)) ?_
        refine L.nil ?_
        refine ⟨(y / 1000, B4, c4, d ++ [(y : Int) % 1000]), At2 (at_int rfl (by omega)) (at_slice rfl el.symm), (by (iterate 12 refine Agr.lk rfl ?_); exact Agr.lk rfl (Agr.hav rfl Agr.rfl')), ?_⟩
        have e1 : (y : Int) = 1000 * ((y / 1000 : Nat) : Int) + (y : Int) % 1000 := by omega
        have en : y = 1000 * (y / 1000) + y % 1000 := by omega
        refine ⟨⟨dig_snoc hd (by omega), fun hy0 _ => ?_, ?_, ⟨by rw [el]; omega, ?_⟩, by rw [el]; exact ho4, he4⟩, by show y / 1000 < y; omega⟩
        · rw [el, Nat.add_sub_cancel, List.getD, List.getElem?_append_right (Nat.le_refl _), Nat.sub_self]
          show (y : Int) % 1000 ≠ 0
          omega
        · rw [dv_snoc, el, ← hv, Int.pow_succ]
          generalize (1000 : Int) ^ d.length = p
          generalize ((y / 1000 : Nat) : Int) = q at *
          generalize (y : Int) % 1000 = r at *
          rw [e1]
          grind
        · rw [el, Nat.pow_succ]
          have : y / 1000 * (1000 ^ d.length * 1000) ≤ y * 1000 ^ d.length := by
            have h1 : y / 1000 * 1000 ≤ y := by omega
            have := Nat.mul_le_mul_right (1000 ^ d.length) h1
            rw [Nat.mul_comm (1000 ^ d.length) 1000, ← Nat.mul_assoc]
            exact this
          omega
      · obtain rfl : y = 0 := by omega
        refine J.exit ?_
        refine ⟨(B, c, d), At1 (by first | rfl | exact at_int rfl (by omega) | exact at_slice rfl (by omega) | exact at_int rfl (by simp)), (by (iterate 2 refine Agr.lk rfl ?_); refine Agr.lk rfl ?_; refine Agr.hav rfl ?_; exact Agr.rfl'), ?_⟩
        refine ⟨hd, hcn rfl, ?_, h7, ho, he⟩
        simpa using hv
  · rintro ⟨B, c, d⟩ g w2 ⟨hd, hcn, hv, h7, ho, he⟩
    have he02 := he1.trans he
    have hk2 := hk1.ext he
    have ho' := ho
    refine J.seq ?_
    refine J.region ?_
    refine L.va rfl (X.move (by conv => lhs; whnf)) ?_
    refine L.va rfl (X.build (l := [_, _]) (Evs.cons (by conv => lhs; whnf) Evs.nil) (bld_run Try.underlying80 (bp_80 Try.underlying80) zr_80 rfl)) ?_
    refine L.storeAgg (vs := [_, _]) rfl rfl rfl rfl sz_80 (hk2) rfl ?_
    intro w3 hk3 hg3 hs3
    have he3 : Ext w w3 := he02.grw hg3 (by intro g hg; injection hg with hg; omega)
    have ho3 := ho.kept hg3 (.inr (own_blk_ne ho hk2 (by decide)))
    have hnc := own_bd ho3
    refine L.nil ?_
    refine J.ret ?_
    refine finC rfl (run_cell hk3 Try.underlying80 rfl (by kernel_rfl)) ?_
    exact ⟨⟨false, B, d.length, c, d⟩, rfl, rfl, ⟨Reads.of_own ho3, hd, hcn, (fun h => by cases h), hnc.1, by show d.length ≤ 100000; omega⟩, hv, h7, own_lowN ho3 z1, he3⟩
end Go.Proofs.Ytnndkepnabddgaa
namespace Go.Proofs.Ytnndkepnabddgaa
set_option maxRecDepth 100000
open Go.RowKit H
open Num
set_option linter.unusedVariables false
theorem rsum (A : Option Addr) (n c : Nat) (a : List Int) (B : Option Addr) (m e : Nat) (b : List Int) (w : World) {N : Nat} (hN : N ≤ w.heap.size) (hra : Reads w N 1 A n (nums .i64 a)) (hrb : Reads w N 1 B m (nums .i64 b)) (la : a.length = n) (lb : b.length = m) (hn : n ≤ 100000 ∧ m ≤ 100000) (da : Dig a) (db : Dig b) : Calls Try.prog 62 #[.slice A n c, .slice B m e] w fun e w' => ∃ (A' : Option Addr) (c' : Nat) (o : List Int), e = .returned (.slice A' o.length c') ∧ o.length = max n m + 1 ∧ Dig o ∧ dv o = dv a + dv b ∧ w'.ownsRow w.heap.size 3 1 (.slice A' o.length c') o.length (nums .i64 o) ∧ Ext w w' := by
  obtain ⟨q, hq⟩ : ∃ q, q = max n m := ⟨_, rfl⟩
  have hqn : n ≤ q ∧ m ≤ q ∧ q ≤ 100000 := by omega
  refine enter Try.func62 rfl (by kernel_rfl) ?_
  refine J.seq ?_
  refine J.region ?_
  refine L.va rfl (X.assign (by conv => lhs; whnf)) ?_
  refine L.nil ?_
  refine J.seq ?_
  refine J.region ?_
  refine L.va rfl (X.assign (by conv => lhs; whnf)) ?_
  refine L.nil ?_
  refine J.seq ?_
  refine J.region ?_
  refine L.va rfl (X.assign (by conv => lhs; whnf)) ?_
  refine L.nil ?_
  refine J.seq ?_
  refine J.seq ?_
  refine J.region ?_
  refine L.va rfl (X.assign (by conv => lhs; whnf)) ?_
  refine L.nil ?_
  refine J.block ?_
  refine J.loop (X := Nat × Int × Option Addr × Nat × List Int) [5, 6, 7, 8, 9, 10, 11, 12, 13, 14, 15, 16, 17, 18, 19, 20, 21, 22, 23, 24, 25, 26, 27, 28, 29, 30, 31, 32, 33] (fun (i, cy, B, oc, o) => [(7, .int .i64 (i : Int)), (6, .int .i64 cy), (5, .slice B o.length oc)]) (fun (i, cy, B, oc, o) w' => i ≤ q ∧ o.length = i ∧ Dig o ∧ (0 ≤ cy ∧ cy ≤ 1) ∧ dv o + cy * 1000 ^ i = dv (a.take i) + dv (b.take i) ∧ w'.ownsRow w.heap.size 3 1 (.slice B o.length oc) o.length (nums .i64 o) ∧ Ext w w') (fun (i, _) => q - i) ((0, 0, none, 0, [])) (At3 (by first | rfl | exact at_int rfl (by omega) | exact at_slice rfl (by omega) | exact at_int rfl (by simp)) (by first | rfl | exact at_int rfl (by omega) | exact at_slice rfl (by omega) | exact at_int rfl (by simp)) (by first | rfl | exact at_int rfl (by omega) | exact at_slice rfl (by omega) | exact at_int rfl (by simp))) ?_ ?_
  · exact ⟨Nat.zero_le _, rfl, dig_nil, by decide, by simp [dv], own_nil _ _ _ _, Ext.refl _⟩
  · rintro ⟨i, cy, B', oc, o⟩ g w2 ⟨hi, ho, dgo, hcy, hv, own, he⟩
    have z2 := he.le
    refine J.seq ?_
    refine J.seq ?_
    refine J.region ?_
    refine L.va rfl (X.move (by conv => lhs; whnf)) ?_
    refine L.va rfl (X.move (by conv => lhs; whnf)) ?_
    refine L.va rfl (X.len rfl Try.underlying35) ?_
    refine L.va rfl (X.move (by conv => lhs; whnf)) ?_
    refine L.va rfl (X.len rfl Try.underlying35) ?_
    refine L.va rfl (X.max2 rfl rfl) ?_
    refine L.va rfl (X.lss rfl rfl) ?_
    refine L.nil ?_
    have eL : (max (n : Int) (m : Int)) = (q : Int) := by omega
    rw [eL]
    refine J.dec rfl (fun hlt => ?_) (fun hlt => ?_)
    · have c1 := rdigit A n c a i w2 (hra.ext he) la (by unfold maxLen; omega)
      have c2 := rdigit B m e b i w2 (hrb.ext he) lb (by unfold maxLen; omega)
      have ga := da i
      have gb := db i
      refine J.skip ?_
      refine J.seq ?_
      refine J.block ?_
      refine J.seq ?_
      refine J.region ?_
      refine L.va rfl (X.move (by conv => lhs; whnf)) ?_
      refine L.va rfl (X.move (by conv => lhs; whnf)) ?_
      refine L.call rfl en_81 rfl (c1) ?_
      rintro e _ ⟨rfl, rfl⟩
      refine ⟨_, rfl, ?_⟩
      refine L.va rfl (X.move (by conv => lhs; whnf)) ?_
      refine L.va rfl (X.move (by conv => lhs; whnf)) ?_
      refine L.call rfl en_81 rfl (c2) ?_
      rintro e _ ⟨rfl, rfl⟩
      refine ⟨_, rfl, ?_⟩
      refine L.va rfl (X.add rfl rfl (by omega)) ?_
      refine L.va rfl (X.move (by conv => lhs; whnf)) ?_
      refine L.va rfl (X.add rfl rfl (by omega)) ?_
      refine L.va rfl (X.assign (by conv => lhs; whnf)) ?_
      refine L.nil ?_
      refine J.seq ?_
      refine J.region ?_
      refine L.va rfl (X.move (by conv => lhs; whnf)) ?_
      refine L.va rfl (X.move (by conv => lhs; whnf)) ?_
      refine L.va rfl (X.rem rfl rfl (by omega)) ?_
      refine L.bslice (vs := [_]) rfl (Evs.cons (by conv => lhs; whnf) Evs.nil) rfl rfl rfl rfl Try.underlying35 sz_3 zr_3 (by decide) ?_
      intro b3 w3 hb3 hs3 hk3 he3
      have ho3 := own.ext he3
      have z3 := he3.le
      obtain ⟨s, hs⟩ : ∃ s, s = a.getD i 0 + b.getD i 0 + cy := ⟨_, rfl⟩
      refine L.appendQ (q := o.length + 1) (ys := o ++ [s % 1000]) rfl rfl rfl Try.underlying35 el_3 (ho3) ((blk_reads (q := 1) (l := nums .i64 [s % 1000]) (by rw [hs]; exact hk3) hk3.lt rfl)) (by omega) (by simp) (by unfold maxLen; omega) (by omega) ?_
      intro B4 c4 w4 ho4 hg4 hb4 hor4
      have he4 := (he.trans he3).grw hg4 (fun g hg => (ho3.lt g hg).1)
      have el : (o ++ [s % 1000]).length = o.length + 1 := by rw [List.length_append]; rfl
      refine L.va rfl (X.assign (by conv => lhs; whnf)) ?_
      refine L.nil ?_
      refine J.region ?_
      refine L.va rfl (X.move (by conv => lhs; whnf)) ?_
      refine L.va rfl (X.quo rfl rfl (by omega)) ?_
      refine L.va rfl (X.assign (by conv => lhs; whnf)) ?_
      refine L.nil ?_
      refine J.region ?_
      refine L.va rfl (X.move (by conv => lhs; whnf)) ?_
      refine L.va rfl (X.add rfl rfl (by omega)) ?_
      refine L.va rfl (X.assign (by conv => lhs; whnf)) ?_
      refine L.nil ?_
      refine ⟨(i + 1, s / 1000, B4, c4, o ++ [s % 1000]), At3 (rfl) (at_int rfl (by rw [hs])) (at_slice rfl el.symm), (by (iterate 29 refine Agr.lk rfl ?_); exact Agr.lk rfl (Agr.hav rfl Agr.rfl')), ?_⟩
      refine ⟨⟨by omega, by rw [el, ho], dig_snoc dgo (by omega), by omega, ?_, by rw [el]; exact ho4, he4⟩, by show q - (i + 1) < q - i; omega⟩
      rw [dv_snoc, ho, dv_next, dv_next, Int.pow_succ]
      have e1 : s = 1000 * (s / 1000) + s % 1000 := by omega
      generalize (1000 : Int) ^ i = p at *
      generalize s / 1000 = u at *
      generalize s % 1000 = r at *
      grind
    · obtain rfl : i = q := by omega
      have ea : dv (a.take i) = dv a := dv_pad _ (by omega)
      have eb : dv (b.take i) = dv b := dv_pad _ (by omega)
      rw [ea, eb] at hv
      refine J.exit ?_
      refine J.seq ?_
      refine J.region ?_
      refine L.va rfl (X.move (by conv => lhs; whnf)) ?_
      refine L.va rfl (X.move (by conv => lhs; whnf)) ?_
      refine L.bslice (vs := [_]) rfl (Evs.cons (by conv => lhs; whnf) Evs.nil) rfl rfl rfl rfl Try.underlying35 sz_3 zr_3 (by decide) ?_
      intro b3 w3 hb3 hs3 hk3 he3
      have ho3 := own.ext he3
      have z3 := he3.le
      refine L.appendQ (q := o.length + 1) (ys := o ++ [cy]) rfl rfl rfl Try.underlying35 el_3 (ho3) ((blk_reads (q := 1) (l := nums .i64 [cy]) hk3 hk3.lt rfl)) (by omega) (by simp) (by unfold maxLen; omega) (by omega) ?_
      intro B4 c4 w4 ho4 hg4 hb4 hor4
      have he4 := (he.trans he3).grw hg4 (fun g hg => (ho3.lt g hg).1)
      have el : (o ++ [cy]).length = o.length + 1 := by rw [List.length_append]; rfl
      refine L.va rfl (X.assign (by conv => lhs; whnf)) ?_
      refine L.nil ?_
      refine J.ret ?_
      refine fin1 ?_
      refine ⟨B4, c4, o ++ [cy], by rw [el]; rfl, by rw [el, ho, hq], dig_snoc dgo (by omega), ?_, by rw [el]; exact ho4, he4⟩
      rw [dv_snoc, ho, hv]
theorem radd {x y : Nu} {w : World} {N : Nat} (hN : N ≤ w.heap.size) (hx : x.At N w) (hy : y.At N w) (hg : x.g = y.g) (hs : x.n ≤ 90000 ∧ y.n ≤ 90000) : Calls Try.prog 36 #[x.val, y.val] w fun e w' => ∃ t : Nu, e = .returned t.val ∧ t.At w'.heap.size w' ∧ t.g = (x.g && decide (0 < t.n)) ∧ dv t.d = dv x.d + dv y.d ∧ t.n ≤ max x.n y.n + 1 ∧ t.Own w.heap.size w' ∧ Ext w w' := by
  have lx := hx.len
  have ly := hy.len
  refine enter Try.func36 rfl (by kernel_rfl) ?_
  refine J.seq ?_
  refine J.region ?_
  refine L.boxA (l := [_, _]) rfl rfl ?_
  intro b1 w1 hb1 hs1 hk1 he1
  refine L.boxA (l := [_, _]) rfl rfl ?_
  intro b2 w2 hb2 hs2 hk2 he2
  refine L.alloc rfl zr_80 ?_
  intro b3 w3 hb3 hs3 hk3 he3
  have he03 := (he1.trans he2).trans he3
  have z3 := he03.le
  have hk1 := (hk1.ext he2).ext he3
  have hk2 := hk2.ext he3
  refine L.nil ?_
  refine J.seq ?_
  refine J.seq ?_
  refine J.region ?_
  refine L.va rfl (X.fieldAddr rfl Try.underlying80 rfl sz_4 (by decide)) ?_
  refine L.va rfl (X.load rfl sc_4 (by first | exact Ld.blk hk1 rfl | exact Ld.blk hk2 rfl)) ?_
  refine L.va rfl (X.fieldAddr rfl Try.underlying80 rfl sz_4 (by decide)) ?_
  refine L.va rfl (X.load rfl sc_4 (by first | exact Ld.blk hk1 rfl | exact Ld.blk hk2 rfl)) ?_
  refine L.va rfl (X.eqlB rfl rfl Try.underlying4) ?_
  refine L.nil ?_
  rw [show (x.g == y.g) = true by rw [hg]; exact beq_self_eq_true _]
  refine J.iteT rfl ?_
  refine J.seq ?_
  refine J.draw (ℓ := 8) (S := Ext w3) mixed (fun w4 hS hS_h => ?_)
  have z4 := hS.le
  have he04 := he03.trans hS
  have c1 := rsum x.A x.n x.c x.d y.A y.n y.c y.d w4 (N := N) (by omega) (hx.r.ext he04) (hy.r.ext he04) lx ly (by omega) hx.dg hy.dg
  refine D.va 0 rfl (by kernel_rfl) (fun _ _ _ h => h) rfl (fun w' hw => X.fieldAddr rfl Try.underlying80 rfl sz_4 (by decide)) hS ?_
  refine D.va 1 rfl (by kernel_rfl) (fun _ _ _ h => h) rfl (fun w' hw => X.load rfl sc_4 (by first | exact Ld.blk (hk1.ext hw) rfl | exact Ld.blk (hk2.ext hw) rfl)) hS ?_
  refine D.va 2 rfl (by kernel_rfl) (fun _ _ _ h => h) rfl (fun w' hw => X.fieldAddr rfl Try.underlying80 rfl sz_35 (by decide)) hS ?_
  refine D.va 3 rfl (by kernel_rfl) (fun _ _ _ h => h) rfl (fun w' hw => X.load rfl sc_35 (by first | exact Ld.blk (hk1.ext hw) rfl | exact Ld.blk (hk2.ext hw) rfl)) hS ?_
  refine D.va 4 rfl (by kernel_rfl) (fun _ _ _ h => h) rfl (fun w' hw => X.fieldAddr rfl Try.underlying80 rfl sz_35 (by decide)) hS ?_
  refine D.va 5 rfl (by kernel_rfl) (fun _ _ _ h => h) rfl (fun w' hw => X.load rfl sc_35 (by first | exact Ld.blk (hk1.ext hw) rfl | exact Ld.blk (hk2.ext hw) rfl)) hS ?_
  refine D.one 6 (by kernel_rfl) rfl ?_
  refine L.call rfl en_62 rfl (c1) ?_
  rintro e w5 ⟨A5, c5, o, rfl, hol, hod, hov, ho5, he5⟩
  refine ⟨_, rfl, ?_⟩
  have hS1 := hS.trans he5
  refine L.nil ?_
  refine ⟨fun _ => hS1, ?_⟩
  have hnc := own_bd ho5
  have c2 := rmade x.g A5 o.length c5 o w5 (Reads.of_own ho5) rfl hnc.1 (by omega)
  refine D.one 7 (by kernel_rfl) rfl ?_
  refine L.call rfl en_61 rfl (c2) ?_
  rintro e w6 ⟨he6, k, rfl, hk⟩
  refine ⟨_, rfl, ?_⟩
  have hS2 := (hS.trans he5).trans he6
  refine L.nil ?_
  refine ⟨fun _ => hS2, ?_⟩
  have hkl := hk.le
  have ho6 := ho5.ext he6
  have hk36 := hk3.ext ((hS.trans he5).trans he6)
  obtain ⟨m1, m2⟩ := nu_made (g := x.g) (Reads.of_own ho6) hod rfl hnc.1 (by omega) hk
  refine D.one 8 (by kernel_rfl) rfl ?_
  refine L.storeAgg (vs := [_, _]) rfl rfl rfl rfl sz_80 (hk36) rfl ?_
  intro w7 hk7 hg7 hs7
  refine L.nil ?_
  refine ⟨fun h => absurd rfl h, ?_⟩
  have he7 : Ext w w7 := ((he04.trans he5).trans he6).grw hg7 (by intro g hg; injection hg with hg; omega)
  have ho7 := ho6.kept hg7 (.inr (own_blk_ne ho6 hk36 (by decide)))
  obtain ⟨m1, m2⟩ := nu_made (g := x.g) (Reads.of_own ho7) hod rfl hnc.1 (by omega) hk
  refine D.done (by kernel_rfl) ?_
  refine J.ret ?_
  refine thn_ret <| ?_
  refine finC rfl (run_cell hk7 Try.underlying80 rfl (by kernel_rfl)) ?_
  exact ⟨⟨x.g && decide (0 < k), A5, k, c5, o.take k⟩, rfl, m1, rfl, m2.trans hov, by show k ≤ _; omega, own_lowN (own_cutN ho7 hkl) he04.le, he7⟩
theorem rneg {x : Nu} {w : World} {N : Nat} (hN : N ≤ w.heap.size) (hx : x.At N w) : Calls Try.prog 67 #[x.val] w fun e w' => e = .returned (Nu.mk (!x.g && decide (0 < x.n)) x.A x.n x.c x.d).val ∧ (Nu.mk (!x.g && decide (0 < x.n)) x.A x.n x.c x.d).At w'.heap.size w' ∧ Ext w w' := by
  have lx := hx.len
  have sm := hx.sm
  refine enter Try.func67 rfl (by kernel_rfl) ?_
  refine J.seq ?_
  refine J.region ?_
  refine L.boxA (l := [_, _]) rfl rfl ?_
  intro b1 w1 hb1 hs1 hk1 he1
  refine L.alloc rfl zr_80 ?_
  intro b2 w2 hb2 hs2 hk2 he2
  have he02 := he1.trans he2
  have z2 := he02.le
  have hk1 := hk1.ext he2
  have c1 := rmade (!x.g) x.A x.n x.c x.d w2 (hx.r.ext he02) lx hx.cp (by omega)
  refine L.nil ?_
  refine J.seq ?_
  refine J.region ?_
  refine L.va rfl (X.fieldAddr rfl Try.underlying80 rfl sz_4 (by decide)) ?_
  refine L.va rfl (X.load rfl sc_4 (by first | exact Ld.blk hk1 rfl)) ?_
  refine L.va rfl (X.not rfl) ?_
  refine L.va rfl (X.fieldAddr rfl Try.underlying80 rfl sz_35 (by decide)) ?_
  refine L.va rfl (X.load rfl sc_35 (by first | exact Ld.blk hk1 rfl)) ?_
  refine L.call rfl en_61 rfl (c1) ?_
  rintro e w3 ⟨he3, k, rfl, hk⟩
  refine ⟨_, rfl, ?_⟩
  have he3 : Ext w2 w3 := he3
  have he03 := he02.trans he3
  have hk2 := hk2.ext he3
  have hkl := hk.le
  have ek : k = x.n := by
    apply Decidable.byContradiction
    intro h
    have h1 := hk.z (x.d.length - 1) (by omega) (by omega)
    exact hx.cn (by omega) h1
  subst ek
  refine L.storeAgg (vs := [_, _]) rfl rfl rfl rfl sz_80 (hk2) rfl ?_
  intro w4 hk4 hg4 hs4
  have he4 : Ext w w4 := he03.grw hg4 (by intro g hg; injection hg with hg; omega)
  have hr4 := (hx.r.ext he4).more (show N ≤ w4.heap.size by have := he4.le; omega)
  obtain ⟨m1, m2⟩ := nu_made (g := !x.g) hr4 hx.dg lx hx.cp sm hk
  have et : x.d.take x.n = x.d := by rw [List.take_of_length_le (by omega)]
  rw [et] at m1
  refine L.nil ?_
  refine J.ret ?_
  refine finC rfl (run_cell hk4 Try.underlying80 rfl (by kernel_rfl)) ?_
  exact ⟨rfl, m1, he4⟩
end Go.Proofs.Ytnndkepnabddgaa
namespace Go.Proofs.Ytnndkepnabddgaa
set_option maxRecDepth 100000
open Go.RowKit H
open Num
set_option linter.unusedVariables false
theorem getD_setN {l : List Int} {i j : Nat} {x : Int} (h : i ≠ j) : (l.set i x).getD j 0 = l.getD j 0 := by
  rw [List.getD, List.getD, List.getElem?_set, if_neg h]
theorem dv_full {d : List Int} {n : Nat} (h : d.length = n) : dv (d.take n) = dv d := by rw [List.take_of_length_le (by omega)]
theorem rmul {x y : Nu} {w : World} {N : Nat} (hN : N ≤ w.heap.size) (hx : x.At N w) (hy : y.At N w) (hs : x.n ≤ 40000 ∧ y.n ≤ 40000) : Calls Try.prog 65 #[x.val, y.val] w fun e w' => ∃ t : Nu, e = .returned t.val ∧ t.At w'.heap.size w' ∧ t.g = ((!(x.g == y.g)) && decide (0 < t.n)) ∧ dv t.d = dv x.d * dv y.d ∧ t.n ≤ x.n + y.n + 1 ∧ t.Own w.heap.size w' ∧ Ext w w' := by
  have lx := hx.len
  have ly := hy.len
  refine enter Try.func65 rfl (by kernel_rfl) ?_
  refine J.seq ?_
  refine J.region ?_
  refine L.boxA (l := [_, _]) rfl rfl ?_
  intro b1 w1 hb1 hs1 hk1 he1
  refine L.boxA (l := [_, _]) rfl rfl ?_
  intro b2 w2 hb2 hs2 hk2 he2
  refine L.alloc rfl zr_80 ?_
  intro b3 w3 hb3 hs3 hk3 he3
  have he03 := (he1.trans he2).trans he3
  have z3 := he03.le
  have hk1 := (hk1.ext he2).ext he3
  have hk2 := hk2.ext he3
  refine L.nil ?_
  refine J.seq ?_
  refine J.region ?_
  refine L.va rfl (X.fieldAddr rfl Try.underlying80 rfl sz_35 (by decide)) ?_
  refine L.va rfl (X.load rfl sc_35 (by first | exact Ld.blk hk1 rfl | exact Ld.blk hk2 rfl)) ?_
  refine L.va rfl (X.len rfl Try.underlying35) ?_
  refine L.va rfl (X.fieldAddr rfl Try.underlying80 rfl sz_35 (by decide)) ?_
  refine L.va rfl (X.load rfl sc_35 (by first | exact Ld.blk hk1 rfl | exact Ld.blk hk2 rfl)) ?_
  refine L.va rfl (X.len rfl Try.underlying35) ?_
  refine L.va rfl (X.add rfl rfl (by omega)) ?_
  refine L.va rfl (X.add rfl rfl (by omega)) ?_
  refine L.make (q := x.n + y.n + 1) (c := x.n + y.n + 1) rfl rfl rfl Try.underlying35 el_3 (by omega) ?_
  intro b4 w4 hb4 hs4 hk4 he4
  rw [made_one rfl] at hk4
  have he04 := he03.trans he4
  have z4 := he04.le
  obtain ⟨q, hq⟩ : ∃ q, q = x.n + y.n + 1 := ⟨_, rfl⟩
  have ho4 : w4.ownsRow w.heap.size 3 1 (.slice (some ⟨b4, 0, none⟩) q q) q (nums .i64 (List.replicate q 0)) := by
    rw [← hq] at hk4
    have := blk_own1 (base := w.heap.size) (q := q) (l := List.replicate q (Value.int .i64 0)) hk4 (by omega) (by unfold maxLen; omega) (by simp)
    have e : nums .i64 (List.replicate q 0) = List.replicate q (Value.int .i64 0) := by unfold nums; simp
    rw [e]
    exact this
  rw [← hq]
  have dz : Dig (List.replicate q 0) := by
    rw [dig_mem]
    intro z hz
    rw [(List.mem_replicate.1 hz).2]
    exact ⟨by decide, by decide⟩
  have zz : ∀ j, (List.replicate q (0 : Int)).getD j 0 = 0 := fun j => by
    rw [List.getD, List.getElem?_replicate]
    split <;> rfl
  have he34 : Ext w3 w4 := he4
  have hk1 := hk1.ext he34
  have hk2 := hk2.ext he34
  have hk3 := hk3.ext he34
  refine L.va rfl (X.assign (by conv => lhs; whnf)) ?_
  refine L.nil ?_
  refine J.cut (X := List Int) [6, 7, 8, 9, 19, 20, 21, 22, 23, 24, 25, 26, 27, 28, 29, 30, 31, 32, 33, 34, 35, 36, 37, 38, 39, 40, 41, 42, 43, 44, 45, 46, 47, 48, 49, 50, 51, 52, 53, 54, 55, 56, 57, 58, 59, 60, 61, 62, 63, 64, 65, 66, 67, 68, 69] (fun o => []) (fun o w' => o.length = q ∧ Dig o ∧ dv o = dv x.d * dv y.d ∧ w'.ownsRow w.heap.size 3 1 (.slice (some ⟨b4, 0, none⟩) q q) q (nums .i64 o) ∧ Blk w' b1 80 x.vs.toArray ∧ Blk w' b2 80 y.vs.toArray ∧ Blk w' b3 80 #[.bool false, .slice none 0 0] ∧ Ext w w') ?_ ?_
  · refine J.seq ?_
    refine J.region ?_
    refine L.va rfl (X.assign (by conv => lhs; whnf)) ?_
    refine L.nil ?_
    refine J.block ?_
    refine J.loop (X := Nat × List Int) [6, 7, 8, 9, 19, 20, 21, 22, 23, 24, 25, 26, 27, 28, 29, 30, 31, 32, 33, 34, 35, 36, 37, 38, 39, 40, 41, 42, 43, 44, 45, 46, 47, 48, 49, 50, 51, 52, 53, 54, 55, 56, 57, 58, 59, 60, 61, 62, 63, 64, 65, 66, 67, 68, 69] (fun (i, o) => [(6, .int .i64 (i : Int))]) (fun (i, o) w' => i ≤ x.n ∧ o.length = q ∧ Dig o ∧ (∀ j, i + y.n ≤ j → o.getD j 0 = 0) ∧ dv o = dv (x.d.take i) * dv y.d ∧ w'.ownsRow w.heap.size 3 1 (.slice (some ⟨b4, 0, none⟩) q q) q (nums .i64 o) ∧ Blk w' b1 80 x.vs.toArray ∧ Blk w' b2 80 y.vs.toArray ∧ Blk w' b3 80 #[.bool false, .slice none 0 0] ∧ Ext w w') (fun (i, _) => x.n - i) ((0, List.replicate q 0)) (At1 (by first | rfl | exact at_int rfl (by omega) | exact at_slice rfl (by omega) | exact at_int rfl (by simp))) ?_ ?_
    · refine ⟨Nat.zero_le _, by simp, dz, fun j _ => zz j, ?_, ho4, hk1, hk2, hk3, he04⟩
      rw [dv_zeros zz]
      simp [dv]
    · rintro ⟨i, o⟩ g w5 ⟨hi, hol, hod, hoz, hov, ho5, hk51, hk52, hk53, he5⟩
      have z5 := he5.le
      refine J.seq ?_
      refine J.seq ?_
      refine J.region ?_
      refine L.va rfl (X.move (by conv => lhs; whnf)) ?_
      refine L.va rfl (X.fieldAddr rfl Try.underlying80 rfl sz_35 (by decide)) ?_
      refine L.va rfl (X.load rfl sc_35 (by first | exact Ld.blk hk51 rfl | exact Ld.blk hk52 rfl)) ?_
      refine L.va rfl (X.len rfl Try.underlying35) ?_
      refine L.va rfl (X.lss rfl rfl) ?_
      refine L.nil ?_
      refine J.dec rfl (fun hlt => ?_) (fun hlt => ?_)
      · have hin : i < x.d.length := by omega
        have gx := hx.dg i
        refine J.skip ?_
        refine J.seq ?_
        refine J.block ?_
        refine J.seq ?_
        refine J.region ?_
        refine L.va rfl (X.assign (by conv => lhs; whnf)) ?_
        refine L.nil ?_
        refine J.cut (X := Int × List Int) [7, 8, 9, 26, 27, 28, 29, 30, 31, 32, 33, 34, 35, 36, 37, 38, 39, 40, 41, 42, 43, 44, 45, 46, 47, 48, 49, 50, 51, 52, 53, 54, 55, 56, 57, 58, 59, 60, 61] (fun (cy, p) => [(7, .int .i64 cy)]) (fun (cy, p) w' => p.length = q ∧ Dig p ∧ (0 ≤ cy ∧ cy ≤ 999) ∧ (∀ j, i + y.n ≤ j → p.getD j 0 = o.getD j 0) ∧ dv p + cy * 1000 ^ (i + y.n) = dv o + x.d.getD i 0 * 1000 ^ i * dv (y.d.take y.n) ∧ w'.ownsRow w.heap.size 3 1 (.slice (some ⟨b4, 0, none⟩) q q) q (nums .i64 p) ∧ Blk w' b1 80 x.vs.toArray ∧ Blk w' b2 80 y.vs.toArray ∧ Blk w' b3 80 #[.bool false, .slice none 0 0] ∧ Ext w w') ?_ ?_
        · refine J.seq ?_
          refine J.region ?_
          refine L.va rfl (X.assign (by conv => lhs; whnf)) ?_
          refine L.nil ?_
          refine J.block ?_
          refine J.loop (X := Nat × Int × List Int) [7, 8, 9, 26, 27, 28, 29, 30, 31, 32, 33, 34, 35, 36, 37, 38, 39, 40, 41, 42, 43, 44, 45, 46, 47, 48, 49, 50, 51, 52, 53, 54, 55, 56, 57, 58, 59, 60, 61] (fun (k, cy, p) => [(8, .int .i64 (k : Int)), (7, .int .i64 cy)]) (fun (k, cy, p) w' => k ≤ y.n ∧ p.length = q ∧ Dig p ∧ (0 ≤ cy ∧ cy ≤ 999) ∧ (∀ j, i + k ≤ j → p.getD j 0 = o.getD j 0) ∧ dv p + cy * 1000 ^ (i + k) = dv o + x.d.getD i 0 * 1000 ^ i * dv (y.d.take k) ∧ w'.ownsRow w.heap.size 3 1 (.slice (some ⟨b4, 0, none⟩) q q) q (nums .i64 p) ∧ Blk w' b1 80 x.vs.toArray ∧ Blk w' b2 80 y.vs.toArray ∧ Blk w' b3 80 #[.bool false, .slice none 0 0] ∧ Ext w w') (fun (k, _) => y.n - k) ((0, 0, o)) (At2 (by first | rfl | exact at_int rfl (by omega) | exact at_slice rfl (by omega) | exact at_int rfl (by simp)) (by first | rfl | exact at_int rfl (by omega) | exact at_slice rfl (by omega) | exact at_int rfl (by simp))) ?_ ?_
          · exact ⟨Nat.zero_le _, hol, hod, by decide, fun j _ => rfl, by simp [dv], ho5, hk51, hk52, hk53, he5⟩
          · rintro ⟨k, cy, p⟩ g w6 ⟨hk, hpl, hpd, hcy, hpz, hpv, ho6, hk61, hk62, hk63, he6⟩
            have z6 := he6.le
            refine J.seq ?_
            refine J.seq ?_
            refine J.region ?_
            refine L.va rfl (X.move (by conv => lhs; whnf)) ?_
            refine L.va rfl (X.fieldAddr rfl Try.underlying80 rfl sz_35 (by decide)) ?_
            refine L.va rfl (X.load rfl sc_35 (by first | exact Ld.blk hk61 rfl | exact Ld.blk hk62 rfl)) ?_
            refine L.va rfl (X.len rfl Try.underlying35) ?_
            refine L.va rfl (X.lss rfl rfl) ?_
            refine L.nil ?_
            refine J.dec rfl (fun hlt2 => ?_) (fun hlt2 => ?_)
            · have hkn : k < y.d.length := by omega
              have gy := hy.dg k
              have gp := hpd (i + k)
              have hab : 0 ≤ x.d.getD i 0 * y.d.getD k 0 ∧ x.d.getD i 0 * y.d.getD k 0 ≤ 998001 := by
                refine ⟨Int.mul_nonneg gx.1 gy.1, ?_⟩
                have h1 : x.d.getD i 0 ≤ 999 := by omega
                have h2 : y.d.getD k 0 ≤ 999 := by omega
                exact Int.le_trans (Int.mul_le_mul h1 h2 gy.1 (by decide)) (by decide)
              have hrx := hx.r.ext he6
              have hry := hy.r.ext he6
              have hAx := hrx.some_ (by omega)
              have hAy := hry.some_ (by omega)
              refine J.skip ?_
              refine J.seq ?_
              refine J.block ?_
              refine J.seq ?_
              refine J.draw (ℓ := 1000000) (S := Ext w6) mixed (fun w7 hS hS_h => ?_)
              refine D.va 0 rfl (by kernel_rfl) (fun _ _ _ h => h) rfl (fun w' hw => X.move (by conv => lhs; whnf)) hS ?_
              refine D.va 1 rfl (by kernel_rfl) (fun _ _ _ h => h) rfl (fun w' hw => X.move (by conv => lhs; whnf)) hS ?_
              refine D.va 2 rfl (by kernel_rfl) (fun _ _ _ h => h) rfl (fun w' hw => X.move (by conv => lhs; whnf)) hS ?_
              refine D.va 3 rfl (by kernel_rfl) (fun _ _ _ h => h) rfl (fun w' hw => X.add rfl rfl (by omega)) hS ?_
              refine D.va 4 rfl (by kernel_rfl) (fun _ _ _ h => h) rfl (fun w' hw => X.index1e (j := i + k) rfl rfl (by omega) Try.underlying35 sz_3 (Option.some_ne_none _) (by omega)) hS ?_
              refine D.va 5 rfl (by kernel_rfl) (fun _ _ _ h => h) rfl (fun w' hw => X.load rfl sc_3 (Ld.own (ho6.ext hw) (j := i + k) (by omega))) hS ?_
              refine D.va 6 rfl (by kernel_rfl) (fun _ _ _ h => h) rfl (fun w' hw => X.fieldAddr rfl Try.underlying80 rfl sz_35 (by decide)) hS ?_
              refine D.va 7 rfl (by kernel_rfl) (fun _ _ _ h => h) rfl (fun w' hw => X.load rfl sc_35 (by first | exact Ld.blk (hk61.ext hw) rfl | exact Ld.blk (hk62.ext hw) rfl | exact Ld.num (hrx.ext hw) (by omega) | exact Ld.num (hry.ext hw) (by omega) | exact Ld.own (ho6.ext hw) (by omega) | exact hAx | exact hAy)) hS ?_
              refine D.va 8 rfl (by kernel_rfl) (fun _ _ _ h => h) rfl (fun w' hw => X.move (by conv => lhs; whnf)) hS ?_
              refine D.va 9 rfl (by kernel_rfl) (fun _ _ _ h => h) rfl (fun w' hw => (by first | exact X.index1n rfl rfl Try.underlying35 sz_3 (by first | exact Option.some_ne_none _ | exact hrx.some_ (by omega) | exact hry.some_ (by omega) | exact own_ne ho6 (by omega) | exact hAx | exact hAy) (by omega) | exact X.index1 rfl rfl Try.underlying35 sz_3 (by first | exact Option.some_ne_none _ | exact hrx.some_ (by omega) | exact hry.some_ (by omega) | exact own_ne ho6 (by omega) | exact hAx | exact hAy) (by omega))) hS ?_
              refine D.va 10 rfl (by kernel_rfl) (fun _ _ _ h => h) rfl (fun w' hw => X.load rfl sc_3 (by first | exact Ld.blk (hk61.ext hw) rfl | exact Ld.blk (hk62.ext hw) rfl | exact Ld.num (hrx.ext hw) (by omega) | exact Ld.num (hry.ext hw) (by omega) | exact Ld.own (ho6.ext hw) (by omega) | exact hAx | exact hAy)) hS ?_
              refine D.va 11 rfl (by kernel_rfl) (fun _ _ _ h => h) rfl (fun w' hw => X.fieldAddr rfl Try.underlying80 rfl sz_35 (by decide)) hS ?_
              refine D.va 12 rfl (by kernel_rfl) (fun _ _ _ h => h) rfl (fun w' hw => X.load rfl sc_35 (by first | exact Ld.blk (hk61.ext hw) rfl | exact Ld.blk (hk62.ext hw) rfl | exact Ld.num (hrx.ext hw) (by omega) | exact Ld.num (hry.ext hw) (by omega) | exact Ld.own (ho6.ext hw) (by omega) | exact hAx | exact hAy)) hS ?_
              refine D.va 13 rfl (by kernel_rfl) (fun _ _ _ h => h) rfl (fun w' hw => X.move (by conv => lhs; whnf)) hS ?_
              refine D.va 14 rfl (by kernel_rfl) (fun _ _ _ h => h) rfl (fun w' hw => (by first | exact X.index1n rfl rfl Try.underlying35 sz_3 (by first | exact Option.some_ne_none _ | exact hrx.some_ (by omega) | exact hry.some_ (by omega) | exact own_ne ho6 (by omega) | exact hAx | exact hAy) (by omega) | exact X.index1 rfl rfl Try.underlying35 sz_3 (by first | exact Option.some_ne_none _ | exact hrx.some_ (by omega) | exact hry.some_ (by omega) | exact own_ne ho6 (by omega) | exact hAx | exact hAy) (by omega))) hS ?_
              refine D.va 15 rfl (by kernel_rfl) (fun _ _ _ h => h) rfl (fun w' hw => X.load rfl sc_3 (by first | exact Ld.blk (hk61.ext hw) rfl | exact Ld.blk (hk62.ext hw) rfl | exact Ld.num (hrx.ext hw) (by omega) | exact Ld.num (hry.ext hw) (by omega) | exact Ld.own (ho6.ext hw) (by omega) | exact hAx | exact hAy)) hS ?_
              refine D.va 16 rfl (by kernel_rfl) (fun _ _ _ h => h) rfl (fun w' hw => X.mul rfl rfl (by omega)) hS ?_
              refine D.va 17 rfl (by kernel_rfl) (fun _ _ _ h => h) rfl (fun w' hw => X.add rfl rfl (by omega)) hS ?_
              refine D.va 18 rfl (by kernel_rfl) (fun _ _ _ h => h) rfl (fun w' hw => X.move (by conv => lhs; whnf)) hS ?_
              refine D.va 19 rfl (by kernel_rfl) (fun _ _ _ h => h) rfl (fun w' hw => X.add rfl rfl (by omega)) hS ?_
              refine D.va 20 rfl (by kernel_rfl) (fun _ _ _ h => h) rfl (fun w' hw => X.assign (by conv => lhs; whnf)) hS ?_
              refine D.done (by kernel_rfl) ?_
              replace hk61 := hk61.ext hS
              replace hk62 := hk62.ext hS
              replace hrx := hrx.ext hS
              replace hry := hry.ext hS
              replace ho6 := ho6.ext hS
              refine J.seq ?_
              refine J.region ?_
              refine L.va rfl (X.move (by conv => lhs; whnf)) ?_
              refine L.va rfl (X.move (by conv => lhs; whnf)) ?_
              refine L.va rfl (X.move (by conv => lhs; whnf)) ?_
              refine L.va rfl (X.add rfl rfl (by omega)) ?_
              refine L.va rfl (X.move (by conv => lhs; whnf)) ?_
              refine L.va rfl (X.rem rfl rfl (by omega)) ?_
              refine L.va rfl ((by first | exact X.index1n rfl rfl Try.underlying35 sz_3 (by first | exact Option.some_ne_none _ | exact hrx.some_ (by omega) | exact hry.some_ (by omega) | exact own_ne ho6 (by omega) | exact hAx | exact hAy) (by omega) | exact X.index1 rfl rfl Try.underlying35 sz_3 (by first | exact Option.some_ne_none _ | exact hrx.some_ (by omega) | exact hry.some_ (by omega) | exact own_ne ho6 (by omega) | exact hAx | exact hAy) (by omega))) ?_
              obtain ⟨s, hs⟩ : ∃ s, s = p.getD (i + k) 0 + x.d.getD i 0 * y.d.getD k 0 + cy := ⟨_, rfl⟩
              have hk71 := hk61
              have hk72 := hk62
              have hk73 := hk63.ext hS
              have ho7 := ho6
              refine L.storeON rfl rfl (by conv => lhs; whnf) sz_3 (ho7) (by omega) ?_
              intro w8 ho8 hg8 hb8 hs8
              rw [← hs] at ho8
              have hk81 := hk71.grown hg8 (fun e => own_blk_ne ho7 hk71 (by decide) e.symm)
              have hk82 := hk72.grown hg8 (fun e => own_blk_ne ho7 hk72 (by decide) e.symm)
              have hk83 := hk73.grown hg8 (fun e => own_blk_ne ho7 hk73 (by decide) e.symm)
              have he8 := (he6.trans hS).grw hg8 (fun g hg => (ho7.lt g hg).1)
              refine L.nil ?_
              refine J.region ?_
              refine L.va rfl (X.move (by conv => lhs; whnf)) ?_
              refine L.va rfl (X.quo rfl rfl (by omega)) ?_
              refine L.va rfl (X.assign (by conv => lhs; whnf)) ?_
              refine L.nil ?_
              refine J.region ?_
              refine L.va rfl (X.move (by conv => lhs; whnf)) ?_
              refine L.va rfl (X.add rfl rfl (by omega)) ?_
              refine L.va rfl (X.assign (by conv => lhs; whnf)) ?_
              refine L.nil ?_
              refine ⟨(k + 1, s / 1000, p.set (i + k) (s % 1000)), At2 (rfl) (at_int rfl (by rw [hs])), (by (iterate 39 refine Agr.lk rfl ?_); exact Agr.lk rfl (Agr.hav rfl Agr.rfl')), ?_⟩
              refine ⟨⟨by omega, by rw [List.length_set]; exact hpl, dig_set hpd _ (by omega), by omega, fun j hj => ?_, ?_, ho8, hk81, hk82, hk83, he8⟩, by show y.n - (k + 1) < y.n - k; omega⟩
              · rw [getD_setN (by omega)]
                exact hpz j (by omega)
              · rw [dv_set _ (by omega), dv_take hkn, show i + (k + 1) = i + k + 1 by omega, Int.pow_succ]
                have e1 : s = 1000 * (s / 1000) + s % 1000 := by omega
                have e2 : (1000 : Int) ^ (i + k) = 1000 ^ i * 1000 ^ k := Int.pow_add ..
                rw [e2] at hpv ⊢
                generalize (1000 : Int) ^ i = pi at *
                generalize (1000 : Int) ^ k = pk at *
                generalize s / 1000 = u at *
                generalize s % 1000 = r at *
                generalize x.d.getD i 0 = xi at *
                generalize y.d.getD k 0 = yk at *
                generalize p.getD (i + k) 0 = pp at *
                grind
            · obtain rfl : k = y.n := by omega
              refine J.exit ?_
              refine ⟨(cy, p), At1 (by first | rfl | exact at_int rfl (by omega) | exact at_slice rfl (by omega) | exact at_int rfl (by simp)), (by (iterate 5 refine Agr.lk rfl ?_); refine Agr.lk rfl ?_; refine Agr.hav rfl ?_; (iterate 1 refine Agr.lk rfl ?_); exact Agr.rfl'), ?_⟩
              exact ⟨hpl, hpd, hcy, hpz, hpv, ho6, hk61, hk62, hk63, he6⟩
        · rintro ⟨cy, p⟩ g w6 ⟨hpl, hpd, hcy, hpz, hpv, ho6, hk61, hk62, hk63, he6⟩
          refine J.region ?_
          refine L.va rfl (X.move (by conv => lhs; whnf)) ?_
          refine L.va rfl (X.move (by conv => lhs; whnf)) ?_
          refine L.va rfl (X.fieldAddr rfl Try.underlying80 rfl sz_35 (by decide)) ?_
          refine L.va rfl (X.load rfl sc_35 (by first | exact Ld.blk hk61 rfl | exact Ld.blk hk62 rfl)) ?_
          refine L.va rfl (X.len rfl Try.underlying35) ?_
          refine L.va rfl (X.add rfl rfl (by omega)) ?_
          refine L.va rfl (X.move (by conv => lhs; whnf)) ?_
          refine L.va rfl (X.index1e (j := i + y.n) rfl rfl (by omega) Try.underlying35 sz_3 (Option.some_ne_none _) (by omega)) ?_
          refine L.storeON rfl rfl (by conv => lhs; whnf) sz_3 (ho6) (by omega) ?_
          intro w8 ho8 hg8 hb8 hs8
          have hk81 := hk61.grown hg8 (fun e => own_blk_ne ho6 hk61 (by decide) e.symm)
          have hk82 := hk62.grown hg8 (fun e => own_blk_ne ho6 hk62 (by decide) e.symm)
          have hk83 := hk63.grown hg8 (fun e => own_blk_ne ho6 hk63 (by decide) e.symm)
          have he8 := he6.grw hg8 (fun g hg => (ho6.lt g hg).1)
          refine L.nil ?_
          refine J.region ?_
          refine L.va rfl (X.move (by conv => lhs; whnf)) ?_
          refine L.va rfl (X.add rfl rfl (by omega)) ?_
          refine L.va rfl (X.assign (by conv => lhs; whnf)) ?_
          refine L.nil ?_
          refine ⟨(i + 1, p.set (i + y.n) cy), At1 (by first | rfl | exact at_int rfl (by omega) | exact at_slice rfl (by omega) | exact at_int rfl (by simp)), (by (iterate 11 refine Agr.lk rfl ?_); refine Agr.lk rfl ?_; refine Agr.hav rfl ?_; (iterate 6 refine Agr.lk rfl ?_); exact Agr.lk rfl (Agr.hav rfl Agr.rfl')), ?_⟩
          refine ⟨⟨by omega, by rw [List.length_set]; exact hpl, dig_set hpd _ (by omega), fun j hj => ?_, ?_, ho8, hk81, hk82, hk83, he8⟩, by show x.n - (i + 1) < x.n - i; omega⟩
          · rw [getD_setN (by omega), hpz j (by omega)]
            exact hoz j (by omega)
          · rw [dv_set _ (by omega), dv_take hin, hpz _ (Nat.le_refl _), hoz _ (Nat.le_refl _)]
            rw [dv_full ly] at hpv
            generalize (1000 : Int) ^ (i + y.n) = p1 at *
            generalize (1000 : Int) ^ i = pi at *
            generalize x.d.getD i 0 = xi at *
            grind
      · obtain rfl : i = x.n := by omega
        rw [dv_full lx] at hov
        refine J.exit ?_
        refine ⟨o, At0 , (by (iterate 5 refine Agr.lk rfl ?_); refine Agr.lk rfl ?_; refine Agr.hav rfl ?_; (iterate 1 refine Agr.lk rfl ?_); exact Agr.rfl'), ?_⟩
        exact ⟨hol, hod, hov, ho5, hk51, hk52, hk53, he5⟩
  · rintro o g w5 ⟨hol, hod, hov, ho5, hk51, hk52, hk53, he5⟩
    have z5 := he5.le
    have c6 := rmade (!(x.g == y.g)) (some ⟨b4, 0, none⟩) q q o w5 (Reads.of_own ho5) hol (Nat.le_refl _) (by omega)
    refine J.seq ?_
    refine J.region ?_
    refine L.va rfl (X.fieldAddr rfl Try.underlying80 rfl sz_4 (by decide)) ?_
    refine L.va rfl (X.load rfl sc_4 (by first | exact Ld.blk hk51 rfl | exact Ld.blk hk52 rfl)) ?_
    refine L.va rfl (X.fieldAddr rfl Try.underlying80 rfl sz_4 (by decide)) ?_
    refine L.va rfl (X.load rfl sc_4 (by first | exact Ld.blk hk51 rfl | exact Ld.blk hk52 rfl)) ?_
    refine L.va rfl (X.neqB rfl rfl Try.underlying4) ?_
    refine L.va rfl (X.move (by conv => lhs; whnf)) ?_
    refine L.call rfl en_61 rfl (c6) ?_
    rintro e w6 ⟨he6, k, rfl, hk⟩
    refine ⟨_, rfl, ?_⟩
    have he6 : Ext w5 w6 := he6
    have hkl := hk.le
    have ho6 := ho5.ext he6
    have hk63 := hk53.ext he6
    refine L.storeAgg (vs := [_, _]) rfl rfl rfl rfl sz_80 (hk63) rfl ?_
    intro w7 hk7 hg7 hs7
    have he7 : Ext w w7 := (he5.trans he6).grw hg7 (by intro g hg; injection hg with hg; omega)
    have ho7 := ho6.kept hg7 (.inr (own_blk_ne ho6 hk63 (by decide)))
    obtain ⟨m1, m2⟩ := nu_made (g := !(x.g == y.g)) (Reads.of_own ho7) hod hol (Nat.le_refl _) (by omega) hk
    refine L.nil ?_
    refine J.ret ?_
    refine finC rfl (run_cell hk7 Try.underlying80 rfl (by kernel_rfl)) ?_
    exact ⟨⟨(!(x.g == y.g)) && decide (0 < k), some ⟨b4, 0, none⟩, k, q, o.take k⟩, rfl, m1, rfl, m2.trans hov, by show k ≤ _; omega, own_cutN ho7 (show k ≤ q by rw [← hol]; exact hkl), he7⟩
end Go.Proofs.Ytnndkepnabddgaa
namespace Go.Proofs.Ytnndkepnabddgaa
set_option maxRecDepth 100000
open Go.RowKit H
open Num
set_option linter.unusedVariables false
def nv : List Int → Int
  | [] => 0
  | x :: t => x + 4294967296 * nv t
theorem drop_getDi {l : List Int} {i : Nat} (h : i < l.length) : l.drop i = l.getD i 0 :: l.drop (i + 1) := by
  rw [List.drop_eq_getElem_cons h, List.getD, List.getElem?_eq_getElem h]
  rfl
theorem rnum (A : Option Addr) (n c : Nat) (a : List Int) (w : World) {N : Nat} (hN : N ≤ w.heap.size) (hr : Reads w N 1 A n (nums .u32 a)) (hl : a.length = n) (hb : InB 4294967296 a) (hn : n ≤ 1000) : Calls Try.prog 37 #[.slice A n c] w fun e w' => ∃ t : Nu, e = .returned t.val ∧ t.At w'.heap.size w' ∧ t.g = false ∧ dv t.d = nv a ∧ t.n ≤ 10 * n ∧ t.Own w.heap.size w' ∧ Ext w w' := by
  refine enter Try.func37 rfl (by kernel_rfl) ?_
  refine J.seq ?_
  refine J.region ?_
  refine L.alloc rfl zr_80 ?_
  intro b1 w1 hb1 hs1 hk1 he1
  refine L.nil ?_
  refine J.seq ?_
  refine J.region ?_
  refine L.va rfl (X.build (l := [_, _]) Evs.nil (bld_run Try.underlying80 (bp_80 Try.underlying80) zr_80 rfl)) ?_
  refine L.alloc rfl zr_80 ?_
  intro b2 w2 hb2 hs2 hk2 he2
  have hk1 := hk1.ext he2
  have he02 := he1.trans he2
  have z2 := he02.le
  refine L.storeAgg (vs := [_, _]) rfl rfl rfl rfl sz_80 (hk2) rfl ?_
  intro w3 hk3 hg3 hs3
  have hk3 : Blk w3 b2 80 (Nu.mk false none 0 0 []).vs.toArray := hk3
  have hk13 := hk1.grown hg3 (fun e => by injection e with e; omega)
  have he3 : Ext w w3 := he02.grw hg3 (by intro g hg; injection hg with hg; omega)
  refine L.nil ?_
  refine J.cut (X := Nu) [4, 6, 7, 8, 9, 10, 11, 12, 13, 14, 15, 16, 17, 18, 19, 20, 21, 22] (fun t => []) (fun t w' => t.At w'.heap.size w' ∧ t.g = false ∧ dv t.d = nv a ∧ t.n ≤ 10 * n ∧ t.Own w.heap.size w' ∧ Blk w' b2 80 t.vs.toArray ∧ Blk w' b1 80 #[.bool false, .slice none 0 0] ∧ Ext w w') ?_ ?_
  · refine J.seq ?_
    refine J.region ?_
    refine L.va rfl (X.move (by conv => lhs; whnf)) ?_
    refine L.va rfl (X.len rfl Try.underlying67) ?_
    refine L.va rfl (X.sub rfl rfl (by omega)) ?_
    refine L.va rfl (X.assign (by conv => lhs; whnf)) ?_
    refine L.nil ?_
    refine J.block ?_
    refine J.loop (X := Nat × Nu) [4, 9, 10, 11, 12, 13, 14, 15, 16, 17, 18, 19, 20, 21, 22] (fun (k, t) => [(4, .int .i64 ((k : Int) - 1))]) (fun (k, t) w' => k ≤ n ∧ t.At w'.heap.size w' ∧ t.g = false ∧ dv t.d = nv (a.drop k) ∧ t.n ≤ 10 * (n - k) ∧ t.Own w.heap.size w' ∧ Blk w' b2 80 t.vs.toArray ∧ Blk w' b1 80 #[.bool false, .slice none 0 0] ∧ Ext w w') (fun (k, _) => k) ((n, ⟨false, none, 0, 0, []⟩)) (At1 (by first | rfl | exact at_int rfl (by omega) | exact at_slice rfl (by omega) | exact at_int rfl (by simp))) ?_ ?_
    · refine ⟨Nat.le_refl _, ⟨Reads.of_own (own_nil w3 0 0 1), dig_nil, fun h => absurd h (by simp), (fun h => by cases h), Nat.le_refl _, Nat.zero_le _⟩, rfl, ?_, Nat.zero_le _, own_nil _ _ _ _, hk3, hk13, he3⟩
      rw [List.drop_eq_nil_iff.2 (by omega)]
      rfl
    · rintro ⟨k, t⟩ g w5 ⟨hk, ht, htg, htv, htn, hto, hk5, hk15, he5⟩
      have z5 := he5.le
      refine J.seq ?_
      refine J.seq ?_
      refine J.region ?_
      refine L.va rfl (X.move (by conv => lhs; whnf)) ?_
      refine L.va rfl (X.geq rfl rfl) ?_
      refine L.nil ?_
      refine J.dec rfl (fun h0 => ?_) (fun h0 => ?_)
      · obtain ⟨i, rfl⟩ : ∃ i, k = i + 1 := ⟨k - 1, by omega⟩
        have hin : i < a.length := by omega
        have hA := hr.some_ (by omega)
        have hr5 := hr.ext he5
        have hbi : 0 ≤ a.getD i 0 ∧ a.getD i 0 < 4294967296 := hb _ (memD hin)
        obtain ⟨ai, hai⟩ := Int.eq_ofNat_of_zero_le hbi.1
        have hld : ∀ w', Ext w5 w' → Ld w' (pA A i) (.int .u32 (ai : Int)) := fun w' hw => by rw [← hai]; exact Ld.num (hr5.ext hw) (by omega)
        refine J.skip ?_
        refine J.seq ?_
        refine J.block ?_
        refine J.draw (ℓ := 10) (S := Ext w5) mixed (fun w6 hS hS_h => ?_)
        have hT := (ht.ext hS).more hS.le
        have tk5 := hk5.ext hS
        refine D.va 0 rfl (by kernel_rfl) (fun _ _ _ h => h) rfl (fun w' hw => X.loadAgg rfl (range_l (hk5.ext hw)) Try.underlying80 rfl (by kernel_rfl)) hS ?_
        refine D.va 3 rfl (by kernel_rfl) (fun _ _ _ h => h) rfl (fun w' hw => X.move (by conv => lhs; whnf)) hS ?_
        refine D.va 4 rfl (by kernel_rfl) (fun _ _ _ h => h) rfl (fun w' hw => X.move (by conv => lhs; whnf)) hS ?_
        refine D.va 5 rfl (by kernel_rfl) (fun _ _ _ h => h) rfl (fun w' hw => X.index1e (j := i) rfl rfl (by omega) Try.underlying67 sz_96 hA (by omega)) hS ?_
        refine D.va 6 rfl (by kernel_rfl) (fun _ _ _ h => h) rfl (fun w' hw => X.load rfl sc_96 (hld w' hw)) hS ?_
        refine D.va 7 rfl (by kernel_rfl) (fun _ _ _ h => h) rfl (fun w' hw => (by first | exact X.convU rfl is_96 Try.underlying44 (by omega) | exact X.convw rfl is_96 Try.underlying44)) hS ?_
        refine D.one 1 (by kernel_rfl) rfl ?_
        refine L.call rfl en_66 rfl (rnat 4294967296 _ (by decide)) ?_
        rintro e wa ⟨p, rfl, hpg, hpA, hpv, hpn, _, hea⟩
        refine ⟨_, rfl, ?_⟩
        have hS1 := (hS).trans hea
        refine L.nil ?_
        refine ⟨fun _ => hS1, ?_⟩
        replace hT := (hT.ext hea).more hea.le
        try replace hqA := (hqA.ext hea).more hea.le
        refine D.one 2 (by kernel_rfl) rfl ?_
        refine L.call rfl en_65 rfl (rmul (Nat.le_refl _) hT hpA (by omega)) ?_
        rintro e wb ⟨r, rfl, hrA, hrg, hrv, hrn, _, heb⟩
        refine ⟨_, rfl, ?_⟩
        have hS2 := (hS1).trans heb
        refine L.nil ?_
        refine ⟨fun _ => hS2, ?_⟩
        try replace hqA := (hqA.ext heb).more heb.le
        replace hT := (hT.ext heb).more heb.le
        refine D.one 8 (by kernel_rfl) rfl ?_
        refine L.call rfl en_66 rfl (rnat ai _ (by omega)) ?_
        rintro e wc ⟨q, rfl, hqg, hqA, hqv, hqn, _, hec⟩
        refine ⟨_, rfl, ?_⟩
        have hS3 := (hS2).trans hec
        refine L.nil ?_
        refine ⟨fun _ => hS3, ?_⟩
        replace hT := (hT.ext hec).more hec.le
        try replace hpA := (hpA.ext hec).more hec.le
        try replace hrA := (hrA.ext hec).more hec.le
        have eb := (he5.trans hS3).le
        refine D.one 9 (by kernel_rfl) rfl ?_
        refine L.call rfl en_36 rfl (radd (Nat.le_refl _) hrA hqA (by rw [hrg, htg, hpg, hqg]; rfl) (by omega)) ?_
        rintro e wd ⟨u, rfl, huA, hug, huv, hun, huO, hed⟩
        refine ⟨_, rfl, ?_⟩
        have hS4 := (hS3).trans hed
        refine L.nil ?_
        refine ⟨fun _ => hS4, ?_⟩
        have bk2 := hk5.ext hS4
        have bk1 := hk15.ext hS4
        have eS := he5.trans hS4
        refine D.one 10 (by kernel_rfl) rfl ?_
        refine L.storeAgg (vs := [_, _]) rfl rfl rfl rfl sz_80 (bk2) rfl ?_
        intro we hke hge hse
        refine L.nil ?_
        refine ⟨fun h => absurd rfl h, ?_⟩
        refine D.done (by kernel_rfl) ?_
        refine J.region ?_
        refine L.va rfl (X.move (by conv => lhs; whnf)) ?_
        refine L.va rfl (X.sub rfl rfl (by omega)) ?_
        refine L.va rfl (X.assign (by conv => lhs; whnf)) ?_
        refine L.nil ?_
        have hke : Blk we b2 80 u.vs.toArray := hke
        have eX : Ext w we := eS.grw hge (by intro g hg; injection hg with hg; omega)
        have bK := bk1.grown hge (fun e => by injection e with e; omega)
        have huO := own_lowN huO eb
        have uO : u.Own w.heap.size we := huO.kept hge (.inr (own_blk_ne huO bk2 (by decide)))
        have uA : u.At we.heap.size we := ⟨Reads.of_own uO, huA.dg, huA.cn, huA.sg, huA.cp, huA.sm⟩
        refine ⟨(i, u), At1 (at_int rfl (by omega)), (by (iterate 15 refine Agr.lk rfl ?_); exact Agr.lk rfl (Agr.hav rfl Agr.rfl')), ?_⟩
        refine ⟨⟨by omega, uA, ?_, ?_, ?_, uO, hke, bK, eX⟩, by show i < i + 1; omega⟩
        · rw [hug, hrg, htg, hpg]
          rfl
        · rw [huv, hrv, htv, hpv, hqv, drop_getDi hin, nv, hai]
          show nv (a.drop (i + 1)) * 4294967296 + (ai : Int) = (ai : Int) + 4294967296 * nv (a.drop (i + 1))
          omega
        · omega
      · obtain rfl : k = 0 := by omega
        refine J.exit ?_
        refine ⟨t, At0 , (by (iterate 2 refine Agr.lk rfl ?_); refine Agr.lk rfl ?_; refine Agr.hav rfl ?_; (iterate 4 refine Agr.lk rfl ?_); exact Agr.rfl'), ?_⟩
        exact ⟨ht, htg, htv, by omega, hto, hk5, hk15, he5⟩
  · rintro t g w5 ⟨ht, htg, htv, htn, hto, hk5, hk15, he5⟩
    refine J.seq ?_
    refine J.region ?_
    refine L.va rfl ((by first | exact X.loadAgg rfl (range_l hk5) Try.underlying80 rfl (by kernel_rfl) | exact X.loadAgg rfl (range_blk hk5) Try.underlying80 rfl (by kernel_rfl))) ?_
    refine L.storeAgg (vs := [_, _]) rfl rfl rfl rfl sz_80 (hk15) rfl ?_
    intro w6 hk6 hg6 hs6
    have hk6 : Blk w6 b1 80 t.vs.toArray := hk6
    have he6 : Ext w w6 := he5.grw hg6 (by intro g hg; injection hg with hg; omega)
    refine L.nil ?_
    refine J.ret ?_
    refine finC rfl (run_cell hk6 Try.underlying80 rfl (by kernel_rfl)) ?_
    have tO : t.Own w.heap.size w6 := hto.kept hg6 (.inr (own_blk_ne hto hk15 (by decide)))
    exact ⟨t, rfl, ⟨Reads.of_own tO, ht.dg, ht.cn, ht.sg, ht.cp, ht.sm⟩, htg, htv, htn, tO, he6⟩
end Go.Proofs.Ytnndkepnabddgaa
namespace Go.Proofs.Ytnndkepnabddgaa
set_option maxRecDepth 10000
set_option linter.unusedVariables false
namespace Wd
abbrev DigW (d : List Int) : Prop := ∀ j, 0 ≤ d.getD j 0 ∧ d.getD j 0 < 4294967296
def CanW (d : List Int) : Prop := 0 < d.length → d.getD (d.length - 1) 0 ≠ 0
theorem digw_mem {d : List Int} : DigW d ↔ ∀ x ∈ d, 0 ≤ x ∧ x < 4294967296 := by
  constructor
  · intro h x hx
    obtain ⟨i, hi, rfl⟩ := List.getElem_of_mem hx
    have := h i
    rwa [List.getD, List.getElem?_eq_getElem hi] at this
  · intro h j
    rcases Nat.lt_or_ge j d.length with hj | hj
    · rw [List.getD, List.getElem?_eq_getElem hj]
      exact h _ (List.getElem_mem _)
    · rw [List.getD, List.getElem?_eq_none hj]
      exact ⟨by decide, by decide⟩
theorem digw_take {d : List Int} (h : DigW d) (k : Nat) : DigW (d.take k) := by
  rw [digw_mem] at *
  exact fun y hy => h y (List.mem_of_mem_take hy)
theorem digw_set {d : List Int} {x : Int} (h : DigW d) (j : Nat) (hx : 0 ≤ x ∧ x < 4294967296) : DigW (d.set j x) := by
  rw [digw_mem] at *
  intro y hy
  rcases List.mem_or_eq_of_mem_set hy with hy | rfl
  · exact h y hy
  · exact hx
theorem nv_snoc (d : List Int) (x : Int) : nv (d ++ [x]) = nv d + x * 4294967296 ^ d.length := by
  induction d with
  | nil => simp [nv]
  | cons a t ih =>
    rw [List.cons_append, nv, nv, ih, List.length_cons, Int.pow_succ]
    grind
theorem nv_nn {d : List Int} (h : DigW d) : 0 ≤ nv d := by
  induction d with
  | nil => simp [nv]
  | cons a t ih =>
    have h0 := h 0
    have ht : DigW t := fun j => by have := h (j + 1); simpa using this
    have := ih ht
    simp at h0
    rw [nv]
    omega
theorem take_getD {d : List Int} {k : Nat} (hk : k < d.length) : d.take (k + 1) = d.take k ++ [d.getD k 0] := by
  rw [List.take_succ_eq_append_getElem hk, List.getD, List.getElem?_eq_getElem hk]
  rfl
theorem nv_take {d : List Int} {k : Nat} (hk : k < d.length) : nv (d.take (k + 1)) = nv (d.take k) + d.getD k 0 * 4294967296 ^ k := by
  rw [take_getD hk, nv_snoc, List.length_take, Nat.min_eq_left (by omega)]
theorem nv_trim {d : List Int} {k : Nat} (hk : k ≤ d.length) (hz : ∀ j, k ≤ j → j < d.length → d.getD j 0 = 0) : nv (d.take k) = nv d := by
  have key : ∀ n, k + n ≤ d.length → nv (d.take (k + n)) = nv (d.take k) := by
    intro n
    induction n with
    | zero => intro _; rfl
    | succ n ih =>
      intro h
      rw [← Nat.add_assoc, nv_take (by omega), ih (by omega), hz (k + n) (by omega) (by omega)]
      omega
  have := key (d.length - k) (by omega)
  rw [show k + (d.length - k) = d.length by omega, List.take_length] at this
  exact this.symm
theorem nv_pad {d : List Int} (k : Nat) (hk : d.length ≤ k) : nv (d.take k) = nv d := by rw [List.take_of_length_le hk]
theorem nv_next {d : List Int} (k : Nat) : nv (d.take (k + 1)) = nv (d.take k) + d.getD k 0 * 4294967296 ^ k := by
  rcases Nat.lt_or_ge k d.length with h | h
  · exact nv_take h
  · rw [List.take_of_length_le (by omega), List.take_of_length_le h, List.getD, List.getElem?_eq_none h]
    simp
theorem canw_one {d e : List Int} (hd : DigW d) (he : DigW e) (cd : CanW d) (ce : CanW e) (h : nv d = nv e) : d = e := by
  induction d generalizing e with
  | nil =>
    cases e with
    | nil => rfl
    | cons b u =>
      exfalso
      have key : ∀ u : List Int, DigW u → CanW u → nv u = 0 → u = [] := by
        intro u
        induction u with
        | nil => intros; rfl
        | cons x t ih =>
          intro hu cu h0
          have hx := hu 0
          have ht : DigW t := fun j => by have := hu (j + 1); simpa using this
          have nn := nv_nn ht
          simp at hx
          rw [nv] at h0
          have ht0 : nv t = 0 := by omega
          have : t = [] := ih ht (by
            intro hl
            have := cu (by simp)
            rw [List.length_cons, Nat.add_sub_cancel] at this
            obtain ⟨m, hm⟩ : ∃ m, t.length = m + 1 := ⟨t.length - 1, by omega⟩
            rw [hm, List.getD_cons_succ] at this
            rw [hm]
            exact this) ht0
          subst this
          have := cu (by simp)
          simp at this
          omega
      have := key _ he ce (by rw [← h]; rfl)
      cases this
  | cons a t ih =>
    cases e with
    | nil =>
      exfalso
      have key : ∀ u : List Int, DigW u → CanW u → nv u = 0 → u = [] := by
        intro u
        induction u with
        | nil => intros; rfl
        | cons x t ih =>
          intro hu cu h0
          have hx := hu 0
          have ht : DigW t := fun j => by have := hu (j + 1); simpa using this
          have nn := nv_nn ht
          simp at hx
          rw [nv] at h0
          have ht0 : nv t = 0 := by omega
          have : t = [] := ih ht (by
            intro hl
            have := cu (by simp)
            rw [List.length_cons, Nat.add_sub_cancel] at this
            obtain ⟨m, hm⟩ : ∃ m, t.length = m + 1 := ⟨t.length - 1, by omega⟩
            rw [hm, List.getD_cons_succ] at this
            rw [hm]
            exact this) ht0
          subst this
          have := cu (by simp)
          simp at this
          omega
      have := key _ hd cd (by rw [h]; rfl)
      cases this
    | cons b u =>
      have ha := hd 0
      have hb := he 0
      have ht : DigW t := fun j => by have := hd (j + 1); simpa using this
      have hu : DigW u := fun j => by have := he (j + 1); simpa using this
      simp at ha hb
      rw [nv, nv] at h
      have e1 : a = b := by omega
      have e2 : nv t = nv u := by omega
      have ct : ∀ {x : Int} {t : List Int}, CanW (x :: t) → CanW t := by
        intro x t c hl
        have := c (by simp)
        rw [List.length_cons, Nat.add_sub_cancel] at this
        obtain ⟨m, hm⟩ : ∃ m, t.length = m + 1 := ⟨t.length - 1, by omega⟩
        rw [hm, List.getD_cons_succ] at this
        rw [hm]
        exact this
      rw [e1, ih ht hu (ct cd) (ct ce) e2]
theorem digw_inb {d : List Int} (h : InB 4294967296 d) : DigW d := digw_mem.2 h
theorem inb_digw {d : List Int} (h : DigW d) : InB 4294967296 d := digw_mem.1 h
theorem nv_bd {d : List Int} (h : DigW d) : nv d < 4294967296 ^ d.length := by
  induction d with
  | nil => simp [nv]
  | cons a t ih =>
    have h0 := h 0
    have ht : DigW t := fun j => by have := h (j + 1); simpa using this
    have := ih ht
    simp at h0
    rw [nv, List.length_cons, Int.pow_succ]
    omega
def wds (x : Nat) : List Int := if h : x = 0 then [] else ((x % 4294967296 : Nat) : Int) :: wds (x / 4294967296)
termination_by x
decreasing_by omega
theorem wds_zero : wds 0 = [] := by rw [wds, dif_pos rfl]
theorem wds_pos {x : Nat} (h : x ≠ 0) : wds x = ((x % 4294967296 : Nat) : Int) :: wds (x / 4294967296) := by rw [wds, dif_neg h]
theorem nv_wds (x : Nat) : nv (wds x) = (x : Int) := by
  induction x using Nat.strongRecOn with
  | ind x ih =>
    by_cases h : x = 0
    · rw [h, wds_zero]; rfl
    · rw [wds_pos h, nv, ih _ (by omega)]
      omega
theorem wds_dig (x : Nat) : DigW (wds x) := by
  rw [digw_mem]
  induction x using Nat.strongRecOn with
  | ind x ih =>
    by_cases h : x = 0
    · rw [h, wds_zero]
      intro y hy
      cases hy
    · rw [wds_pos h]
      intro y hy
      rcases List.mem_cons.1 hy with rfl | hy
      · omega
      · exact ih _ (by omega) y hy
theorem wds_can (x : Nat) : CanW (wds x) := by
  induction x using Nat.strongRecOn with
  | ind x ih =>
    intro hl
    by_cases h : x = 0
    · rw [h, wds_zero] at hl
      cases hl
    · rw [wds_pos h] at hl ⊢
      rw [List.length_cons, Nat.add_sub_cancel]
      by_cases h2 : x / 4294967296 = 0
      · rw [h2, wds_zero]
        show ((x % 4294967296 : Nat) : Int) ≠ 0
        omega
      · have hc := ih (x / 4294967296) (by omega)
        have hp : 0 < (wds (x / 4294967296)).length := by rw [wds_pos h2]; simp
        have := hc hp
        obtain ⟨m, hm⟩ : ∃ m, (wds (x / 4294967296)).length = m + 1 := ⟨_, (Nat.sub_add_cancel hp).symm⟩
        rw [hm] at this ⊢
        rw [List.getD_cons_succ]
        exact this
theorem can_wds {d : List Int} (h : DigW d) (hc : CanW d) : d = wds (nv d).toNat :=
  canw_one h (wds_dig _) hc (wds_can _) (by rw [nv_wds]; have := nv_nn h; omega)
theorem siz_can {d : List Int} {k : Nat} (h : SizN d k) : CanW (d.take k) := by
  intro hl
  have h1 := h.le
  rw [List.length_take, Nat.min_eq_left h1] at hl ⊢
  have h2 := h.nz hl
  rw [List.getD, List.getElem?_take, if_pos (by omega)]
  exact h2
theorem siz_nv {d : List Int} {k : Nat} (h : SizN d k) : nv (d.take k) = nv d := nv_trim h.le h.z
theorem siz_wds {d : List Int} {k : Nat} (hd : DigW d) (h : SizN d k) : d.take k = wds (nv d).toNat := by
  rw [← siz_nv h]
  exact can_wds (digw_take hd k) (siz_can h)
theorem wds_len {x n : Nat} (h : x < 4294967296 ^ n) : (wds x).length ≤ n := by
  induction n generalizing x with
  | zero =>
    have : x = 0 := by simpa using h
    rw [this, wds_zero]
    exact Nat.le_refl _
  | succ n ih =>
    by_cases h0 : x = 0
    · rw [h0, wds_zero]; exact Nat.zero_le _
    · rw [wds_pos h0, List.length_cons]
      rw [Nat.pow_succ] at h
      have := ih (x := x / 4294967296) (by rw [Nat.div_lt_iff_lt_mul (by decide)]; exact h)
      omega
theorem add_st {P N A B s a b c : Int} (h : N + c * P = A + B) (hs : s = a + b + c) : N + s % 4294967296 * P + s / 4294967296 * (P * 4294967296) = (A + a * P) + (B + b * P) := by
  have h1 : s % 4294967296 + 4294967296 * (s / 4294967296) = s := Int.emod_add_mul_ediv s 4294967296
  have h2 : (s % 4294967296 + 4294967296 * (s / 4294967296)) * P = s * P := by rw [h1]
  rw [Int.add_mul] at h2
  have h3 : s / 4294967296 * (P * 4294967296) = 4294967296 * (s / 4294967296) * P := by
    rw [Int.mul_comm P, ← Int.mul_assoc, Int.mul_comm (s / 4294967296) 4294967296]
  have h4 : s * P = a * P + b * P + c * P := by rw [hs, Int.add_mul, Int.add_mul]
  omega
theorem pow_succW (i : Nat) : (4294967296 : Int) ^ (i + 1) = 4294967296 ^ i * 4294967296 := Int.pow_succ ..
theorem set_take {o : List Int} {i : Nat} (x : Int) (hi : i < o.length) : (o.set i x).take (i + 1) = o.take i ++ [x] := by
  rw [List.take_succ_eq_append_getElem (by rw [List.length_set]; exact hi), List.getElem_set_self]
  congr 1
  rw [List.take_set_of_le (Nat.le_refl _)]
theorem nv_set_take {o : List Int} {i : Nat} (x : Int) (hi : i < o.length) : nv ((o.set i x).take (i + 1)) = nv (o.take i) + x * 4294967296 ^ i := by
  rw [set_take x hi, nv_snoc, List.length_take, Nat.min_eq_left (by omega)]
theorem sum_next {a b o : List Int} {i : Nat} {c s : Int} (hi : i < o.length) (h : nv (o.take i) + c * 4294967296 ^ i = nv (a.take i) + nv (b.take i)) (hs : s = a.getD i 0 + b.getD i 0 + c) : nv ((o.set i (s % 4294967296)).take (i + 1)) + s / 4294967296 * 4294967296 ^ (i + 1) = nv (a.take (i + 1)) + nv (b.take (i + 1)) := by
  rw [nv_set_take _ hi, pow_succW, nv_next, nv_next]
  exact add_st h hs
theorem dif_next {a b o : List Int} {i : Nat} {c s : Int} (hi : i < o.length) (h : nv (o.take i) + c * 4294967296 ^ i = nv (a.take i) - nv (b.take i)) (hs : s = a.getD i 0 - b.getD i 0 + c) : nv ((o.set i (s % 4294967296)).take (i + 1)) + s / 4294967296 * 4294967296 ^ (i + 1) = nv (a.take (i + 1)) - nv (b.take (i + 1)) := by
  rw [nv_set_take _ hi, pow_succW, nv_next, nv_next]
  have h' : nv (o.take i) + c * 4294967296 ^ i = nv (a.take i) + -nv (b.take i) := by omega
  have := add_st (a := a.getD i 0) (b := -b.getD i 0) (s := s) h' (by omega)
  rw [Int.neg_mul] at this
  omega
theorem getD_pad {a : List Int} {n i : Nat} (hz : ∀ j, n ≤ j → j < a.length → a.getD j 0 = 0) (hi : n ≤ i) : a.getD i 0 = 0 := by
  rcases Nat.lt_or_ge i a.length with h | h
  · exact hz i hi h
  · rw [List.getD, List.getElem?_eq_none h]; rfl
theorem nv_ge {d : List Int} (h : DigW d) {k : Nat} (hk : d.getD k 0 ≠ 0) : (4294967296 : Int) ^ k ≤ nv d := by
  have hl : k < d.length := by
    apply Decidable.byContradiction
    intro hn
    apply hk
    rw [List.getD, List.getElem?_eq_none (by omega)]
    rfl
  have e : d = d.take (k + 1) ++ d.drop (k + 1) := (List.take_append_drop _ _).symm
  have key : ∀ (x y : List Int), DigW y → nv x ≤ nv (x ++ y) := by
    intro x y hy
    induction x with
    | nil => simp only [List.nil_append, nv]; exact nv_nn hy
    | cons a t ih => simp only [List.cons_append, nv]; omega
  have hd : DigW (d.drop (k + 1)) := digw_mem.2 fun x hx => digw_mem.1 h x (List.mem_of_mem_drop hx)
  have h1 := key (d.take (k + 1)) _ hd
  rw [← e, nv_take hl] at h1
  have h2 := nv_nn (digw_take h k)
  have h3 := h k
  have h4 : (4294967296 : Int) ^ k * 1 ≤ 4294967296 ^ k * d.getD k 0 := Int.mul_le_mul_of_nonneg_left (by omega) (Int.pow_nonneg (by decide))
  rw [Int.mul_one, Int.mul_comm] at h4
  omega
theorem powW_le {i j : Nat} (h : i ≤ j) : (4294967296 : Int) ^ i ≤ 4294967296 ^ j := by
  induction j with
  | zero => obtain rfl : i = 0 := by omega
            exact Int.le_refl _
  | succ j ih =>
    rcases Nat.lt_or_ge i (j + 1) with h1 | h1
    · have h2 := ih (by omega)
      have h3 : (0 : Int) ≤ 4294967296 ^ j := Int.pow_nonneg (by decide)
      rw [pow_succW]
      omega
    · obtain rfl : i = j + 1 := by omega
      exact Int.le_refl _
theorem nv_lt_siz {d : List Int} (h : DigW d) {k : Nat} (hk : SizN d k) : nv d < 4294967296 ^ k := by
  rw [← siz_nv hk]
  have := nv_bd (digw_take h k)
  rwa [List.length_take, Nat.min_eq_left hk.le] at this
theorem siz_ge {d : List Int} (h : DigW d) {k : Nat} (hk : SizN d k) (h0 : 0 < k) : (4294967296 : Int) ^ (k - 1) ≤ nv d := nv_ge h (hk.nz h0)
theorem siz_lt {a b : List Int} (ha : DigW a) (hb : DigW b) {n m : Nat} (hn : SizN a n) (hm : SizN b m) (h : n < m) : nv a < nv b := by
  have h1 := nv_lt_siz ha hn
  have h2 := siz_ge hb hm (by omega)
  have h3 : (4294967296 : Int) ^ n ≤ 4294967296 ^ (m - 1) := powW_le (by omega)
  omega
theorem nv_cmp {a b : List Int} (ha : DigW a) (hb : DigW b) {i : Nat} (hs : ∀ j, i < j → a.getD j 0 = b.getD j 0) (h : a.getD i 0 < b.getD i 0) : nv a < nv b := by
  obtain ⟨n, hn⟩ : ∃ n, n = max a.length b.length := ⟨_, rfl⟩
  have key : ∀ d, nv (a.take (i + 1 + d)) < nv (b.take (i + 1 + d)) := by
    intro d
    induction d with
    | zero =>
      rw [Nat.add_zero, nv_next, nv_next]
      have h1 := nv_bd (digw_take ha i)
      have h2 := nv_nn (digw_take hb i)
      have h3 : (4294967296 : Int) ^ (a.take i).length ≤ 4294967296 ^ i := powW_le (by rw [List.length_take]; omega)
      have h4 : (a.getD i 0 + 1) * 4294967296 ^ i ≤ b.getD i 0 * 4294967296 ^ i := Int.mul_le_mul_of_nonneg_right (by omega) (Int.pow_nonneg (by decide))
      rw [Int.add_mul, Int.one_mul] at h4
      omega
    | succ d ih =>
      rw [← Nat.add_assoc, nv_next, nv_next, hs (i + 1 + d) (by omega)]
      omega
  have h1 := key n
  rw [nv_pad _ (by omega), nv_pad _ (by omega)] at h1
  exact h1
theorem nv_same {a b : List Int} (hs : ∀ j, a.getD j 0 = b.getD j 0) : nv a = nv b := by
  obtain ⟨n, hn⟩ : ∃ n, n = max a.length b.length := ⟨_, rfl⟩
  have key : ∀ d, nv (a.take d) = nv (b.take d) := by
    intro d
    induction d with
    | zero => simp
    | succ d ih => rw [nv_next, nv_next, hs d, ih]
  have h1 := key n
  rwa [nv_pad _ (by omega), nv_pad _ (by omega)] at h1
end Wd
end Go.Proofs.Ytnndkepnabddgaa
namespace Go.Proofs.Ytnndkepnabddgaa
set_option maxRecDepth 100000
open Go.RowKit H
open Exa Flo Wd
set_option linter.unusedVariables false
def CmpN (k x y : Int) : Prop := (k < 0 ↔ x < y) ∧ (0 < k ↔ y < x)
theorem CmpN.lt {x y : Int} (h : x < y) : CmpN (-1) x y := ⟨by omega, by omega⟩
theorem CmpN.gt {x y : Int} (h : y < x) : CmpN 1 x y := ⟨by omega, by omega⟩
theorem CmpN.eq {x y : Int} (h : x = y) : CmpN 0 x y := ⟨by omega, by omega⟩
theorem ncmp (A : Option Addr) (n c : Nat) (a : List Int) (B : Option Addr) (m e : Nat) (b : List Int) (w : World) {N : Nat} (hN : N ≤ w.heap.size) (hra : Reads w N 1 A n (nums .u32 a)) (hrb : Reads w N 1 B m (nums .u32 b)) (la : a.length = n) (lb : b.length = m) (hn : n ≤ maxLen ∧ m ≤ maxLen) (da : DigW a) (db : DigW b) : Calls Try.prog 86 #[.slice A n c, .slice B m e] w fun e w' => (∃ k : Int, e = .returned (.int .i64 k) ∧ CmpN k (nv a) (nv b)) ∧ Ext w w' := by
  have c1 := nsize A n c a w hra la hn.1
  have c2 := nsize B m e b w hrb lb hn.2
  unfold maxLen at hn
  refine enter Try.func86 rfl (by kernel_rfl) ?_
  refine J.seq ?_
  refine J.region ?_
  refine L.va rfl (X.assign (by conv => lhs; whnf)) ?_
  refine L.nil ?_
  refine J.seq ?_
  refine J.region ?_
  refine L.va rfl (X.move (by conv => lhs; whnf)) ?_
  refine L.call rfl en_74 rfl (c1) ?_
  rintro e _ ⟨rfl, x, rfl, hx⟩
  refine ⟨_, rfl, ?_⟩
  refine L.va rfl (X.move (by conv => lhs; whnf)) ?_
  refine L.call rfl en_74 rfl (c2) ?_
  rintro e _ ⟨rfl, y, rfl, hy⟩
  refine ⟨_, rfl, ?_⟩
  have lx := hx.le
  have ly := hy.le
  refine L.va rfl (X.assign (by conv => lhs; whnf)) ?_
  refine L.va rfl (X.assign (by conv => lhs; whnf)) ?_
  refine L.nil ?_
  refine J.seq ?_
  refine J.seq ?_
  refine J.region ?_
  refine L.va rfl (X.move (by conv => lhs; whnf)) ?_
  refine L.va rfl (X.move (by conv => lhs; whnf)) ?_
  refine L.va rfl (X.neq rfl rfl) ?_
  refine L.nil ?_
  refine J.ndec rfl (fun hne => ?_) (fun hne => ?_)
  · refine J.seq ?_
    refine J.seq ?_
    refine J.region ?_
    refine L.va rfl (X.move (by conv => lhs; whnf)) ?_
    refine L.va rfl (X.move (by conv => lhs; whnf)) ?_
    refine L.va rfl (X.lss rfl rfl) ?_
    refine L.nil ?_
    refine J.dec rfl (fun hlt => ?_) (fun hlt => ?_)
    · refine J.seq ?_
      refine J.region ?_
      refine L.va rfl (X.assign (by conv => lhs; whnf)) ?_
      refine L.nil ?_
      refine J.ret ?_
      refine thn_ret <|  thn_ret <| ?_
      refine fin1 ?_
      exact ⟨⟨_, rfl, .lt (siz_lt da db hx hy (by omega))⟩, Ext.refl _⟩
    · refine J.skip ?_
      refine J.seq ?_
      refine J.region ?_
      refine L.va rfl (X.assign (by conv => lhs; whnf)) ?_
      refine L.nil ?_
      refine J.ret ?_
      refine thn_ret <| ?_
      refine fin1 ?_
      exact ⟨⟨_, rfl, .gt (siz_lt db da hy hx (by omega))⟩, Ext.refl _⟩
  · obtain rfl : x = y := by omega
    refine J.skip ?_
    refine J.seq ?_
    refine J.seq ?_
    refine J.region ?_
    refine L.va rfl (X.move (by conv => lhs; whnf)) ?_
    refine L.va rfl (X.sub rfl rfl (by omega)) ?_
    refine L.va rfl (X.assign (by conv => lhs; whnf)) ?_
    refine L.nil ?_
    refine J.block ?_
    refine J.loop (X := Nat) [4, 7, 20, 21, 22, 23, 24, 25, 26, 27, 28, 29, 30, 31, 32, 33, 34, 35, 36, 37, 38, 39, 40, 41] (fun k => [(7, .int .i64 ((k : Int) - 1))]) (fun k w' => k ≤ x ∧ (∀ j, k ≤ j → a.getD j 0 = b.getD j 0) ∧ Ext w w') (fun k => k) (x) (At1 (by first | rfl | exact at_int rfl (by omega) | exact at_slice rfl (by omega) | exact at_int rfl (by simp))) ?_ ?_
    · refine ⟨Nat.le_refl _, fun j h1 => ?_, Ext.refl _⟩
      rw [getD_pad hx.z h1, getD_pad hy.z h1]
    · rintro k g w2 ⟨hk, hz, he⟩
      have z2 := he.le
      have k1 := hra.ext he
      have k2 := hrb.ext he
      refine J.seq ?_
      refine J.seq ?_
      refine J.region ?_
      refine L.va rfl (X.move (by conv => lhs; whnf)) ?_
      refine L.va rfl (X.geq rfl rfl) ?_
      refine L.nil ?_
      refine J.dec rfl (fun h1 => ?_) (fun h1 => ?_)
      · obtain ⟨i, rfl⟩ : ∃ i, k = i + 1 := ⟨k - 1, by omega⟩
        have hA := hra.some_ (by omega)
        have hB := hrb.some_ (by omega)
        refine J.skip ?_
        refine J.seq ?_
        refine J.block ?_
        refine J.seq ?_
        refine J.seq ?_
        refine J.quiet mixed (by kernel_rfl) ?_
        refine Qt.va rfl (fun w' hw => X.move (by conv => lhs; whnf)) ?_
        refine Qt.va rfl (fun w' hw => X.move (by conv => lhs; whnf)) ?_
        refine Qt.va rfl (fun w' hw => X.index1e (j := i) rfl rfl (by omega) Try.underlying67 sz_96 hA (by omega)) ?_
        refine Qt.va rfl (fun w' hw => X.load rfl sc_96 (by first | exact Ld.num (k1.ext hw) (by omega) | exact Ld.num (k2.ext hw) (by omega))) ?_
        refine Qt.va rfl (fun w' hw => X.move (by conv => lhs; whnf)) ?_
        refine Qt.va rfl (fun w' hw => X.move (by conv => lhs; whnf)) ?_
        refine Qt.va rfl (fun w' hw => X.index1e (j := i) rfl rfl (by omega) Try.underlying67 sz_96 hB (by omega)) ?_
        refine Qt.va rfl (fun w' hw => X.load rfl sc_96 (by first | exact Ld.num (k1.ext hw) (by omega) | exact Ld.num (k2.ext hw) (by omega))) ?_
        refine Qt.va rfl (fun w' hw => X.lss rfl rfl) ?_
        refine Qt.nil (fun w3 hq => ?_)
        replace k1 := k1.ext hq
        replace k2 := k2.ext hq
        refine J.dec rfl (fun hl => ?_) (fun hl => ?_)
        · refine J.seq ?_
          refine J.region ?_
          refine L.va rfl (X.assign (by conv => lhs; whnf)) ?_
          refine L.nil ?_
          refine J.ret ?_
          refine thn_ret <|  inB_ret <|  thn_ret <|  thn_ret <|  inB_ret <|  thn_ret <| ?_
          refine fin1 ?_
          exact ⟨⟨_, rfl, .lt (nv_cmp da db (i := i) (fun j hj => hz j hj) hl)⟩, he.trans hq⟩
        · refine J.skip ?_
          refine J.seq ?_
          refine J.quiet mixed (by kernel_rfl) ?_
          refine Qt.va rfl (fun w' hw => X.move (by conv => lhs; whnf)) ?_
          refine Qt.va rfl (fun w' hw => X.move (by conv => lhs; whnf)) ?_
          refine Qt.va rfl (fun w' hw => X.index1e (j := i) rfl rfl (by omega) Try.underlying67 sz_96 hA (by omega)) ?_
          refine Qt.va rfl (fun w' hw => X.load rfl sc_96 (by first | exact Ld.num (k1.ext hw) (by omega) | exact Ld.num (k2.ext hw) (by omega))) ?_
          refine Qt.va rfl (fun w' hw => X.move (by conv => lhs; whnf)) ?_
          refine Qt.va rfl (fun w' hw => X.move (by conv => lhs; whnf)) ?_
          refine Qt.va rfl (fun w' hw => X.index1e (j := i) rfl rfl (by omega) Try.underlying67 sz_96 hB (by omega)) ?_
          refine Qt.va rfl (fun w' hw => X.load rfl sc_96 (by first | exact Ld.num (k1.ext hw) (by omega) | exact Ld.num (k2.ext hw) (by omega))) ?_
          refine Qt.va rfl (fun w' hw => X.gtr rfl rfl) ?_
          refine Qt.nil (fun w4 hq4 => ?_)
          replace k1 := k1.ext hq4
          replace k2 := k2.ext hq4
          refine J.dec rfl (fun hg => ?_) (fun hg => ?_)
          · refine J.seq ?_
            refine J.region ?_
            refine L.va rfl (X.assign (by conv => lhs; whnf)) ?_
            refine L.nil ?_
            refine J.ret ?_
            refine inB_ret <|  thn_ret <|  thn_ret <|  inB_ret <|  thn_ret <| ?_
            refine fin1 ?_
            exact ⟨⟨_, rfl, .gt (nv_cmp db da (i := i) (fun j hj => (hz j hj).symm) hg)⟩, (he.trans hq).trans hq4⟩
          · refine J.skip ?_
            refine J.region ?_
            refine L.va rfl (X.move (by conv => lhs; whnf)) ?_
            refine L.va rfl (X.sub rfl rfl (by omega)) ?_
            refine L.va rfl (X.assign (by conv => lhs; whnf)) ?_
            refine L.nil ?_
            refine ⟨i, At1 (at_int rfl (by omega)), (by (iterate 23 refine Agr.lk rfl ?_); exact Agr.lk rfl (Agr.hav rfl Agr.rfl')), ?_⟩
            refine ⟨⟨by omega, fun j hj => ?_, (he.trans hq).trans hq4⟩, by omega⟩
            rcases Nat.lt_or_ge i j with h | h
            · exact hz j h
            · obtain rfl : j = i := by omega
              omega
      · obtain rfl : k = 0 := by omega
        refine J.exit ?_
        refine J.seq ?_
        refine J.region ?_
        refine L.va rfl (X.assign (by conv => lhs; whnf)) ?_
        refine L.nil ?_
        refine J.ret ?_
        refine fin1 ?_
        exact ⟨⟨_, rfl, .eq (nv_same fun j => hz j (Nat.zero_le _))⟩, he⟩
def BitsOf (x : Int) (b : Nat) : Prop := x < 2 ^ b ∧ (0 < b → (2 : Int) ^ (b - 1) ≤ x)
theorem BitsOf.le {x : Int} {b k : Nat} (h : BitsOf x b) : b ≤ k ↔ x < 2 ^ k := by
  constructor
  · intro hk
    have h1 := h.1
    have h2 : (2 : Int) ^ b ≤ 2 ^ k := by
      have := Nat.pow_le_pow_right (n := 2) (by decide) hk
      have e1 : ((2 ^ b : Nat) : Int) = (2 : Int) ^ b := by push_cast; rfl
      have e2 : ((2 ^ k : Nat) : Int) = (2 : Int) ^ k := by push_cast; rfl
      omega
    omega
  · intro hk
    apply Decidable.byContradiction
    intro hb
    have h1 := h.2 (by omega)
    have h2 : (2 : Int) ^ k ≤ 2 ^ (b - 1) := by
      have := Nat.pow_le_pow_right (n := 2) (by decide) (show k ≤ b - 1 by omega)
      have e1 : ((2 ^ k : Nat) : Int) = (2 : Int) ^ k := by push_cast; rfl
      have e2 : ((2 ^ (b - 1) : Nat) : Int) = (2 : Int) ^ (b - 1) := by push_cast; rfl
      omega
    omega
theorem bits_st {x v : Nat} {j : Nat} (h : v = x / 2 ^ j) : v / 2 = x / 2 ^ (j + 1) := by
  rw [h, Nat.pow_succ, Nat.div_div_eq_div_mul]
theorem bits_fin {d : List Int} {k x j : Nat} (hd : DigW d) (hk : SizN d (k + 1)) (hx : d.getD k 0 = (x : Int)) (h0 : 0 = x / 2 ^ j) (hj : 0 < j → 0 < x / 2 ^ (j - 1)) : BitsOf (nv d) (32 * k + j) := by
  have hx0 : x ≠ 0 := by
    have := hk.nz (by omega)
    rw [Nat.add_sub_cancel] at this
    omega
  have hlt : x < 2 ^ j := by
    have := Nat.div_eq_zero_iff.1 h0.symm
    have p : 0 < 2 ^ j := Nat.pow_pos (by decide)
    omega
  have e1 : nv d = nv (d.take k) + x * 4294967296 ^ k := by
    rw [← siz_nv hk, nv_next, hx]
  have n0 := nv_nn (digw_take hd k)
  have n1 : nv (d.take k) < 4294967296 ^ k := by
    have := nv_bd (digw_take hd k)
    rwa [List.length_take, Nat.min_eq_left (by have := hk.le; omega)] at this
  have ep : (4294967296 : Int) ^ k = 2 ^ (32 * k) := by rw [Int.pow_mul]; rfl
  obtain ⟨P, hP⟩ : ∃ P : Nat, P = 2 ^ (32 * k) := ⟨_, rfl⟩
  have eP : (P : Int) = (4294967296 : Int) ^ k := by rw [ep, hP]; push_cast; rfl
  have hPp : 0 < P := by rw [hP]; exact Nat.pow_pos (by decide)
  rw [e1]
  rw [← eP] at n1 ⊢
  constructor
  · have : ((x + 1) * P : Nat) ≤ 2 ^ j * P := Nat.mul_le_mul_right _ hlt
    rw [Nat.add_mul, Nat.one_mul] at this
    have e2 : ((2 ^ j * P : Nat) : Int) = 2 ^ (32 * k + j) := by rw [hP, ← Nat.pow_add, Nat.add_comm]; push_cast; rfl
    rw [← e2]
    have e4 : ((x * P : Nat) : Int) = (x : Int) * (P : Int) := by push_cast; rfl
    rw [← e4]
    omega
  · intro hb
    have j0 : 0 < j := by
      rcases Nat.eq_zero_or_pos j with h | h
      · exfalso; rw [h] at hlt; simp at hlt; omega
      · exact h
    have hx1 : 2 ^ (j - 1) ≤ x := by
      have := hj j0
      apply Decidable.byContradiction
      intro h
      rw [Nat.div_eq_of_lt (by omega)] at this
      omega
    have : 2 ^ (j - 1) * P ≤ x * P := Nat.mul_le_mul_right _ hx1
    have e2 : ((2 ^ (j - 1) * P : Nat) : Int) = 2 ^ (32 * k + j - 1) := by
      rw [hP, ← Nat.pow_add, show j - 1 + 32 * k = 32 * k + j - 1 by omega]; push_cast; rfl
    rw [← e2]
    have e4 : ((x * P : Nat) : Int) = (x : Int) * (P : Int) := by push_cast; rfl
    rw [← e4]
    omega
theorem nbits (A : Option Addr) (n c : Nat) (a : List Int) (w : World) {N : Nat} (hN : N ≤ w.heap.size) (hra : Reads w N 1 A n (nums .u32 a)) (la : a.length = n) (hn : n ≤ 1000000) (da : DigW a) : Calls Try.prog 83 #[.slice A n c] w fun e w' => (∃ k : Nat, e = .returned (.int .i64 (k : Int)) ∧ BitsOf (nv a) k) ∧ Ext w w' := by
  have c1 := nsize A n c a w hra la (by unfold maxLen; omega)
  refine enter Try.func83 rfl (by kernel_rfl) ?_
  refine J.seq ?_
  refine J.region ?_
  refine L.va rfl (X.assign (by conv => lhs; whnf)) ?_
  refine L.nil ?_
  refine J.seq ?_
  refine J.region ?_
  refine L.va rfl (X.move (by conv => lhs; whnf)) ?_
  refine L.call rfl en_74 rfl (c1) ?_
  rintro e _ ⟨rfl, x, rfl, hx⟩
  refine ⟨_, rfl, ?_⟩
  have lx := hx.le
  refine L.va rfl (X.assign (by conv => lhs; whnf)) ?_
  refine L.nil ?_
  refine J.seq ?_
  refine J.seq ?_
  refine J.region ?_
  refine L.va rfl (X.move (by conv => lhs; whnf)) ?_
  refine L.va rfl (X.eql rfl rfl) ?_
  refine L.nil ?_
  refine J.dec rfl (fun h0 => ?_) (fun h0 => ?_)
  · refine J.seq ?_
    refine J.region ?_
    refine L.va rfl (X.assign (by conv => lhs; whnf)) ?_
    refine L.nil ?_
    refine J.ret ?_
    refine thn_ret <| ?_
    refine fin1 ?_
    refine ⟨⟨0, rfl, ?_, fun h => absurd h (by decide)⟩, Ext.refl _⟩
    have : nv a = 0 := by rw [← siz_nv hx, show x = 0 by omega]; rfl
    rw [this]
    decide
  · obtain ⟨k, rfl⟩ : ∃ k, x = k + 1 := ⟨x - 1, by omega⟩
    have hA := hra.some_ (by omega)
    have d0 := da k
    obtain ⟨x, hxk⟩ : ∃ x : Nat, a.getD k 0 = (x : Int) := ⟨(a.getD k 0).toNat, by omega⟩
    refine J.skip ?_
    refine J.seq ?_
    refine J.region ?_
    refine L.va rfl (X.move (by conv => lhs; whnf)) ?_
    refine L.va rfl (X.sub rfl rfl (by omega)) ?_
    refine L.va rfl (X.mul rfl rfl (by omega)) ?_
    refine L.va rfl (X.assign (by conv => lhs; whnf)) ?_
    refine L.nil ?_
    refine J.seq ?_
    refine J.seq ?_
    refine J.region ?_
    refine L.va rfl (X.move (by conv => lhs; whnf)) ?_
    refine L.va rfl (X.move (by conv => lhs; whnf)) ?_
    refine L.va rfl (X.sub rfl rfl (by omega)) ?_
    refine L.va rfl (X.index1e (j := k) rfl rfl (by omega) Try.underlying67 sz_96 hA (by omega)) ?_
    refine L.va rfl (X.load rfl sc_96 (by first | exact Ld.num hra (by omega))) ?_
    refine L.va rfl (X.assign (by conv => lhs; whnf)) ?_
    refine L.nil ?_
    refine J.block ?_
    rw [hxk]
    refine J.loop (X := Nat × Nat) [4, 5, 18, 19, 20, 21, 22, 23] (fun (j, v) => [(4, .int .i64 ((32 * k + j : Nat) : Int)), (5, .int .u32 (v : Int))]) (fun (j, v) w' => v = x / 2 ^ j ∧ j ≤ 32 ∧ (0 < j → 0 < x / 2 ^ (j - 1)) ∧ Ext w w') (fun (j, v) => v) ((0, x)) (At2 (by first | rfl | exact at_int rfl (by omega) | exact at_slice rfl (by omega) | exact at_int rfl (by simp)) (by first | rfl | exact at_int rfl (by omega) | exact at_slice rfl (by omega) | exact at_int rfl (by simp))) ?_ ?_
    · exact ⟨by simp, by decide, fun h => absurd h (by decide), Ext.refl _⟩
    · rintro ⟨j, v⟩ g w2 ⟨hv, hj, hp, he⟩
      have hv1 : v ≤ x := by rw [hv]; exact Nat.div_le_self _ _
      have hj32 : 0 < v → j < 32 := by
        intro h
        apply Decidable.byContradiction
        intro hj'
        obtain rfl : j = 32 := by omega
        have : x / 2 ^ 32 = 0 := Nat.div_eq_of_lt (by omega)
        omega
      refine J.seq ?_
      refine J.seq ?_
      refine J.region ?_
      refine L.va rfl (X.move (by conv => lhs; whnf)) ?_
      refine L.va rfl (X.gtr rfl rfl) ?_
      refine L.nil ?_
      refine J.dec rfl (fun h1 => ?_) (fun h1 => ?_)
      · have := hj32 (by omega)
        refine J.skip ?_
        refine J.seq ?_
        refine J.block ?_
        refine J.region ?_
        refine L.va rfl (X.move (by conv => lhs; whnf)) ?_
        refine L.va rfl (X.add rfl rfl (by omega)) ?_
        refine L.va rfl (X.assign (by conv => lhs; whnf)) ?_
        refine L.nil ?_
        refine J.region ?_
        refine L.va rfl (X.move (by conv => lhs; whnf)) ?_
        refine L.va rfl (X.shr rfl rfl (by omega)) ?_
        refine L.va rfl (X.assign (by conv => lhs; whnf)) ?_
        refine L.nil ?_
        refine ⟨(j + 1, v / 2), At2 (at_int rfl (by omega)) (at_int rfl (by rw [show min (Int.toNat 1) IntKind.u32.bits = 1 from rfl]; omega)), (by (iterate 8 refine Agr.lk rfl ?_); exact Agr.lk rfl (Agr.hav rfl Agr.rfl')), ?_⟩
        exact ⟨⟨bits_st hv, by omega, fun _ => by rw [Nat.add_sub_cancel, ← hv]; omega, he⟩, by show v / 2 < v; omega⟩
      · obtain rfl : v = 0 := by omega
        refine J.exit ?_
        refine J.seq ?_
        refine J.region ?_
        refine L.va rfl (X.move (by conv => lhs; whnf)) ?_
        refine L.va rfl (X.assign (by conv => lhs; whnf)) ?_
        refine L.nil ?_
        refine J.ret ?_
        refine fin1 ?_
        exact ⟨⟨_, rfl, bits_fin da hx hxk hv hp⟩, he⟩
end Go.Proofs.Ytnndkepnabddgaa
namespace Go.Proofs.Ytnndkepnabddgaa
set_option maxRecDepth 100000
open Go.RowKit H
open Exa Flo Wd
set_option linter.unusedVariables false
theorem zeros_dig (q : Nat) : DigW (List.replicate q 0) := by
  rw [digw_mem]
  intro x hx
  rw [List.eq_of_mem_replicate hx]
  decide
theorem nadd (A : Option Addr) (n c : Nat) (a : List Int) (B : Option Addr) (m e : Nat) (b : List Int) (w : World) {N : Nat} (hN : N ≤ w.heap.size) (hra : Reads w N 1 A n (nums .u32 a)) (hrb : Reads w N 1 B m (nums .u32 b)) (la : a.length = n) (lb : b.length = m) (hn : n ≤ 100000 ∧ m ≤ 100000) (da : DigW a) (db : DigW b) : Calls Try.prog 52 #[.slice A n c, .slice B m e] w fun e w' => ∃ (A' : Option Addr) (k c' : Nat), e = .returned (.slice A' k c') ∧ k = (wds (nv a + nv b).toNat).length ∧ k ≤ c' ∧ w'.ownsRow w.heap.size 96 1 (.slice A' k c') k (nums .u32 (wds (nv a + nv b).toNat)) ∧ Ext w w' := by
  refine enter Try.func52 rfl (by kernel_rfl) ?_
  refine J.seq ?_
  refine J.region ?_
  refine L.va rfl (X.assign (by conv => lhs; whnf)) ?_
  refine L.nil ?_
  refine J.cut (X := (Option Addr × Nat × Nat × List Int) × (Option Addr × Nat × Nat × List Int)) [0, 1, 9, 10, 11, 12, 13, 14, 15] (fun ((A, n, c, a), (B, m, e, b)) => [(0, .slice A n c), (1, .slice B m e)]) (fun ((A1, n1, c1, a1), (B1, m1, e1, b1)) w' => w = w' ∧ Reads w N 1 A1 n1 (nums .u32 a1) ∧ Reads w N 1 B1 m1 (nums .u32 b1) ∧ a1.length = n1 ∧ b1.length = m1 ∧ m1 ≤ n1 ∧ n1 ≤ 100000 ∧ DigW a1 ∧ DigW b1 ∧ nv a1 + nv b1 = nv a + nv b) ?_ ?_
  · refine J.seq ?_
    refine J.region ?_
    refine L.va rfl (X.move (by conv => lhs; whnf)) ?_
    refine L.va rfl (X.len rfl Try.underlying67) ?_
    refine L.va rfl (X.move (by conv => lhs; whnf)) ?_
    refine L.va rfl (X.len rfl Try.underlying67) ?_
    refine L.va rfl (X.lss rfl rfl) ?_
    refine L.nil ?_
    refine J.dec rfl (fun hlt => ?_) (fun hlt => ?_)
    · refine J.region ?_
      refine L.va rfl (X.move (by conv => lhs; whnf)) ?_
      refine L.va rfl (X.move (by conv => lhs; whnf)) ?_
      refine L.va rfl (X.assign (by conv => lhs; whnf)) ?_
      refine L.va rfl (X.assign (by conv => lhs; whnf)) ?_
      refine L.nil ?_
      refine ⟨((B, m, e, b), (A, n, c, a)), At2 (by first | rfl | exact at_int rfl (by omega) | exact at_slice rfl (by omega) | exact at_int rfl (by simp)) (by first | rfl | exact at_int rfl (by omega) | exact at_slice rfl (by omega) | exact at_int rfl (by simp)), (by (iterate 9 refine Agr.lk rfl ?_); exact Agr.rfl'), ?_⟩
      exact ⟨rfl, hrb, hra, lb, la, by omega, hn.2, db, da, Int.add_comm _ _⟩
    · refine J.skip ?_
      refine ⟨((A, n, c, a), (B, m, e, b)), At2 (by first | rfl | exact at_int rfl (by omega) | exact at_slice rfl (by omega) | exact at_int rfl (by simp)) (by first | rfl | exact at_int rfl (by omega) | exact at_slice rfl (by omega) | exact at_int rfl (by simp)), (by (iterate 5 refine Agr.lk rfl ?_); exact Agr.rfl'), ?_⟩
      exact ⟨rfl, hra, hrb, la, lb, by omega, hn.1, da, db, rfl⟩
  · rintro ⟨⟨A1, n1, c1, a1⟩, ⟨B1, m1, e1, b1⟩⟩ g w1 ⟨rfl, hra, hrb, la, lb, hmn, hn, da, db, hsum⟩
    rw [← hsum]
    refine J.seq ?_
    refine J.region ?_
    refine L.va rfl (X.move (by conv => lhs; whnf)) ?_
    refine L.va rfl (X.len rfl Try.underlying67) ?_
    refine L.va rfl (X.add rfl rfl (by omega)) ?_
    refine L.make (q := n1 + 1) (c := n1 + 1) rfl rfl rfl Try.underlying67 el_96 (by omega) ?_
    intro b3 w3 hb3 hs3 hk3 he3
    rw [made_one rfl] at hk3
    have ho3 : w3.ownsRow w.heap.size 96 1 (.slice (some ⟨b3, 0, none⟩) (n1 + 1) (n1 + 1)) (n1 + 1) (nums .u32 (List.replicate (n1 + 1) 0)) := by
      have := blk_own1 (base := w.heap.size) (q := n1 + 1) (l := List.replicate (n1 + 1) (Value.int .u32 0)) hk3 (by omega) (by unfold maxLen; omega) (by simp)
      have e : nums .u32 (List.replicate (n1 + 1) 0) = List.replicate (n1 + 1) (Value.int .u32 0) := by unfold nums; simp
      rw [e]
      exact this
    refine L.va rfl (X.assign (by conv => lhs; whnf)) ?_
    refine L.nil ?_
    refine J.seq ?_
    refine J.region ?_
    refine L.va rfl (X.assign (by conv => lhs; whnf)) ?_
    refine L.nil ?_
    refine J.seq ?_
    refine J.seq ?_
    refine J.region ?_
    refine L.va rfl (X.move (by conv => lhs; whnf)) ?_
    refine L.va rfl (X.len rfl Try.underlying67) ?_
    refine L.va rfl (X.move (by conv => lhs; whnf)) ?_
    refine L.nil ?_
    refine J.block ?_
    refine J.loop (X := Nat × Int × List Int) [6, 7, 8, 22, 23, 24, 25, 26, 27, 28, 29, 30, 31, 32, 33, 34, 35, 36, 37, 38, 39, 40, 41, 42, 43, 44, 45, 46, 47, 48, 49, 50] (fun (i, cy, o) => [(22, .int .i64 (i : Int)), (6, .int .u64 cy)]) (fun (i, cy, o) w' => i ≤ n1 ∧ o.length = n1 + 1 ∧ DigW o ∧ (0 ≤ cy ∧ cy ≤ 1) ∧ nv (o.take i) + cy * 4294967296 ^ i = nv (a1.take i) + nv (b1.take i) ∧ w'.ownsRow w.heap.size 96 1 (.slice (some ⟨b3, 0, none⟩) (n1 + 1) (n1 + 1)) (n1 + 1) (nums .u32 o) ∧ Ext w w') (fun (i, _) => n1 - i) ((0, 0, List.replicate (n1 + 1) 0)) (At2 (by first | rfl | exact at_int rfl (by omega) | exact at_slice rfl (by omega) | exact at_int rfl (by simp)) (by first | rfl | exact at_int rfl (by omega) | exact at_slice rfl (by omega) | exact at_int rfl (by simp))) ?_ ?_
    · exact ⟨Nat.zero_le _, by simp, zeros_dig _, by decide, by simp [nv], ho3, he3⟩
    · rintro ⟨i, cy, o⟩ g w2 ⟨hi, ho, dgo, hcy, hv, own, he⟩
      have z2 := he.le
      have k1 := hra.ext he
      have k2 := hrb.ext he
      refine J.seq ?_
      refine J.region ?_
      refine L.va rfl (X.lss rfl rfl) ?_
      refine L.nil ?_
      refine J.seq ?_
      refine J.dec rfl (fun hlt => ?_) (fun hlt => ?_)
      · have da1 := da i
        have db1 := db i
        obtain ⟨s, hs⟩ : ∃ s, s = a1.getD i 0 + b1.getD i 0 + cy := ⟨_, rfl⟩
        refine J.skip ?_
        refine J.seq ?_
        refine J.block ?_
        refine J.seq ?_
        refine J.region ?_
        refine L.va rfl (X.move (by conv => lhs; whnf)) ?_
        refine L.va rfl (X.assign (by conv => lhs; whnf)) ?_
        refine L.nil ?_
        refine J.seq ?_
        refine J.region ?_
        refine L.va rfl (X.move (by conv => lhs; whnf)) ?_
        refine L.va rfl (X.move (by conv => lhs; whnf)) ?_
        refine L.va rfl ((by first | exact X.index1n rfl rfl Try.underlying67 sz_96 (by first | exact Option.some_ne_none _ | exact k1.some_ (by omega) | exact k2.some_ (by omega)) (by omega) | exact X.index1 rfl rfl Try.underlying67 sz_96 (by first | exact Option.some_ne_none _ | exact k1.some_ (by omega) | exact k2.some_ (by omega)) (by omega))) ?_
        refine L.va rfl (X.load rfl sc_96 (by first | exact Ld.num k1 (by omega) | exact Ld.num k2 (by omega))) ?_
        refine L.va rfl ((by first | exact X.convU rfl is_96 Try.underlying44 (by omega) | exact X.convw rfl is_96 Try.underlying44)) ?_
        refine L.va rfl (X.move (by conv => lhs; whnf)) ?_
        refine L.va rfl (X.addU rfl rfl (by omega)) ?_
        refine L.va rfl (X.assign (by conv => lhs; whnf)) ?_
        refine L.nil ?_
        refine J.cut (X := Unit) [8, 32, 33, 34, 35, 36, 37, 38, 39, 40, 41, 42] (fun _ => [(8, .int .u64 s)]) (fun _ w' => w2 = w') ?_ ?_
        · refine J.seq ?_
          refine J.region ?_
          refine L.va rfl (X.move (by conv => lhs; whnf)) ?_
          refine L.va rfl (X.move (by conv => lhs; whnf)) ?_
          refine L.va rfl (X.len rfl Try.underlying67) ?_
          refine L.va rfl (X.lss rfl rfl) ?_
          refine L.nil ?_
          refine J.dec rfl (fun h9 => ?_) (fun h9 => ?_)
          · refine J.region ?_
            refine L.va rfl (X.move (by conv => lhs; whnf)) ?_
            refine L.va rfl (X.move (by conv => lhs; whnf)) ?_
            refine L.va rfl (X.move (by conv => lhs; whnf)) ?_
            refine L.va rfl ((by first | exact X.index1n rfl rfl Try.underlying67 sz_96 (by first | exact Option.some_ne_none _ | exact k1.some_ (by omega) | exact k2.some_ (by omega)) (by omega) | exact X.index1 rfl rfl Try.underlying67 sz_96 (by first | exact Option.some_ne_none _ | exact k1.some_ (by omega) | exact k2.some_ (by omega)) (by omega))) ?_
            refine L.va rfl (X.load rfl sc_96 (by first | exact Ld.num k1 (by omega) | exact Ld.num k2 (by omega))) ?_
            refine L.va rfl ((by first | exact X.convU rfl is_96 Try.underlying44 (by omega) | exact X.convw rfl is_96 Try.underlying44)) ?_
            refine L.va rfl (X.addU rfl rfl (by omega)) ?_
            refine L.va rfl (X.assign (by conv => lhs; whnf)) ?_
            refine L.nil ?_
            refine ⟨(), At1 (at_int rfl (by rw [hs]; omega)), (by (iterate 12 refine Agr.lk rfl ?_); exact Agr.rfl'), ?_⟩
            rfl
          · have : b1.getD i 0 = 0 := by rw [List.getD, List.getElem?_eq_none (by omega)]; rfl
            refine J.skip ?_
            refine ⟨(), At1 (at_int rfl (by rw [hs]; omega)), (by (iterate 4 refine Agr.lk rfl ?_); exact Agr.rfl'), ?_⟩
            rfl
        · rintro ⟨⟩ g w3 rfl
          refine J.seq ?_
          refine J.region ?_
          refine L.va rfl (X.move (by conv => lhs; whnf)) ?_
          refine L.va rfl (X.move (by conv => lhs; whnf)) ?_
          refine L.va rfl (X.move (by conv => lhs; whnf)) ?_
          refine L.va rfl ((by first | exact X.conv32 rfl is_44 Try.underlying96 (by omega) | exact X.convw rfl is_44 Try.underlying96)) ?_
          refine L.va rfl ((by first | exact X.index1n rfl rfl Try.underlying67 sz_96 (by first | exact Option.some_ne_none _ | exact k1.some_ (by omega) | exact k2.some_ (by omega)) (by omega) | exact X.index1 rfl rfl Try.underlying67 sz_96 (by first | exact Option.some_ne_none _ | exact k1.some_ (by omega) | exact k2.some_ (by omega)) (by omega))) ?_
          refine L.storeON rfl rfl (by conv => lhs; whnf) sz_96 (own) (by omega) ?_
          intro w4 ho4 hg4 hb4 hs4
          refine L.nil ?_
          refine J.region ?_
          refine L.va rfl (X.move (by conv => lhs; whnf)) ?_
          refine L.va rfl (X.shr rfl rfl (by omega)) ?_
          refine L.va rfl (X.assign (by conv => lhs; whnf)) ?_
          refine L.nil ?_
          refine J.region ?_
          refine L.va rfl (X.add rfl rfl (by omega)) ?_
          refine L.va rfl (X.move (by conv => lhs; whnf)) ?_
          refine L.nil ?_
          refine ⟨(i + 1, s / 4294967296, o.set i (s % 4294967296)), At2 (rfl) (at_int rfl (by rfl)), (by (iterate 10 refine Agr.lk rfl ?_); refine Agr.lk rfl ?_; refine Agr.hav rfl ?_; (iterate 11 refine Agr.lk rfl ?_); exact Agr.lk rfl (Agr.hav rfl Agr.rfl')), ?_⟩
          exact ⟨⟨by omega, by rw [List.length_set]; exact ho, digw_set dgo i (by omega), by omega, sum_next (by omega) hv hs, ho4, he.grw hg4 (fun g hg => (own.lt g hg).1)⟩, by show n1 - (i + 1) < n1 - i; omega⟩
      · obtain rfl : i = n1 := by omega
        have ea : nv (a1.take i) = nv a1 := nv_pad _ (by omega)
        have eb : nv (b1.take i) = nv b1 := nv_pad _ (by omega)
        rw [ea, eb] at hv
        refine J.exit ?_
        refine J.seq ?_
        refine J.region ?_
        refine L.va rfl (X.move (by conv => lhs; whnf)) ?_
        refine L.va rfl (X.move (by conv => lhs; whnf)) ?_
        refine L.va rfl (X.len rfl Try.underlying67) ?_
        refine L.va rfl (X.move (by conv => lhs; whnf)) ?_
        refine L.va rfl ((by first | exact X.conv32 rfl is_44 Try.underlying96 (by omega) | exact X.convw rfl is_44 Try.underlying96)) ?_
        refine L.va rfl ((by first | exact X.index1n rfl rfl Try.underlying67 sz_96 (by first | exact Option.some_ne_none _ | exact k1.some_ (by omega) | exact k2.some_ (by omega)) (by omega) | exact X.index1 rfl rfl Try.underlying67 sz_96 (by first | exact Option.some_ne_none _ | exact k1.some_ (by omega) | exact k2.some_ (by omega)) (by omega))) ?_
        refine L.storeON rfl rfl (by conv => lhs; whnf) sz_96 (own) (by omega) ?_
        intro w4 ho4 hg4 hb4 hs4
        have he4 := he.grw hg4 (fun g hg => (own.lt g hg).1)
        have ol : (o.set i cy).length = i + 1 := by rw [List.length_set]; exact ho
        have od : DigW (o.set i cy) := digw_set dgo i (by omega)
        have c1 := nsize (some ⟨b3, 0, none⟩) (i + 1) (i + 1) (o.set i cy) w4 (Reads.of_own ho4) ol (by unfold maxLen; omega)
        have ev : nv (o.set i cy) = nv a1 + nv b1 := by
          have := nv_set_take (o := o) (i := i) cy (by omega)
          rw [List.take_of_length_le (by omega)] at this
          rw [this, hv]
        refine L.nil ?_
        refine J.seq ?_
        refine J.region ?_
        refine L.va rfl (X.move (by conv => lhs; whnf)) ?_
        refine L.va rfl (X.move (by conv => lhs; whnf)) ?_
        refine L.call rfl en_74 rfl (c1) ?_
        rintro e _ ⟨rfl, k, rfl, hk⟩
        refine ⟨_, rfl, ?_⟩
        have hkl := hk.le
        rw [ol] at hkl
        have ew := siz_wds od hk
        rw [ev] at ew
        refine L.va rfl ((by first | exact X.sliceTon rfl rfl Try.underlying67 sz_96 (by omega) | exact X.sliceTo rfl rfl Try.underlying67 sz_96 (by omega))) ?_
        refine L.va rfl (X.assign (by conv => lhs; whnf)) ?_
        refine L.nil ?_
        refine J.ret ?_
        refine fin1 ?_
        have := own_cutN ho4 hkl
        rw [ew] at this
        refine ⟨_, k, _, rfl, ?_, by omega, this, he4⟩
        rw [← ew, List.length_take]
        omega
end Go.Proofs.Ytnndkepnabddgaa
namespace Go.Proofs.Ytnndkepnabddgaa
set_option maxRecDepth 100000
open Go.RowKit H
open Exa Flo Wd
set_option linter.unusedVariables false
theorem wrap64 (m : Int) : IntKind.u64.wrap m = m % 18446744073709551616 := by simp [IntKind.wrap, IntKind.bits, IntKind.signed]
theorem wrap32 (m : Int) : IntKind.u32.wrap m = m % 4294967296 := by simp [IntKind.wrap, IntKind.bits, IntKind.signed]
theorem nsub (A : Option Addr) (n c : Nat) (a : List Int) (B : Option Addr) (m e : Nat) (b : List Int) (w : World) {N : Nat} (hN : N ≤ w.heap.size) (hra : Reads w N 1 A n (nums .u32 a)) (hrb : Reads w N 1 B m (nums .u32 b)) (la : a.length = n) (lb : b.length = m) (hn : n ≤ 100000 ∧ m ≤ 100000) (da : DigW a) (db : DigW b) : Calls Try.prog 84 #[.slice A n c, .slice B m e] w fun e w' => (nv a < nv b → e = .returned (.tuple #[.slice none 0 0, .bool false])) ∧ (nv b ≤ nv a → ∃ (A' : Option Addr) (k c' : Nat), e = .returned (.tuple #[.slice A' k c', .bool true]) ∧ k = (wds (nv a - nv b).toNat).length ∧ k ≤ c' ∧ w'.ownsRow w.heap.size 96 1 (.slice A' k c') k (nums .u32 (wds (nv a - nv b).toNat))) ∧ Ext w w' := by
  have c1 := ncmp A n c a B m e b w hN hra hrb la lb (by unfold maxLen; omega) da db
  refine enter Try.func84 rfl (by kernel_rfl) ?_
  refine J.seq ?_
  refine J.region ?_
  refine L.va rfl (X.assign (by conv => lhs; whnf)) ?_
  refine L.va rfl (X.assign (by conv => lhs; whnf)) ?_
  refine L.nil ?_
  refine J.seq ?_
  refine J.seq ?_
  refine J.region ?_
  refine L.va rfl (X.move (by conv => lhs; whnf)) ?_
  refine L.va rfl (X.move (by conv => lhs; whnf)) ?_
  refine L.call rfl en_86 rfl (c1) ?_
  rintro e w1 ⟨⟨r, rfl, hr⟩, he1⟩
  refine ⟨_, rfl, ?_⟩
  have he1 : Ext w w1 := he1
  have z1 := he1.le
  refine L.va rfl (X.lss rfl rfl) ?_
  refine L.nil ?_
  refine J.dec rfl (fun hlt => ?_) (fun hlt => ?_)
  · have h := hr.1.1 hlt
    refine J.seq ?_
    refine J.region ?_
    refine L.va rfl (X.assign (by conv => lhs; whnf)) ?_
    refine L.va rfl (X.assign (by conv => lhs; whnf)) ?_
    refine L.nil ?_
    refine J.ret ?_
    refine thn_ret <| ?_
    refine fin2 ?_
    exact ⟨fun _ => rfl, fun h' => by omega, he1⟩
  · have hge : nv b ≤ nv a := by
      have := hr.1
      omega
    have c2 := nsize A n c a w1 (hra.ext he1) la (by unfold maxLen; omega)
    refine J.skip ?_
    refine J.seq ?_
    refine J.region ?_
    refine L.va rfl (X.move (by conv => lhs; whnf)) ?_
    refine L.call rfl en_74 rfl (c2) ?_
    rintro e _ ⟨rfl, x, rfl, hx⟩
    refine ⟨_, rfl, ?_⟩
    have lx := hx.le
    refine L.make (q := x) (c := x) rfl rfl rfl Try.underlying67 el_96 (by omega) ?_
    intro b3 w3 hb3 hs3 hk3 he3
    rw [made_one rfl] at hk3
    have he03 := he1.trans he3
    have ho3 : w3.ownsRow w.heap.size 96 1 (.slice (some ⟨b3, 0, none⟩) x x) x (nums .u32 (List.replicate x 0)) := by
      have := blk_own1 (base := w.heap.size) (q := x) (l := List.replicate x (Value.int .u32 0)) hk3 (by omega) (by unfold maxLen; omega) (by simp)
      have e : nums .u32 (List.replicate x 0) = List.replicate x (Value.int .u32 0) := by unfold nums; simp
      rw [e]
      exact this
    refine L.va rfl (X.assign (by conv => lhs; whnf)) ?_
    refine L.nil ?_
    refine J.seq ?_
    refine J.region ?_
    refine L.va rfl (X.assign (by conv => lhs; whnf)) ?_
    refine L.nil ?_
    refine J.seq ?_
    refine J.seq ?_
    refine J.region ?_
    refine L.va rfl (X.move (by conv => lhs; whnf)) ?_
    refine L.va rfl (X.len rfl Try.underlying67) ?_
    refine L.va rfl (X.move (by conv => lhs; whnf)) ?_
    refine L.nil ?_
    refine J.block ?_
    refine J.loop (X := Nat × Int × List Int) [7, 8, 9, 19, 20, 21, 22, 23, 24, 25, 26, 27, 28, 29, 30, 31, 32, 33, 34, 35, 36, 37, 38, 39, 40, 41, 42, 43, 44, 45, 46, 47] (fun (i, cy, o) => [(19, .int .i64 (i : Int)), (7, .int .u64 cy)]) (fun (i, cy, o) w' => i ≤ x ∧ o.length = x ∧ DigW o ∧ (0 ≤ cy ∧ cy ≤ 1) ∧ nv (o.take i) + (-cy) * 4294967296 ^ i = nv (a.take i) - nv (b.take i) ∧ w'.ownsRow w.heap.size 96 1 (.slice (some ⟨b3, 0, none⟩) x x) x (nums .u32 o) ∧ Ext w w') (fun (i, _) => x - i) ((0, 0, List.replicate x 0)) (At2 (by first | rfl | exact at_int rfl (by omega) | exact at_slice rfl (by omega) | exact at_int rfl (by simp)) (by first | rfl | exact at_int rfl (by omega) | exact at_slice rfl (by omega) | exact at_int rfl (by simp))) ?_ ?_
    · exact ⟨Nat.zero_le _, by simp, zeros_dig _, by decide, by simp [nv], ho3, he03⟩
    · rintro ⟨i, cy, o⟩ g w2 ⟨hi, ho, dgo, hcy, hv, own, he⟩
      have z2 := he.le
      have k1 := hra.ext he
      have k2 := hrb.ext he
      refine J.seq ?_
      refine J.region ?_
      refine L.va rfl (X.lss rfl rfl) ?_
      refine L.nil ?_
      refine J.seq ?_
      refine J.dec rfl (fun hlt => ?_) (fun hlt => ?_)
      · have da1 := da i
        have db1 := db i
        obtain ⟨s, hs⟩ : ∃ s, s = a.getD i 0 - b.getD i 0 + (-cy) := ⟨_, rfl⟩
        refine J.skip ?_
        refine J.seq ?_
        refine J.block ?_
        refine J.seq ?_
        refine J.region ?_
        refine L.va rfl (X.move (by conv => lhs; whnf)) ?_
        refine L.va rfl (X.assign (by conv => lhs; whnf)) ?_
        refine L.nil ?_
        refine J.seq ?_
        refine J.region ?_
        refine L.va rfl (X.move (by conv => lhs; whnf)) ?_
        refine L.va rfl (X.move (by conv => lhs; whnf)) ?_
        refine L.va rfl ((by first | exact X.index1n rfl rfl Try.underlying67 sz_96 (by first | exact Option.some_ne_none _ | exact k1.some_ (by omega) | exact k2.some_ (by omega)) (by omega) | exact X.index1 rfl rfl Try.underlying67 sz_96 (by first | exact Option.some_ne_none _ | exact k1.some_ (by omega) | exact k2.some_ (by omega)) (by omega))) ?_
        refine L.va rfl (X.load rfl sc_96 (by first | exact Ld.num k1 (by omega) | exact Ld.num k2 (by omega))) ?_
        refine L.va rfl ((by first | exact X.convU rfl is_96 Try.underlying44 (by omega) | exact X.convw rfl is_96 Try.underlying44)) ?_
        refine L.va rfl (X.move (by conv => lhs; whnf)) ?_
        refine L.va rfl (X.subw rfl rfl) ?_
        refine L.va rfl (X.assign (by conv => lhs; whnf)) ?_
        refine L.nil ?_
        refine J.cut (X := Unit) [9, 29, 30, 31, 32, 33, 34, 35, 36, 37, 38, 39] (fun _ => [(9, .int .u64 (s % 18446744073709551616))]) (fun _ w' => w2 = w') ?_ ?_
        · refine J.seq ?_
          refine J.region ?_
          refine L.va rfl (X.move (by conv => lhs; whnf)) ?_
          refine L.va rfl (X.move (by conv => lhs; whnf)) ?_
          refine L.va rfl (X.len rfl Try.underlying67) ?_
          refine L.va rfl (X.lss rfl rfl) ?_
          refine L.nil ?_
          refine J.dec rfl (fun h9 => ?_) (fun h9 => ?_)
          ·
            refine J.region ?_
            refine L.va rfl (X.move (by conv => lhs; whnf)) ?_
            refine L.va rfl (X.move (by conv => lhs; whnf)) ?_
            refine L.va rfl (X.move (by conv => lhs; whnf)) ?_
            refine L.va rfl ((by first | exact X.index1n rfl rfl Try.underlying67 sz_96 (by first | exact Option.some_ne_none _ | exact k1.some_ (by omega) | exact k2.some_ (by omega)) (by omega) | exact X.index1 rfl rfl Try.underlying67 sz_96 (by first | exact Option.some_ne_none _ | exact k1.some_ (by omega) | exact k2.some_ (by omega)) (by omega))) ?_
            refine L.va rfl (X.load rfl sc_96 (by first | exact Ld.num k1 (by omega) | exact Ld.num k2 (by omega))) ?_
            refine L.va rfl ((by first | exact X.convU rfl is_96 Try.underlying44 (by omega) | exact X.convw rfl is_96 Try.underlying44)) ?_
            refine L.va rfl (X.subw rfl rfl) ?_
            refine L.va rfl (X.assign (by conv => lhs; whnf)) ?_
            refine L.nil ?_
            refine ⟨(), At1 (at_int rfl (by rw [hs, wrap64, wrap64]; omega)), (by (iterate 12 refine Agr.lk rfl ?_); exact Agr.rfl'), ?_⟩
            rfl
          · have : b.getD i 0 = 0 := by rw [List.getD, List.getElem?_eq_none (by omega)]; rfl
            refine J.skip ?_
            refine ⟨(), At1 (at_int rfl (by rw [hs, wrap64]; omega)), (by (iterate 4 refine Agr.lk rfl ?_); exact Agr.rfl'), ?_⟩
            rfl
        · rintro ⟨⟩ g w3 rfl
          refine J.seq ?_
          refine J.region ?_
          refine L.va rfl (X.move (by conv => lhs; whnf)) ?_
          refine L.va rfl (X.move (by conv => lhs; whnf)) ?_
          refine L.va rfl (X.move (by conv => lhs; whnf)) ?_
          refine L.va rfl ((by first | exact X.conv32 rfl is_44 Try.underlying96 (by omega) | exact X.convw rfl is_44 Try.underlying96)) ?_
          refine L.va rfl ((by first | exact X.index1n rfl rfl Try.underlying67 sz_96 (by first | exact Option.some_ne_none _ | exact k1.some_ (by omega) | exact k2.some_ (by omega)) (by omega) | exact X.index1 rfl rfl Try.underlying67 sz_96 (by first | exact Option.some_ne_none _ | exact k1.some_ (by omega) | exact k2.some_ (by omega)) (by omega))) ?_
          refine L.storeON rfl rfl (by conv => lhs; whnf) sz_96 (own) (by omega) ?_
          intro w4 ho4 hg4 hb4 hs4
          rw [wrap32, show s % 18446744073709551616 % 4294967296 = s % 4294967296 by omega] at ho4
          refine L.nil ?_
          refine J.region ?_
          refine L.va rfl (X.move (by conv => lhs; whnf)) ?_
          refine L.va rfl (X.shr rfl rfl (by omega)) ?_
          refine L.va rfl (X.assign (by conv => lhs; whnf)) ?_
          refine L.nil ?_
          refine J.region ?_
          refine L.va rfl (X.add rfl rfl (by omega)) ?_
          refine L.va rfl (X.move (by conv => lhs; whnf)) ?_
          refine L.nil ?_
          refine ⟨(i + 1, -(s / 4294967296), o.set i (s % 4294967296)), At2 (rfl) (at_int rfl (by rw [show min (Int.toNat 63) IntKind.u64.bits = 63 from rfl]; omega)), (by (iterate 10 refine Agr.lk rfl ?_); refine Agr.lk rfl ?_; refine Agr.hav rfl ?_; (iterate 11 refine Agr.lk rfl ?_); exact Agr.lk rfl (Agr.hav rfl Agr.rfl')), ?_⟩
          exact ⟨⟨by omega, by rw [List.length_set]; exact ho, digw_set dgo i (by omega), by omega, by rw [Int.neg_neg]; exact dif_next (by omega) hv hs, ho4, he.grw hg4 (fun g hg => (own.lt g hg).1)⟩, by show x - (i + 1) < x - i; omega⟩
      · obtain rfl : i = x := by omega
        have ea : nv (a.take i) = nv a := siz_nv hx
        have c3 := nsize (some ⟨b3, 0, none⟩) i i o w2 (Reads.of_own own) ho (by unfold maxLen; omega)
        have bB := nv_bd db
        have nb := nv_nn (digw_take db i)
        have no := nv_bd (digw_take dgo i)
        have ot : o.take i = o := List.take_of_length_le (by omega)
        rw [ot] at hv no
        rw [ho] at no
        have hbt : nv (b.take i) = nv b := by
          have hz : ∀ j, i ≤ j → b.getD j 0 = 0 := fun j hj => by
            apply Decidable.byContradiction
            intro h
            have h1 := nv_ge db h
            have h2 := nv_lt_siz da hx
            have h3 := powW_le hj
            omega
          rcases Nat.lt_or_ge i b.length with g | g
          · exact nv_trim (by omega) fun j h1 h2 => hz j h1
          · exact nv_pad _ g
        rw [ea, hbt] at hv
        have hcy0 : cy = 0 := by
          apply Decidable.byContradiction
          intro h
          obtain rfl : cy = 1 := by omega
          omega
        rw [hcy0] at hv
        have ev : nv o = nv a - nv b := by omega
        refine J.exit ?_
        refine J.seq ?_
        refine J.region ?_
        refine L.va rfl (X.move (by conv => lhs; whnf)) ?_
        refine L.va rfl (X.move (by conv => lhs; whnf)) ?_
        refine L.call rfl en_74 rfl (c3) ?_
        rintro e _ ⟨rfl, k, rfl, hk⟩
        refine ⟨_, rfl, ?_⟩
        have hkl := hk.le
        rw [ho] at hkl
        have ew := siz_wds dgo hk
        rw [ev] at ew
        refine L.va rfl ((by first | exact X.sliceTon rfl rfl Try.underlying67 sz_96 (by omega) | exact X.sliceTo rfl rfl Try.underlying67 sz_96 (by omega))) ?_
        refine L.va rfl (X.assign (by conv => lhs; whnf)) ?_
        refine L.va rfl (X.assign (by conv => lhs; whnf)) ?_
        refine L.nil ?_
        refine J.ret ?_
        refine fin2 ?_
        have := own_cutN own hkl
        rw [ew] at this
        refine ⟨fun h => by omega, fun _ => ⟨_, k, _, rfl, ?_, by omega, this⟩, he⟩
        rw [← ew, List.length_take]
        omega
structure LowN (a : List Int) (k : Nat) : Prop where
  z : ∀ j, j < k → a.getD j 0 = 0
  nz : a.getD k 0 ≠ 0 ∨ k = 0 ∧ ∀ j, a.getD j 0 = 0
theorem LowN.one {a : List Int} {x y : Nat} (hx : LowN a x) (hy : LowN a y) : x = y := by
  rcases Nat.lt_trichotomy x y with h | h | h
  · rcases hx.nz with g | ⟨rfl, g⟩
    · exact absurd (hy.z _ h) g
    · rcases hy.nz with k | ⟨rfl, k⟩
      · exact absurd (g _) k
      · rfl
  · exact h
  · rcases hy.nz with g | ⟨rfl, g⟩
    · exact absurd (hx.z _ h) g
    · rcases hx.nz with k | ⟨rfl, k⟩
      · exact absurd (g _) k
      · rfl
theorem LowN.le {a : List Int} {x : Nat} (h : LowN a x) : x ≤ a.length := by
  rcases h.nz with g | ⟨rfl, g⟩
  · apply Decidable.byContradiction
    intro k
    exact g (by rw [List.getD, List.getElem?_eq_none (by omega)]; rfl)
  · exact Nat.zero_le _
theorem nnoughts (A : Option Addr) (n c : Nat) (a : List Int) (w : World) {N : Nat} (hN : N ≤ w.heap.size) (hra : Reads w N 1 A n (nums .u32 a)) (la : a.length = n) (hn : n ≤ 1000000) (da : DigW a) : Calls Try.prog 78 #[.slice A n c] w fun e w' => (∃ k : Nat, e = .returned (.int .i64 (k : Int)) ∧ LowN a (k / 32)) ∧ w = w' := by
  refine enter Try.func78 rfl (by kernel_rfl) ?_
  refine J.seq ?_
  refine J.region ?_
  refine L.va rfl (X.assign (by conv => lhs; whnf)) ?_
  refine L.nil ?_
  refine J.seq ?_
  refine J.seq ?_
  refine J.region ?_
  refine L.va rfl (X.move (by conv => lhs; whnf)) ?_
  refine L.va rfl (X.len rfl Try.underlying67) ?_
  refine L.va rfl (X.move (by conv => lhs; whnf)) ?_
  refine L.nil ?_
  refine J.block ?_
  refine J.loop (X := Nat) [2, 3, 4, 5, 8, 9, 10, 11, 12, 13, 14, 15, 16, 17, 18, 19, 20, 21, 22, 23, 24, 25] (fun i => [(8, .int .i64 (i : Int))]) (fun i w' => i ≤ n ∧ (∀ j, j < i → a.getD j 0 = 0) ∧ w = w') (fun i => n - i) (0) (At1 (by first | rfl | exact at_int rfl (by omega) | exact at_slice rfl (by omega) | exact at_int rfl (by simp))) ?_ ?_
  · exact ⟨Nat.zero_le _, fun j hj => absurd hj (by omega), rfl⟩
  · rintro i g w2 ⟨hi, hz, rfl⟩
    refine J.seq ?_
    refine J.region ?_
    refine L.va rfl (X.lss rfl rfl) ?_
    refine L.nil ?_
    refine J.seq ?_
    refine J.dec rfl (fun hlt => ?_) (fun hlt => ?_)
    · have d0 := da i
      obtain ⟨x, hx⟩ : ∃ x : Nat, a.getD i 0 = (x : Int) := ⟨(a.getD i 0).toNat, by omega⟩
      refine J.skip ?_
      refine J.seq ?_
      refine J.block ?_
      refine J.seq ?_
      refine J.region ?_
      refine L.va rfl (X.move (by conv => lhs; whnf)) ?_
      refine L.va rfl ((by first | exact X.index1n rfl rfl Try.underlying67 sz_96 (by first | exact Option.some_ne_none _ | exact hra.some_ (by omega)) (by omega) | exact X.index1 rfl rfl Try.underlying67 sz_96 (by first | exact Option.some_ne_none _ | exact hra.some_ (by omega)) (by omega))) ?_
      refine L.va rfl (X.load rfl sc_96 (by first | exact Ld.num hra (by omega))) ?_
      refine L.va rfl (X.assign (by conv => lhs; whnf)) ?_
      refine L.va rfl (X.assign (by conv => lhs; whnf)) ?_
      refine L.nil ?_
      refine J.seq ?_
      refine J.seq ?_
      refine J.region ?_
      refine L.va rfl (X.move (by conv => lhs; whnf)) ?_
      refine L.va rfl (X.eql rfl rfl) ?_
      refine L.nil ?_
      refine J.dec rfl (fun h0 => ?_) (fun h0 => ?_)
      · refine J.exit ?_
        refine J.region ?_
        refine L.va rfl (X.add rfl rfl (by omega)) ?_
        refine L.va rfl (X.move (by conv => lhs; whnf)) ?_
        refine L.nil ?_
        refine ⟨i + 1, At1 (by first | rfl | exact at_int rfl (by omega) | exact at_slice rfl (by omega) | exact at_int rfl (by simp)), (by (iterate 10 refine Agr.lk rfl ?_); exact Agr.lk rfl (Agr.hav rfl Agr.rfl')), ?_⟩
        refine ⟨⟨by omega, fun j hj => ?_, rfl⟩, by omega⟩
        rcases Nat.lt_or_ge j i with h | h
        · exact hz j h
        · obtain rfl : j = i := by omega
          exact h0
      · rw [hx]
        refine J.skip ?_
        refine J.seq ?_
        refine J.region ?_
        refine L.va rfl (X.move (by conv => lhs; whnf)) ?_
        refine L.va rfl (X.mul rfl rfl (by omega)) ?_
        refine L.va rfl (X.assign (by conv => lhs; whnf)) ?_
        refine L.nil ?_
        refine J.seq ?_
        refine J.block ?_
        refine J.loop (X := Nat × Nat) [4, 5, 17, 18, 19, 20, 21, 22, 23] (fun (j, v) => [(5, .int .i64 ((32 * i + j : Nat) : Int)), (4, .int .u32 (v : Int))]) (fun (j, v) w' => v * 2 ^ j = x ∧ 0 < v ∧ w = w') (fun (j, v) => v) ((0, x)) (At2 (by first | rfl | exact at_int rfl (by omega) | exact at_slice rfl (by omega) | exact at_int rfl (by simp)) (by first | rfl | exact at_int rfl (by omega) | exact at_slice rfl (by omega) | exact at_int rfl (by simp))) ?_ ?_
        · exact ⟨by simp, by omega, rfl⟩
        · rintro ⟨j, v⟩ g w2 ⟨hv, hv0, rfl⟩
          have hvx : v ≤ x := by rw [← hv]; exact Nat.le_mul_of_pos_right _ (Nat.pow_pos (by decide))
          have hj : j < 32 := by
            have h1 : 2 ^ j ≤ x := by rw [← hv]; exact Nat.le_mul_of_pos_left _ hv0
            have h2 : 2 ^ j < 2 ^ 32 := by omega
            exact (Nat.pow_lt_pow_iff_right (by decide)).1 h2
          refine J.seq ?_
          refine J.seq ?_
          refine J.region ?_
          refine L.va rfl (X.move (by conv => lhs; whnf)) ?_
          refine L.va rfl (X.rem rfl rfl (by omega)) ?_
          refine L.va rfl (X.eql rfl rfl) ?_
          refine L.nil ?_
          refine J.dec rfl (fun h1 => ?_) (fun h1 => ?_)
          · refine J.skip ?_
            refine J.block ?_
            refine J.seq ?_
            refine J.region ?_
            refine L.va rfl (X.move (by conv => lhs; whnf)) ?_
            refine L.va rfl (X.shr rfl rfl (by omega)) ?_
            refine L.va rfl (X.assign (by conv => lhs; whnf)) ?_
            refine L.nil ?_
            refine J.region ?_
            refine L.va rfl (X.move (by conv => lhs; whnf)) ?_
            refine L.va rfl (X.add rfl rfl (by omega)) ?_
            refine L.va rfl (X.assign (by conv => lhs; whnf)) ?_
            refine L.nil ?_
            refine ⟨(j + 1, v / 2), At2 (at_int rfl (by omega)) (at_int rfl (by rw [show min (Int.toNat 1) IntKind.u32.bits = 1 from rfl]; omega)), (by (iterate 9 refine Agr.lk rfl ?_); exact Agr.lk rfl (Agr.hav rfl Agr.rfl')), ?_⟩
            refine ⟨⟨?_, by omega, rfl⟩, by show v / 2 < v; omega⟩
            rw [← hv, Nat.pow_succ, Nat.mul_comm (2 ^ j) 2, ← Nat.mul_assoc, show v / 2 * 2 = v by omega]
          · refine J.exit ?_
            refine J.seq ?_
            refine J.region ?_
            refine L.va rfl (X.move (by conv => lhs; whnf)) ?_
            refine L.va rfl (X.assign (by conv => lhs; whnf)) ?_
            refine L.nil ?_
            refine J.ret ?_
            refine inB_ret <|  thn_ret <|  thn_ret <|  inB_ret <|  thn_ret <| ?_
            refine fin1 ?_
            exact ⟨⟨_, rfl, by rw [show (32 * i + j) / 32 = i by omega]; exact ⟨hz, .inl h0⟩⟩, rfl⟩
    · refine J.exit ?_
      refine J.seq ?_
      refine J.region ?_
      refine L.va rfl (X.assign (by conv => lhs; whnf)) ?_
      refine L.nil ?_
      refine J.ret ?_
      refine fin1 ?_
      exact ⟨⟨0, rfl, ⟨fun j hj => absurd hj (by omega), .inr ⟨rfl, fun j => by
        rcases Nat.lt_or_ge j i with h | h
        · exact hz j h
        · rw [List.getD, List.getElem?_eq_none (by omega)]; rfl⟩⟩⟩, rfl⟩
end Go.Proofs.Ytnndkepnabddgaa
namespace Go.Proofs.Ytnndkepnabddgaa
set_option maxRecDepth 100000
open Go.RowKit H
open Exa
set_option linter.unusedVariables false
def ReadR (b : List Int) (w : World) (e : Ending) (w' : World) : Prop :=
  ∃ p : Value, e = .returned (.tuple #[p, .int .i64 (readE b)]) ∧ Ext w w' ∧ (readE b = 0 →
    ∃ (g : Nat) (A' : Option Addr) (q c' : Nat), p = .pointer (some ⟨g, 0, none⟩) ∧ w.heap.size ≤ g ∧ Blk w' g 127 #[.bool true, .int .u8 (bits .andNot .u8 (b.getD 0 0) 32), .bool (!decide (bits .and .u8 (b.getD 0 0) 32 = 0)), .slice A' q c'] ∧ q ≤ 70 ∧ (magOf b).length = q ∧ w'.ownsRow w.heap.size 96 1 (.slice A' q c') q (nums .u32 (magOf b)))
theorem ReadR.bad {b : List Int} {w w' : World} {e : Ending} {z : Int} (hz : readE b = z) (h0 : z ≠ 0) (he : e = .returned (.tuple #[.pointer none, .int .i64 z])) (hx : Ext w w') : ReadR b w e w' := ⟨_, by rw [he, hz], hx, fun h => absurd (hz.symm.trans h) h0⟩
theorem eread (A : Option Addr) (n c : Nat) (b : List Int) (w : World) {N : Nat} (hN : N ≤ w.heap.size) (hr : Reads w N 1 A n (nums .u8 b)) (hb : InB 256 b) (hl : b.length = n) (hn : n ≤ 1000000) : Calls Try.prog 53 #[.slice A n c] w (ReadR b w) := by
  have b0 := at_b hb 0
  have b1 := at_b hb 1
  have b2 := at_b hb 2
  have c1 := ehead A n c b w hr hb hl
  refine enter Try.func53 rfl (by kernel_rfl) ?_
  refine J.seq ?_
  refine J.region ?_
  refine L.va rfl (X.assign (by conv => lhs; whnf)) ?_
  refine L.va rfl (X.assign (by conv => lhs; whnf)) ?_
  refine L.nil ?_
  refine J.seq ?_
  refine J.seq ?_
  refine J.region ?_
  refine L.va rfl (X.move (by conv => lhs; whnf)) ?_
  refine L.call rfl en_75 rfl (c1) ?_
  rintro e w1 ⟨rfl, he1⟩
  refine ⟨_, rfl, ?_⟩
  have he1 : Ext w w1 := he1
  have z1 := he1.le
  refine L.va rfl (X.assign (by conv => lhs; whnf)) ?_
  refine L.nil ?_
  refine J.seq ?_
  refine J.region ?_
  refine L.va rfl (X.move (by conv => lhs; whnf)) ?_
  refine L.va rfl (X.neq rfl rfl) ?_
  refine L.nil ?_
  refine J.ndec rfl (fun h0 => ?_) (fun h0 => ?_)
  · refine J.seq ?_
    refine J.region ?_
    refine L.va rfl (X.move (by conv => lhs; whnf)) ?_
    refine L.va rfl (X.assign (by conv => lhs; whnf)) ?_
    refine L.va rfl (X.assign (by conv => lhs; whnf)) ?_
    refine L.nil ?_
    refine J.ret ?_
    refine thn_ret <| ?_
    refine fin2 ?_
    exact ReadR.bad ((readE_h h0).trans (headE_6 h0).symm) h0 rfl he1
  · have h0 : headE b = 0 := by omega
    have n3 : ¬ H3 b := fun h => by unfold headE at h0; rw [if_pos (.inr (.inr h))] at h0; cases h0
    refine J.skip ?_
    refine J.seq ?_
    refine J.seq ?_
    refine J.region ?_
    refine L.va rfl (X.move (by conv => lhs; whnf)) ?_
    refine L.va rfl (X.len rfl Try.underlying37) ?_
    refine L.va rfl (X.lss rfl rfl) ?_
    refine L.nil ?_
    refine J.dec rfl (fun h3 => ?_) (fun h3 => ?_)
    · refine J.seq ?_
      refine J.region ?_
      refine L.va rfl (X.assign (by conv => lhs; whnf)) ?_
      refine L.va rfl (X.assign (by conv => lhs; whnf)) ?_
      refine L.nil ?_
      refine J.ret ?_
      refine thn_ret <| ?_
      refine fin2 ?_
      exact ReadR.bad (readE_s h0 (by omega)) (by decide) rfl he1
    · have h3 : ¬ b.length < 3 := by omega
      obtain ⟨lo, elo⟩ := Int.eq_ofNat_of_zero_le b1.1
      obtain ⟨m, em⟩ := Int.eq_ofNat_of_zero_le b2.1
      have hq : lo + m ≤ 70 := by
        apply Decidable.byContradiction
        intro h
        exact n3 ⟨by omega, .inl (by omega)⟩
      have hA := hr.some_ (by omega)
      have hr1 := hr.ext he1
      refine J.skip ?_
      refine J.cut (X := Unit) [5, 6, 19, 20, 21, 22, 23, 24, 25, 26] (fun _ => [(5, .int .i64 (lo : Int)), (6, .int .i64 (m : Int))]) (fun _ w' => Ext w1 w') ?_ ?_
      ·
        refine J.draw (ℓ := 1000000) (S := Ext w1) mixed (fun w2 hS hS_h => ?_)
        refine D.va 0 rfl (by kernel_rfl) (fun _ _ _ h => h) rfl (fun w' hw => X.move (by conv => lhs; whnf)) hS ?_
        refine D.va 1 rfl (by kernel_rfl) (fun _ _ _ h => h) rfl (fun w' hw => X.index1n (j := 1) rfl rfl Try.underlying37 sz_5 (by first | exact Option.some_ne_none _ | exact hr1.some_ (by omega) | exact hA) (by omega)) hS ?_
        refine D.va 2 rfl (by kernel_rfl) (fun _ _ _ h => h) rfl (fun w' hw => X.load rfl sc_5 (by first | exact Ld.num (hr1.ext hw) (by omega) | exact hA)) hS ?_
        refine D.va 3 rfl (by kernel_rfl) (fun _ _ _ h => h) rfl (fun w' hw => (by first | exact X.convI rfl is_5 Try.underlying3 (by omega) | exact X.convw rfl is_5 Try.underlying3)) hS ?_
        refine D.va 4 rfl (by kernel_rfl) (fun _ _ _ h => h) rfl (fun w' hw => X.move (by conv => lhs; whnf)) hS ?_
        refine D.va 5 rfl (by kernel_rfl) (fun _ _ _ h => h) rfl (fun w' hw => X.index1n (j := 2) rfl rfl Try.underlying37 sz_5 (by first | exact Option.some_ne_none _ | exact hr1.some_ (by omega) | exact hA) (by omega)) hS ?_
        refine D.va 6 rfl (by kernel_rfl) (fun _ _ _ h => h) rfl (fun w' hw => X.load rfl sc_5 (by first | exact Ld.num (hr1.ext hw) (by omega) | exact hA)) hS ?_
        refine D.va 7 rfl (by kernel_rfl) (fun _ _ _ h => h) rfl (fun w' hw => (by first | exact X.convI rfl is_5 Try.underlying3 (by omega) | exact X.convw rfl is_5 Try.underlying3)) hS ?_
        refine D.va 8 rfl (by kernel_rfl) (fun _ _ _ h => h) rfl (fun w' hw => X.assign (by conv => lhs; whnf)) hS ?_
        refine D.va 9 rfl (by kernel_rfl) (fun _ _ _ h => h) rfl (fun w' hw => X.assign (by conv => lhs; whnf)) hS ?_
        refine D.done (by kernel_rfl) ?_
        replace hr1 := hr1.ext hS
        refine ⟨(), At2 (at_int rfl elo) (at_int rfl em), (by (iterate 10 refine Agr.lk rfl ?_); exact Agr.rfl'), ?_⟩
        exact hS
      · rintro ⟨⟩ g w2 he2
        refine J.seq ?_
        refine J.region ?_
        refine L.va rfl (X.move (by conv => lhs; whnf)) ?_
        refine L.va rfl (X.move (by conv => lhs; whnf)) ?_
        refine L.va rfl (X.add rfl rfl (by omega)) ?_
        refine L.make (q := lo + m) (c := lo + m) rfl rfl rfl Try.underlying67 el_96 (by omega) ?_
        intro b3 w3 hb3 hs3 hk3 he3
        rw [made_one rfl] at hk3
        have he03 := (he1.trans he2).trans he3
        have z2 := (he1.trans he2).le
        have ho3 : w3.ownsRow w.heap.size 96 1 (.slice (some ⟨b3, 0, none⟩) (lo + m) (lo + m)) (lo + m) (nums .u32 (mg b (lo + m) 0)) := by
          have := blk_own1 (base := w.heap.size) (q := lo + m) (l := List.replicate (lo + m) (Value.int .u32 0)) hk3 (by omega) (by unfold maxLen; omega) (by simp)
          have e : nums .u32 (mg b (lo + m) 0) = List.replicate (lo + m) (Value.int .u32 0) := by unfold mg nums; simp
          rw [e]
          exact this
        refine L.va rfl (X.assign (by conv => lhs; whnf)) ?_
        refine L.nil ?_
        refine J.seq ?_
        refine J.seq ?_
        refine J.region ?_
        refine L.va rfl (X.move (by conv => lhs; whnf)) ?_
        refine L.va rfl (X.move (by conv => lhs; whnf)) ?_
        refine L.nil ?_
        refine J.block ?_
        refine J.loop (X := Nat) [2, 3, 8, 9, 10, 32, 33, 34, 35, 36, 37, 38, 39, 40, 41, 42, 43, 44, 45, 46, 47, 48, 49, 50, 51, 52, 53, 54, 55, 56, 57, 58, 59, 60, 61, 62, 63, 64, 65, 66, 67, 68, 69, 70, 71, 72, 73, 74, 75, 76, 77, 78, 79, 80, 81, 82, 83, 84, 85, 86, 87, 88, 89, 90, 91, 92, 93, 94, 95, 96, 97] (fun i => [(32, .int .i64 (i : Int))]) (fun i w' => i ≤ m ∧ (∀ j, j < i → stepE b m j = 0) ∧ w'.ownsRow w.heap.size 96 1 (.slice (some ⟨b3, 0, none⟩) (lo + m) (lo + m)) (lo + m) (nums .u32 (mg b (lo + m) i)) ∧ Ext w w') (fun i => m - i) (0) (At1 (by first | rfl | exact at_int rfl (by omega) | exact at_slice rfl (by omega) | exact at_int rfl (by simp))) ?_ ?_
        · exact ⟨Nat.zero_le _, fun j hj => absurd hj (by omega), ho3, he03⟩
        · rintro i g w4 ⟨hi, hs, ho4, he4⟩
          have z4 := he4.le
          have bad : ∀ z : Int, z ≠ 0 → i < m → stepE b m i = z → readE b = z := fun z hz him e => by
            have := wordsE_at him hs (by rw [e]; exact hz)
            rw [readE_w h0 h3 em (by rw [this, e]; exact hz), this, e]
          refine J.seq ?_
          refine J.region ?_
          refine L.va rfl (X.lss rfl rfl) ?_
          refine L.nil ?_
          refine J.seq ?_
          refine J.dec rfl (fun hlt => ?_) (fun hlt => ?_)
          · have him : i < m := by omega
            have hml := mg_len b (show i ≤ lo + m by omega)
            refine J.skip ?_
            refine J.seq ?_
            refine J.block ?_
            refine J.seq ?_
            refine J.region ?_
            refine L.va rfl (X.move (by conv => lhs; whnf)) ?_
            refine L.va rfl (X.assign (by conv => lhs; whnf)) ?_
            refine L.nil ?_
            refine J.cut (X := Unit) [2, 3, 9, 10, 35, 36, 37, 38, 39, 40, 41, 42, 43, 44, 45, 46, 47, 48, 49, 50, 51, 52, 53, 54, 55, 56, 57, 58, 59, 60, 61, 62, 63, 64, 65, 66, 67, 68, 69, 70, 71] (fun _ => []) (fun _ w' => 3 + 4 * i + 4 ≤ b.length ∧ w'.ownsRow w.heap.size 96 1 (.slice (some ⟨b3, 0, none⟩) (lo + m) (lo + m)) (lo + m) (nums .u32 (mg b (lo + m) (i + 1))) ∧ Ext w w') ?_ ?_
            · refine J.seq ?_
              refine J.region ?_
              refine L.va rfl (X.move (by conv => lhs; whnf)) ?_
              refine L.nil ?_
              refine J.block ?_
              refine J.loop (X := Nat) [2, 3, 9, 10, 35, 36, 37, 38, 39, 40, 41, 42, 43, 44, 45, 46, 47, 48, 49, 50, 51, 52, 53, 54, 55, 56, 57, 58, 59, 60, 61, 62, 63, 64, 65, 66, 67, 68, 69, 70, 71] (fun k => [(35, .int .i64 (k : Int))]) (fun k w' => k ≤ 4 ∧ 3 + 4 * i + k ≤ b.length ∧ w'.ownsRow w.heap.size 96 1 (.slice (some ⟨b3, 0, none⟩) (lo + m) (lo + m)) (lo + m) (nums .u32 ((mg b (lo + m) i).set (lo + m - 1 - i) (pw b i k))) ∧ Ext w w') (fun k => 4 - k) (0) (At1 (by first | rfl | exact at_int rfl (by omega) | exact at_slice rfl (by omega) | exact at_int rfl (by simp))) ?_ ?_
              · refine ⟨by omega, ?_, ?_, he4⟩
                · rcases i with _ | i
                  · omega
                  · have := hs i (by omega)
                    unfold stepE at this
                    split at this
                    · cases this
                    · omega
                · rw [show pw b i 0 = 0 from rfl, set_self (mg_at b (by omega)) (by omega)]
                  exact ho4
              · rintro k g w5 ⟨hk, hkl, ho5, he5⟩
                have z5 := he5.le
                refine J.seq ?_
                refine J.region ?_
                refine L.va rfl (X.lss rfl rfl) ?_
                refine L.nil ?_
                refine J.seq ?_
                refine J.dec rfl (fun hk4 => ?_) (fun hk4 => ?_)
                · have hbk := at_b hb (3 + 4 * i + k)
                  refine J.skip ?_
                  refine J.seq ?_
                  refine J.block ?_
                  refine J.seq ?_
                  refine J.region ?_
                  refine L.va rfl (X.move (by conv => lhs; whnf)) ?_
                  refine L.va rfl (X.assign (by conv => lhs; whnf)) ?_
                  refine L.nil ?_
                  refine J.seq ?_
                  refine J.region ?_
                  refine L.va rfl (X.move (by conv => lhs; whnf)) ?_
                  refine L.va rfl (X.mul rfl rfl (by omega)) ?_
                  refine L.va rfl (X.add rfl rfl (by omega)) ?_
                  refine L.va rfl (X.move (by conv => lhs; whnf)) ?_
                  refine L.va rfl (X.add rfl rfl (by omega)) ?_
                  refine L.va rfl (X.assign (by conv => lhs; whnf)) ?_
                  refine L.nil ?_
                  refine J.seq ?_
                  refine J.seq ?_
                  refine J.region ?_
                  refine L.va rfl (X.move (by conv => lhs; whnf)) ?_
                  refine L.va rfl (X.move (by conv => lhs; whnf)) ?_
                  refine L.va rfl (X.len rfl Try.underlying37) ?_
                  refine L.va rfl (X.geq rfl rfl) ?_
                  refine L.nil ?_
                  refine J.dec rfl (fun h5 => ?_) (fun h5 => ?_)
                  · refine J.seq ?_
                    refine J.region ?_
                    refine L.va rfl (X.assign (by conv => lhs; whnf)) ?_
                    refine L.va rfl (X.assign (by conv => lhs; whnf)) ?_
                    refine L.nil ?_
                    refine J.ret ?_
                    refine thn_ret <|  inB_ret <|  thn_ret <|  thn_ret <|  inB_ret <|  thn_ret <|  inB_ret <|  thn_ret <|  thn_ret <|  inB_ret <|  thn_ret <| ?_
                    refine fin2 ?_
                    refine ReadR.bad (bad 5 (by decide) him ?_) (by decide) rfl he5
                    unfold stepE
                    rw [if_pos (by omega)]
                  · have hr5 := hr.ext he5
                    have hpb := pw_b hb i k
                    have hpk : pw b i k ≤ 16777215 := by
                      have h2 : (256 : Int) ^ k ≤ 16777216 := by
                        have : k = 0 ∨ k = 1 ∨ k = 2 ∨ k = 3 := by omega
                        rcases this with rfl | rfl | rfl | rfl <;> decide
                      omega
                    have hgs : ((mg b (lo + m) i).set (lo + m - 1 - i) (pw b i k)).getD (lo + m - 1 - i) 0 = pw b i k := Exa.getD_set (by omega)
                    have hld : ∀ w', Ext w5 w' → Ld w' (pA (some ⟨b3, 0, none⟩) (lo + m - 1 - i)) (.int .u32 (pw b i k)) := fun w' hw => by
                      have := Ld.own (ho5.ext hw) (j := lo + m - 1 - i) (by omega)
                      rwa [hgs] at this
                    refine J.skip ?_
                    refine J.draw (ℓ := 24) (S := Ext w5) mixed (fun w6 hS hS_h => ?_)
                    refine D.va 0 rfl (by kernel_rfl) (fun _ _ _ h => h) rfl (fun w' hw => X.move (by conv => lhs; whnf)) hS ?_
                    refine D.va 1 rfl (by kernel_rfl) (fun _ _ _ h => h) rfl (fun w' hw => X.move (by conv => lhs; whnf)) hS ?_
                    refine D.va 2 rfl (by kernel_rfl) (fun _ _ _ h => h) rfl (fun w' hw => X.move (by conv => lhs; whnf)) hS ?_
                    refine D.va 3 rfl (by kernel_rfl) (fun _ _ _ h => h) rfl (fun w' hw => X.add rfl rfl (by omega)) hS ?_
                    refine D.va 4 rfl (by kernel_rfl) (fun _ _ _ h => h) rfl (fun w' hw => X.sub rfl rfl (by omega)) hS ?_
                    refine D.va 5 rfl (by kernel_rfl) (fun _ _ _ h => h) rfl (fun w' hw => X.move (by conv => lhs; whnf)) hS ?_
                    refine D.va 6 rfl (by kernel_rfl) (fun _ _ _ h => h) rfl (fun w' hw => X.sub rfl rfl (by omega)) hS ?_
                    refine D.va 7 rfl (by kernel_rfl) (fun _ _ _ h => h) rfl (fun w' hw => X.move (by conv => lhs; whnf)) hS ?_
                    refine D.va 8 rfl (by kernel_rfl) (fun _ _ _ h => h) rfl (fun w' hw => X.move (by conv => lhs; whnf)) hS ?_
                    refine D.va 9 rfl (by kernel_rfl) (fun _ _ _ h => h) rfl (fun w' hw => X.move (by conv => lhs; whnf)) hS ?_
                    refine D.va 10 rfl (by kernel_rfl) (fun _ _ _ h => h) rfl (fun w' hw => X.add rfl rfl (by omega)) hS ?_
                    refine D.va 11 rfl (by kernel_rfl) (fun _ _ _ h => h) rfl (fun w' hw => X.sub rfl rfl (by omega)) hS ?_
                    refine D.va 12 rfl (by kernel_rfl) (fun _ _ _ h => h) rfl (fun w' hw => X.move (by conv => lhs; whnf)) hS ?_
                    refine D.va 13 rfl (by kernel_rfl) (fun _ _ _ h => h) rfl (fun w' hw => X.sub rfl rfl (by omega)) hS ?_
                    refine D.va 14 rfl (by kernel_rfl) (fun _ _ _ h => h) rfl (fun w' hw => X.index1e (j := lo + m - 1 - i) rfl rfl (by omega) Try.underlying67 sz_96 (Option.some_ne_none _) (by omega)) hS ?_
                    refine D.va 15 rfl (by kernel_rfl) (fun _ _ _ h => h) rfl (fun w' hw => X.load rfl sc_96 (hld w' hw)) hS ?_
                    refine D.va 16 rfl (by kernel_rfl) (fun _ _ _ h => h) rfl (fun w' hw => X.shl rfl rfl (by omega)) hS ?_
                    refine D.va 17 rfl (by kernel_rfl) (fun _ _ _ h => h) rfl (fun w' hw => X.move (by conv => lhs; whnf)) hS ?_
                    refine D.va 18 rfl (by kernel_rfl) (fun _ _ _ h => h) rfl (fun w' hw => X.move (by conv => lhs; whnf)) hS ?_
                    refine D.va 19 rfl (by kernel_rfl) (fun _ _ _ h => h) rfl (fun w' hw => X.index1e (j := 3 + 4 * i + k) rfl rfl (by omega) Try.underlying37 sz_5 hA (by omega)) hS ?_
                    refine D.va 20 rfl (by kernel_rfl) (fun _ _ _ h => h) rfl (fun w' hw => X.load rfl sc_5 (by first | exact Ld.num (hr5.ext hw) (by omega) | exact Ld.own (ho5.ext hw) (by omega) | exact hA)) hS ?_
                    refine D.va 21 rfl (by kernel_rfl) (fun _ _ _ h => h) rfl (fun w' hw => (by first | exact X.conv32 rfl is_5 Try.underlying96 (by omega) | exact X.convw rfl is_5 Try.underlying96)) hS ?_
                    refine D.va 22 rfl (by kernel_rfl) (fun _ _ _ h => h) rfl (fun w' hw => X.or rfl rfl) hS ?_
                    refine D.va 23 rfl (by kernel_rfl) (fun _ _ _ h => h) rfl (fun w' hw => X.index1e (j := lo + m - 1 - i) rfl rfl (by omega) Try.underlying67 sz_96 (Option.some_ne_none _) (by omega)) hS ?_
                    have ho6 := ho5.ext hS
                    refine D.one 24 (by kernel_rfl) rfl ?_
                    refine L.storeON rfl rfl (by conv => lhs; whnf) sz_96 (ho6) (by omega) ?_
                    intro w7 ho7 hg7 hb7 hs7
                    refine L.nil ?_
                    refine ⟨fun h => absurd rfl h, ?_⟩
                    rw [List.set_set, or_nx _ _ hpb.1 hpk hbk] at ho7
                    refine D.done (by kernel_rfl) ?_
                    replace hr5 := hr5.ext hS
                    replace ho5 := ho5.ext hS
                    refine J.region ?_
                    refine L.va rfl (X.add rfl rfl (by omega)) ?_
                    refine L.va rfl (X.move (by conv => lhs; whnf)) ?_
                    refine L.nil ?_
                    refine ⟨k + 1, At1 (by first | rfl | exact at_int rfl (by omega) | exact at_slice rfl (by omega) | exact at_int rfl (by simp)), (by (iterate 39 refine Agr.lk rfl ?_); exact Agr.lk rfl (Agr.hav rfl Agr.rfl')), ?_⟩
                    exact ⟨⟨by omega, by omega, ho7, (he5.trans hS).grw hg7 (fun g hg => (ho6.lt g hg).1)⟩, by omega⟩
                · obtain rfl : k = 4 := by omega
                  refine J.exit ?_
                  refine ⟨(), At0 , (by (iterate 1 refine Agr.lk rfl ?_); refine Agr.lk rfl ?_; refine Agr.hav rfl ?_; (iterate 1 refine Agr.lk rfl ?_); exact Agr.rfl'), ?_⟩
                  refine ⟨by omega, ?_, he5⟩
                  rw [← mg_set b (show i < lo + m by omega)]
                  exact ho5
            · rintro ⟨⟩ g w5 ⟨hl5, ho5, he5⟩
              have z5 := he5.le
              have v0 := mg_put b (show i + 1 ≤ lo + m by omega) (j := lo + m - 1 - i) (by omega) (by omega)
              rw [show lo + m - 1 - (lo + m - 1 - i) = i by omega] at v0
              have g6 : (i = 0 ∨ i + 1 = m) ∧ wd b i = 0 → readE b = 6 := fun h => bad 6 (by decide) him (by unfold stepE; rw [if_neg (by omega), if_pos h])
              have ok : ¬ ((i = 0 ∨ i + 1 = m) ∧ wd b i = 0) → ∀ j, j < i + 1 → stepE b m j = 0 := fun h j hj => by
                rcases Nat.lt_or_ge j i with k | k
                · exact hs j k
                · obtain rfl : j = i := by omega
                  unfold stepE
                  rw [if_neg (by omega), if_neg h]
              have hld : Ld w5 (pA (some ⟨b3, 0, none⟩) (lo + m - 1 - i)) (.int .u32 (wd b i)) := by
                have := Ld.own ho5 (j := lo + m - 1 - i) (by omega)
                rwa [v0] at this
              refine J.seq ?_
              refine J.region ?_
              refine L.va rfl (X.move (by conv => lhs; whnf)) ?_
              refine L.va rfl (X.eql rfl rfl) ?_
              refine L.va rfl (X.move (by conv => lhs; whnf)) ?_
              refine L.caseDec (k := 74) rfl (fun h6 => ?_) (fun h6 => ?_)
              · have h6 : i = 0 := by omega
                refine L.va rfl (X.move (by conv => lhs; whnf)) ?_
                refine L.va rfl (X.move (by conv => lhs; whnf)) ?_
                refine L.va rfl (X.move (by conv => lhs; whnf)) ?_
                refine L.va rfl (X.add rfl rfl (by omega)) ?_
                refine L.va rfl (X.sub rfl rfl (by omega)) ?_
                refine L.va rfl (X.index1e (j := lo + m - 1 - i) rfl rfl (by omega) Try.underlying67 sz_96 (Option.some_ne_none _) (by omega)) ?_
                refine L.va rfl (X.load rfl sc_96 hld) ?_
                refine L.va rfl (X.eql rfl rfl) ?_
                refine L.va rfl (X.pickT rfl (by conv => lhs; whnf)) ?_
                refine L.va rfl (X.move (by conv => lhs; whnf)) ?_
                refine L.caseDec (k := 84) rfl (fun h7 => ?_) (fun h7 => ?_)
                · refine L.no rfl ?_
                  refine L.no rfl ?_
                  refine L.no rfl ?_
                  refine L.no rfl ?_
                  refine L.no rfl ?_
                  refine L.no rfl ?_
                  refine L.no rfl ?_
                  refine L.no rfl ?_
                  refine L.no rfl ?_
                  refine L.no rfl ?_
                  refine L.no rfl ?_
                  refine L.va rfl (X.pickT rfl (by conv => lhs; whnf)) ?_
                  refine L.nil ?_
                  refine J.iteT rfl ?_
                  refine J.seq ?_
                  refine J.region ?_
                  refine L.va rfl (X.assign (by conv => lhs; whnf)) ?_
                  refine L.va rfl (X.assign (by conv => lhs; whnf)) ?_
                  refine L.nil ?_
                  refine J.ret ?_
                  refine inB_ret <|  thn_ret <|  thn_ret <|  inB_ret <|  thn_ret <| ?_
                  refine fin2 ?_
                  exact ReadR.bad (g6 ⟨.inl h6, h7⟩) (by decide) rfl he5
                · refine L.va rfl (X.move (by conv => lhs; whnf)) ?_
                  refine L.va rfl (X.move (by conv => lhs; whnf)) ?_
                  refine L.va rfl (X.sub rfl rfl (by omega)) ?_
                  refine L.va rfl (X.eql rfl rfl) ?_
                  refine L.va rfl (X.move (by conv => lhs; whnf)) ?_
                  refine L.caseDec (k := 89) rfl (fun h8 => ?_) (fun h8 => ?_)
                  ·
                    refine L.va rfl (X.move (by conv => lhs; whnf)) ?_
                    refine L.va rfl (X.move (by conv => lhs; whnf)) ?_
                    refine L.va rfl (X.index1e (j := lo + m - 1 - i) rfl rfl (by omega) Try.underlying67 sz_96 (Option.some_ne_none _) (by omega)) ?_
                    refine L.va rfl (X.load rfl sc_96 hld) ?_
                    refine L.va rfl (X.eql rfl rfl) ?_
                    refine L.va rfl (X.pickT rfl (by conv => lhs; whnf)) ?_
                    refine L.va rfl (X.pickF rfl (by conv => lhs; whnf)) ?_
                    refine L.nil ?_
                    refine J.dec rfl (fun h9 => ?_) (fun h9 => ?_)
                    · exact absurd h9 h7
                    · refine J.skip ?_
                      refine J.region ?_
                      refine L.va rfl (X.add rfl rfl (by omega)) ?_
                      refine L.va rfl (X.move (by conv => lhs; whnf)) ?_
                      refine L.nil ?_
                      refine ⟨i + 1, At1 (by first | rfl | exact at_int rfl (by omega) | exact at_slice rfl (by omega) | exact at_int rfl (by simp)), (by (iterate 30 refine Agr.lk rfl ?_); refine Agr.lk rfl ?_; refine Agr.hav rfl ?_; (iterate 3 refine Agr.lk rfl ?_); exact Agr.lk rfl (Agr.hav rfl Agr.rfl')), ?_⟩
                      exact ⟨⟨by omega, ok (fun h => h7 h.2), ho5, he5⟩, by omega⟩
                  · refine L.no rfl ?_
                    refine L.no rfl ?_
                    refine L.no rfl ?_
                    refine L.no rfl ?_
                    refine L.no rfl ?_
                    refine L.va rfl (X.pickF rfl (by conv => lhs; whnf)) ?_
                    refine L.va rfl (X.pickF rfl (by conv => lhs; whnf)) ?_
                    refine L.nil ?_
                    refine J.iteF rfl ?_
                    refine J.skip ?_
                    refine J.region ?_
                    refine L.va rfl (X.add rfl rfl (by omega)) ?_
                    refine L.va rfl (X.move (by conv => lhs; whnf)) ?_
                    refine L.nil ?_
                    refine ⟨i + 1, At1 (by first | rfl | exact at_int rfl (by omega) | exact at_slice rfl (by omega) | exact at_int rfl (by simp)), (by (iterate 30 refine Agr.lk rfl ?_); refine Agr.lk rfl ?_; refine Agr.hav rfl ?_; (iterate 3 refine Agr.lk rfl ?_); exact Agr.lk rfl (Agr.hav rfl Agr.rfl')), ?_⟩
                    exact ⟨⟨by omega, ok (fun h => h7 h.2), ho5, he5⟩, by omega⟩
              · refine L.no rfl ?_
                refine L.no rfl ?_
                refine L.no rfl ?_
                refine L.no rfl ?_
                refine L.no rfl ?_
                refine L.no rfl ?_
                refine L.no rfl ?_
                refine L.no rfl ?_
                refine L.va rfl (X.pickF rfl (by conv => lhs; whnf)) ?_
                refine L.va rfl (X.move (by conv => lhs; whnf)) ?_
                refine L.va rfl (X.move (by conv => lhs; whnf)) ?_
                refine L.va rfl (X.move (by conv => lhs; whnf)) ?_
                refine L.va rfl (X.sub rfl rfl (by omega)) ?_
                refine L.va rfl (X.eql rfl rfl) ?_
                refine L.va rfl (X.move (by conv => lhs; whnf)) ?_
                refine L.caseDec (k := 89) rfl (fun h8 => ?_) (fun h8 => ?_)
                ·
                  refine L.va rfl (X.move (by conv => lhs; whnf)) ?_
                  refine L.va rfl (X.move (by conv => lhs; whnf)) ?_
                  refine L.va rfl (X.index1e (j := lo + m - 1 - i) rfl rfl (by omega) Try.underlying67 sz_96 (Option.some_ne_none _) (by omega)) ?_
                  refine L.va rfl (X.load rfl sc_96 hld) ?_
                  refine L.va rfl (X.eql rfl rfl) ?_
                  refine L.va rfl (X.pickT rfl (by conv => lhs; whnf)) ?_
                  refine L.va rfl (X.pickF rfl (by conv => lhs; whnf)) ?_
                  refine L.nil ?_
                  refine J.dec rfl (fun h9 => ?_) (fun h9 => ?_)
                  · refine J.seq ?_
                    refine J.region ?_
                    refine L.va rfl (X.assign (by conv => lhs; whnf)) ?_
                    refine L.va rfl (X.assign (by conv => lhs; whnf)) ?_
                    refine L.nil ?_
                    refine J.ret ?_
                    refine inB_ret <|  thn_ret <|  thn_ret <|  inB_ret <|  thn_ret <| ?_
                    refine fin2 ?_
                    exact ReadR.bad (g6 ⟨.inr (by omega), h9⟩) (by decide) rfl he5
                  · refine J.skip ?_
                    refine J.region ?_
                    refine L.va rfl (X.add rfl rfl (by omega)) ?_
                    refine L.va rfl (X.move (by conv => lhs; whnf)) ?_
                    refine L.nil ?_
                    refine ⟨i + 1, At1 (by first | rfl | exact at_int rfl (by omega) | exact at_slice rfl (by omega) | exact at_int rfl (by simp)), (by (iterate 29 refine Agr.lk rfl ?_); refine Agr.lk rfl ?_; refine Agr.hav rfl ?_; (iterate 3 refine Agr.lk rfl ?_); exact Agr.lk rfl (Agr.hav rfl Agr.rfl')), ?_⟩
                    exact ⟨⟨by omega, ok (fun h => h9 h.2), ho5, he5⟩, by omega⟩
                · refine L.no rfl ?_
                  refine L.no rfl ?_
                  refine L.no rfl ?_
                  refine L.no rfl ?_
                  refine L.no rfl ?_
                  refine L.va rfl (X.pickF rfl (by conv => lhs; whnf)) ?_
                  refine L.va rfl (X.pickF rfl (by conv => lhs; whnf)) ?_
                  refine L.nil ?_
                  refine J.iteF rfl ?_
                  refine J.skip ?_
                  refine J.region ?_
                  refine L.va rfl (X.add rfl rfl (by omega)) ?_
                  refine L.va rfl (X.move (by conv => lhs; whnf)) ?_
                  refine L.nil ?_
                  refine ⟨i + 1, At1 (by first | rfl | exact at_int rfl (by omega) | exact at_slice rfl (by omega) | exact at_int rfl (by simp)), (by (iterate 29 refine Agr.lk rfl ?_); refine Agr.lk rfl ?_; refine Agr.hav rfl ?_; (iterate 3 refine Agr.lk rfl ?_); exact Agr.lk rfl (Agr.hav rfl Agr.rfl')), ?_⟩
                  exact ⟨⟨by omega, ok (fun h => by omega), ho5, he5⟩, by omega⟩
          · obtain rfl : i = m := by omega
            have hw0 := wordsE_0 hs
            refine J.exit ?_
            refine J.seq ?_
            refine J.seq ?_
            refine J.region ?_
            refine L.va rfl (X.move (by conv => lhs; whnf)) ?_
            refine L.va rfl (X.len rfl Try.underlying37) ?_
            refine L.va rfl (X.move (by conv => lhs; whnf)) ?_
            refine L.va rfl (X.mul rfl rfl (by omega)) ?_
            refine L.va rfl (X.add rfl rfl (by omega)) ?_
            refine L.va rfl (X.gtr rfl rfl) ?_
            refine L.nil ?_
            refine J.dec rfl (fun h7 => ?_) (fun h7 => ?_)
            · refine J.seq ?_
              refine J.region ?_
              refine L.va rfl (X.assign (by conv => lhs; whnf)) ?_
              refine L.va rfl (X.assign (by conv => lhs; whnf)) ?_
              refine L.nil ?_
              refine J.ret ?_
              refine thn_ret <| ?_
              refine fin2 ?_
              exact ReadR.bad (readE_m h0 h3 em hw0 (by omega)) (by decide) rfl he4
            · have h8 := readE_0 h0 h3 em hw0 (by omega)
              have hr4 := hr.ext he4
              refine J.skip ?_
              refine J.seq ?_
              refine J.draw (ℓ := 1000000) (S := Ext w4) mixed (fun w5 hS hS_h => ?_)
              refine D.va 0 rfl (by kernel_rfl) (fun _ _ _ h => h) rfl (fun w' hw => X.move (by conv => lhs; whnf)) hS ?_
              refine D.va 1 rfl (by kernel_rfl) (fun _ _ _ h => h) rfl (fun w' hw => X.index1n (j := 0) rfl rfl Try.underlying37 sz_5 (by first | exact Option.some_ne_none _ | exact hr4.some_ (by omega) | exact hA) (by omega)) hS ?_
              refine D.va 2 rfl (by kernel_rfl) (fun _ _ _ h => h) rfl (fun w' hw => X.load rfl sc_5 (by first | exact Ld.num (hr4.ext hw) (by omega) | exact hA)) hS ?_
              refine D.va 3 rfl (by kernel_rfl) (fun _ _ _ h => h) rfl (fun w' hw => X.andNot rfl rfl) hS ?_
              refine D.va 4 rfl (by kernel_rfl) (fun _ _ _ h => h) rfl (fun w' hw => X.move (by conv => lhs; whnf)) hS ?_
              refine D.va 5 rfl (by kernel_rfl) (fun _ _ _ h => h) rfl (fun w' hw => X.index1n (j := 0) rfl rfl Try.underlying37 sz_5 (by first | exact Option.some_ne_none _ | exact hr4.some_ (by omega) | exact hA) (by omega)) hS ?_
              refine D.va 6 rfl (by kernel_rfl) (fun _ _ _ h => h) rfl (fun w' hw => X.load rfl sc_5 (by first | exact Ld.num (hr4.ext hw) (by omega) | exact hA)) hS ?_
              refine D.va 7 rfl (by kernel_rfl) (fun _ _ _ h => h) rfl (fun w' hw => X.and rfl rfl) hS ?_
              refine D.va 8 rfl (by kernel_rfl) (fun _ _ _ h => h) rfl (fun w' hw => X.neq rfl rfl) hS ?_
              refine D.va 9 rfl (by kernel_rfl) (fun _ _ _ h => h) rfl (fun w' hw => X.move (by conv => lhs; whnf)) hS ?_
              refine D.va 10 rfl (by kernel_rfl) (fun _ _ _ h => h) rfl (fun w' hw => X.build (l := [_, _, _, _]) (Evs.cons (by conv => lhs; whnf) (Evs.cons (by conv => lhs; whnf) (Evs.cons (by conv => lhs; whnf) (Evs.cons (by conv => lhs; whnf) Evs.nil)))) (bld_run Try.underlying127 (bp_127 Try.underlying127) zr_127 rfl)) hS ?_
              refine D.one 11 (by kernel_rfl) rfl ?_
              refine L.boxA (l := [_, _, _, _]) rfl rfl ?_
              intro b6 w6 hb6 hs6 hk6 he6
              have hS1 := hS.trans he6
              refine L.nil ?_
              refine ⟨fun _ => hS1, ?_⟩
              refine D.va 12 rfl (by kernel_rfl) (fun _ _ _ h => h) rfl (fun w' hw => X.assign (by conv => lhs; whnf)) hS1 ?_
              refine D.va 13 rfl (by kernel_rfl) (fun _ _ _ h => h) rfl (fun w' hw => X.assign (by conv => lhs; whnf)) hS1 ?_
              refine D.done (by kernel_rfl) ?_
              replace hr4 := hr4.ext hS1
              refine J.ret ?_
              refine fin2 ?_
              have z6 := (he4.trans hS).le
              have eM : magOf b = mg b (lo + i) i := by unfold magOf; rw [elo, em]; rfl
              refine ⟨.pointer (some ⟨b6, 0, none⟩), by rw [h8]; rfl, he4.trans hS1, fun _ => ⟨b6, _, lo + i, lo + i, rfl, by omega, hk6, hq, ?_, ?_⟩⟩
              · rw [eM]
                exact mg_len b (by omega)
              · rw [eM]
                exact ho4.ext hS1
end Go.Proofs.Ytnndkepnabddgaa
namespace Go.Proofs.Ytnndkepnabddgaa
set_option maxRecDepth 100000
open Go.RowKit H
open Exa Flo Wd
set_option linter.unusedVariables false
def rm : Nat := 2240
theorem rm_eq : rm = 2240 := rfl
def sgz (g : Bool) (x : Int) : Int := if g then -x else x
def exV (came : Int) (neg : Bool) (A : Option Addr) (q c : Nat) : Array Value := #[.bool true, .int .u8 came, .bool neg, .slice A q c]
def PutTo (w w' : World) (g : Nat) (came : Int) (v : Int) : Prop := ∃ (A' : Option Addr) (k c' : Nat), Blk w' g 127 (exV came (decide (v < 0)) A' k c') ∧ k = (wds v.natAbs).length ∧ k ≤ c' ∧ w'.ownsRow w.heap.size 96 1 (.slice A' k c') k (nums .u32 (wds v.natAbs))
theorem wds_sum_len {a b : List Int} (da : DigW a) (db : DigW b) : (wds (nv a + nv b).toNat).length ≤ max a.length b.length + 1 := by
  have h1 := nv_bd da
  have h2 := nv_bd db
  have n1 := nv_nn da
  have n2 := nv_nn db
  have p1 := powW_le (Nat.le_max_left a.length b.length)
  have p2 := powW_le (Nat.le_max_right a.length b.length)
  apply wds_len
  have e : ((4294967296 ^ (max a.length b.length + 1) : Nat) : Int) = 4294967296 ^ (max a.length b.length) * 4294967296 := by rw [Int.natCast_pow]; exact Int.pow_succ _ _
  have p0 : (0 : Int) < 4294967296 ^ (max a.length b.length) := Int.pow_pos (by decide)
  omega
theorem sg_same (g : Bool) {x y : Int} (hx : 0 ≤ x) (hy : 0 ≤ y) : (sgz g x + sgz g y).natAbs = (x + y).toNat := by unfold sgz; cases g <;> simp <;> omega
theorem sg_neg_same (g : Bool) {x y : Int} (hx : 0 ≤ x) (hy : 0 ≤ y) (h : g = true → 0 < x) : decide (sgz g x + sgz g y < 0) = g := by unfold sgz; cases g <;> simp at * <;> omega
theorem sg_dif {g g' : Bool} {x y : Int} (hg : ¬ g' = g) (h : y ≤ x) : (sgz g x + sgz g' y).natAbs = (x - y).toNat ∧ decide (sgz g x + sgz g' y < 0) = (g && decide (0 < x - y)) := by unfold sgz; cases g <;> cases g' <;> simp at * <;> omega
theorem sg_dif' {g g' : Bool} {x y : Int} (hg : ¬ g' = g) (h : x < y) : (sgz g x + sgz g' y).natAbs = (y - x).toNat ∧ decide (sgz g x + sgz g' y < 0) = g' := by unfold sgz; cases g <;> cases g' <;> simp at * <;> omega
theorem wds_nil {x : Nat} (h : (wds x).length = 0) : x = 0 := by
  apply Decidable.byContradiction
  intro k
  rw [wds_pos k] at h
  cases h
theorem nsub_lt (A : Option Addr) (n c : Nat) (a : List Int) (B : Option Addr) (m e : Nat) (b : List Int) (w : World) {N : Nat} (hN : N ≤ w.heap.size) (hra : Reads w N 1 A n (nums .u32 a)) (hrb : Reads w N 1 B m (nums .u32 b)) (la : a.length = n) (lb : b.length = m) (hn : n ≤ 100000 ∧ m ≤ 100000) (da : DigW a) (db : DigW b) (h : nv a < nv b) : Calls Try.prog 84 #[.slice A n c, .slice B m e] w fun e w' => e = .returned (.tuple #[.slice none 0 0, .bool false]) ∧ Ext w w' :=
  Calls.mono (nsub A n c a B m e b w hN hra hrb la lb hn da db) fun e w' k => ⟨k.1 h, k.2.2⟩
theorem nsub_ge (A : Option Addr) (n c : Nat) (a : List Int) (B : Option Addr) (m e : Nat) (b : List Int) (w : World) {N : Nat} (hN : N ≤ w.heap.size) (hra : Reads w N 1 A n (nums .u32 a)) (hrb : Reads w N 1 B m (nums .u32 b)) (la : a.length = n) (lb : b.length = m) (hn : n ≤ 100000 ∧ m ≤ 100000) (da : DigW a) (db : DigW b) (h : nv b ≤ nv a) : Calls Try.prog 84 #[.slice A n c, .slice B m e] w fun e w' => ∃ (A' : Option Addr) (k c' : Nat), e = .returned (.tuple #[.slice A' k c', .bool true]) ∧ k = (wds (nv a - nv b).toNat).length ∧ k ≤ c' ∧ w'.ownsRow w.heap.size 96 1 (.slice A' k c') k (nums .u32 (wds (nv a - nv b).toNat)) ∧ Ext w w' :=
  Calls.mono (nsub A n c a B m e b w hN hra hrb la lb hn da db) fun e w' k => by
    obtain ⟨A', k', c', h1, h2, h3, h4⟩ := k.2.1 h
    exact ⟨A', k', c', h1, h2, h3, h4, k.2.2⟩
theorem eput {g : Nat} {came : Int} {neg neg' : Bool} (A : Option Addr) (n c : Nat) (a : List Int) (B : Option Addr) (m e : Nat) (b : List Int) (w : World) {N : Nat} (hN : N ≤ w.heap.size) (hk : Blk w g 127 (exV came neg A n c)) (hra : Reads w N 1 A n (nums .u32 a)) (hrb : Reads w N 1 B m (nums .u32 b)) (la : a.length = n) (lb : b.length = m) (hn : n ≤ 1000 ∧ m ≤ 1000) (da : DigW a) (db : DigW b) (sa : neg = true → 0 < nv a) (sb : neg' = true → 0 < nv b) (ba : nv a < 2 ^ rm) (bb : nv b < 2 ^ rm) :
    Calls Try.prog 77 #[.pointer (some ⟨g, 0, none⟩), .bool neg', .slice B m e] w fun e w' => (((sgz neg (nv a) + sgz neg' (nv b)).natAbs : Int) < 2 ^ rm → e = .returned (.bool true) ∧ PutTo w w' g came (sgz neg (nv a) + sgz neg' (nv b))) ∧ (¬ ((sgz neg (nv a) + sgz neg' (nv b)).natAbs : Int) < 2 ^ rm → e = .returned (.bool false) ∧ Blk w' g 127 (exV came neg A n c)) ∧ Chg (· = g) w w' := by
  have na := nv_nn da
  have nb := nv_nn db
  unfold exV at hk
  refine enter Try.func77 rfl (by kernel_rfl) ?_
  refine J.seq ?_
  refine J.region ?_
  refine L.va rfl (X.assign (by conv => lhs; whnf)) ?_
  refine L.nil ?_
  refine J.seq ?_
  refine J.seq ?_
  refine J.region ?_
  refine L.va rfl (X.move (by conv => lhs; whnf)) ?_
  refine L.va rfl (X.move (by conv => lhs; whnf)) ?_
  refine L.va rfl (X.nilCheck rfl) ?_
  refine L.va rfl (X.fieldAddr rfl Try.underlying127 rfl sz_4 (by decide)) ?_
  refine L.va rfl (X.load rfl sc_4 (by first | exact Ld.blk hk rfl)) ?_
  refine L.va rfl (X.eqlB rfl rfl Try.underlying4) ?_
  refine L.nil ?_
  refine J.ite rfl (fun hs => ?_) (fun hs => ?_)
  · obtain rfl : neg' = neg := by simpa using hs
    have hv := sg_same neg' na nb
    have c1 := nadd A n c a B m e b w hN hra hrb la lb (by omega) da db
    refine J.seq ?_
    refine J.region ?_
    refine L.va rfl (X.move (by conv => lhs; whnf)) ?_
    refine L.va rfl (X.nilCheck rfl) ?_
    refine L.va rfl (X.fieldAddr rfl Try.underlying127 rfl sz_67 (by decide)) ?_
    refine L.va rfl (X.load rfl sc_67 (by first | exact Ld.blk hk rfl)) ?_
    refine L.va rfl (X.move (by conv => lhs; whnf)) ?_
    refine L.call rfl en_52 rfl (c1) ?_
    rintro e w1 ⟨A1, k1, d1, rfl, hk1, hd1, ho1, he1⟩
    refine ⟨_, rfl, ?_⟩
    have z1 := he1.le
    have hkg := hk.ext he1
    have hln := wds_sum_len da db
    have c2 := nbits A1 k1 d1 (wds (nv a + nv b).toNat) w1 (N := w1.heap.size) (Nat.le_refl _) (Reads.of_own ho1) hk1.symm (by omega) (wds_dig _)
    rw [nv_wds] at c2
    refine L.va rfl (X.assign (by conv => lhs; whnf)) ?_
    refine L.nil ?_
    refine J.seq ?_
    refine J.seq ?_
    refine J.region ?_
    refine L.va rfl (X.move (by conv => lhs; whnf)) ?_
    refine L.call rfl en_83 rfl (c2) ?_
    rintro e w2 ⟨⟨b, rfl, hb⟩, he2⟩
    refine ⟨_, rfl, ?_⟩
    have he2 : Ext w1 w2 := he2
    have hkg := hkg.ext he2
    have hle := hb.le (k := rm)
    rw [← hv] at hle
    rw [rm_eq] at hle
    refine L.va rfl (X.gtr rfl rfl) ?_
    refine L.nil ?_
    refine J.dec rfl (fun h0 => ?_) (fun h0 => ?_)
    · rw [← rm_eq] at hle
      refine J.seq ?_
      refine J.region ?_
      refine L.va rfl (X.assign (by conv => lhs; whnf)) ?_
      refine L.nil ?_
      refine J.ret ?_
      refine thn_ret <|  thn_ret <| ?_
      refine fin1 ?_
      refine ⟨fun h => ?_, fun _ => ⟨rfl, hkg⟩, Chg.of_ext (he1.trans he2)⟩
      exfalso
      have h1 := hle.2 h
      rw [rm_eq] at h1
      omega
    · rw [← rm_eq] at hle
      have hb' : b ≤ rm := by rw [rm_eq]; omega
      refine J.skip ?_
      refine J.seq ?_
      refine J.region ?_
      refine L.va rfl (X.move (by conv => lhs; whnf)) ?_
      refine L.va rfl (X.move (by conv => lhs; whnf)) ?_
      refine L.va rfl (X.nilCheck rfl) ?_
      refine L.va rfl (X.fieldAddr rfl Try.underlying127 rfl sz_67 (by decide)) ?_
      refine L.store rfl rfl (by conv => lhs; whnf) rfl sz_67 (hkg) (by first | decide | exact Nat.le_of_ble_eq_true rfl) ?_
      intro w3 hk3 hg3 hs3
      refine L.nil ?_
      refine J.seq ?_
      refine J.region ?_
      refine L.va rfl (X.assign (by conv => lhs; whnf)) ?_
      refine L.nil ?_
      refine J.ret ?_
      refine thn_ret <| ?_
      refine fin1 ?_
      refine ⟨fun h => ⟨rfl, A1, k1, d1, ?_, ?_, hd1, ?_⟩, fun h => absurd (hle.1 hb') h, (Chg.of_ext (he1.trans he2)).trans (Chg.of_grown hg3 (S := (· = g)) fun g' e => by injection e with e; exact e.symm) fun g' _ h => h⟩
      · rw [sg_neg_same neg' na nb sa]
        exact hk3
      · rw [hv]; exact hk1
      · rw [hv]
        have ho2 := ho1.ext he2
        exact ho2.kept hg3 (.inr (own_blk_ne ho2 hkg (by decide)))
  · have hs : ¬ neg' = neg := by simpa using hs
    by_cases hlt : nv a < nv b
    · have c1 := nsub_lt A n c a B m e b w hN hra hrb la lb (by omega) da db hlt
      obtain ⟨hv, hng⟩ := sg_dif' hs hlt
      have vb : ((sgz neg (nv a) + sgz neg' (nv b)).natAbs : Int) < 2 ^ rm := by rw [hv]; omega
      refine J.skip ?_
      refine J.seq ?_
      refine J.seq ?_
      refine J.region ?_
      refine L.va rfl (X.move (by conv => lhs; whnf)) ?_
      refine L.va rfl (X.nilCheck rfl) ?_
      refine L.va rfl (X.fieldAddr rfl Try.underlying127 rfl sz_67 (by decide)) ?_
      refine L.va rfl (X.load rfl sc_67 (by first | exact Ld.blk hk rfl)) ?_
      refine L.va rfl (X.move (by conv => lhs; whnf)) ?_
      refine L.call rfl en_84 rfl (c1) ?_
      rintro e w1 ⟨rfl, he1⟩
      refine ⟨_, rfl, ?_⟩
      have he1 : Ext w w1 := he1
      have hkg := hk.ext he1
      have c2 := nsub_ge B m e b A n c a w1 (N := N) (by have := he1.le; omega) (hrb.ext he1) (hra.ext he1) lb la (by omega) db da (by omega)
      refine L.va rfl (X.move (by conv => lhs; whnf)) ?_
      refine L.va rfl (X.extract rfl rfl) ?_
      refine L.va rfl (X.extract rfl rfl) ?_
      refine L.va rfl (X.assign (by conv => lhs; whnf)) ?_
      refine L.va rfl (X.assign (by conv => lhs; whnf)) ?_
      refine L.nil ?_
      refine J.seq ?_
      refine J.region ?_
      refine L.va rfl (X.move (by conv => lhs; whnf)) ?_
      refine L.nil ?_
      refine J.iteF rfl ?_
      refine J.seq ?_
      refine J.region ?_
      refine L.va rfl (X.move (by conv => lhs; whnf)) ?_
      refine L.va rfl (X.move (by conv => lhs; whnf)) ?_
      refine L.va rfl (X.move (by conv => lhs; whnf)) ?_
      refine L.va rfl (X.nilCheck rfl) ?_
      refine L.va rfl (X.fieldAddr rfl Try.underlying127 rfl sz_67 (by decide)) ?_
      refine L.va rfl (X.load rfl sc_67 (by first | exact Ld.blk hkg rfl)) ?_
      refine L.call rfl en_84 rfl (c2) ?_
      rintro e w2 ⟨A2, k2, d2, rfl, hk2, hd2, ho2, he2⟩
      refine ⟨_, rfl, ?_⟩
      have hkg2 := hkg.ext he2
      refine L.va rfl (X.move (by conv => lhs; whnf)) ?_
      refine L.va rfl (X.extract rfl rfl) ?_
      refine L.va rfl (X.extract rfl rfl) ?_
      refine L.va rfl (X.nilCheck rfl) ?_
      refine L.va rfl (X.fieldAddr rfl Try.underlying127 rfl sz_67 (by decide)) ?_
      refine L.store rfl rfl (by conv => lhs; whnf) rfl sz_67 (hkg2) (by first | decide | exact Nat.le_of_ble_eq_true rfl) ?_
      intro w3 hk3 hg3 hs3
      refine L.nil ?_
      refine J.region ?_
      refine L.va rfl (X.move (by conv => lhs; whnf)) ?_
      refine L.va rfl (X.move (by conv => lhs; whnf)) ?_
      refine L.va rfl (X.nilCheck rfl) ?_
      refine L.va rfl (X.fieldAddr rfl Try.underlying127 rfl sz_4 (by decide)) ?_
      refine L.store rfl rfl (by conv => lhs; whnf) rfl sz_4 (hk3) (by first | decide | exact Nat.le_of_ble_eq_true rfl) ?_
      intro w4 hk4 hg4 hs4
      have h20 : ¬ (wds (nv b - nv a).toNat).length = 0 := fun h => by have := wds_nil h; omega
      have ho4 := (ho2.kept hg3 (.inr (own_blk_ne ho2 hkg2 (by decide))))
      have ho5 := ho4.kept hg4 (.inr (own_blk_ne ho4 hk3 (by decide)))
      refine L.nil ?_
      refine J.seq ?_
      refine J.seq ?_
      refine J.region ?_
      refine L.va rfl (X.move (by conv => lhs; whnf)) ?_
      refine L.va rfl (X.nilCheck rfl) ?_
      refine L.va rfl (X.fieldAddr rfl Try.underlying127 rfl sz_67 (by decide)) ?_
      refine L.va rfl (X.load rfl sc_67 (by first | exact Ld.blk hk4 rfl)) ?_
      refine L.va rfl (X.len rfl Try.underlying67) ?_
      refine L.va rfl (X.eql rfl rfl) ?_
      refine L.nil ?_
      refine J.decF rfl (by omega) ?_
      refine J.skip ?_
      refine J.seq ?_
      refine J.region ?_
      refine L.va rfl (X.assign (by conv => lhs; whnf)) ?_
      refine L.nil ?_
      refine J.ret ?_
      refine fin1 ?_
      refine ⟨fun _ => ⟨rfl, A2, k2, d2, ?_, ?_, hd2, ?_⟩, fun h => absurd vb h, ((Chg.of_ext (he1.trans he2)).trans (Chg.of_grown hg3 (S := (· = g)) fun g' e => by injection e with e; exact e.symm) fun g' _ h => h).trans (Chg.of_grown hg4 (S := (· = g)) fun g' e => by injection e with e; exact e.symm) fun g' _ h => h⟩
      · rw [hng]
        exact hk4
      · rw [hv]; exact hk2
      · rw [hv]
        exact own_lowN ho5 he1.le
    · have c1 := nsub_ge A n c a B m e b w hN hra hrb la lb (by omega) da db (by omega)
      obtain ⟨hv, hng⟩ := sg_dif hs (show nv b ≤ nv a by omega)
      have vb : ((sgz neg (nv a) + sgz neg' (nv b)).natAbs : Int) < 2 ^ rm := by rw [hv]; omega
      refine J.skip ?_
      refine J.seq ?_
      refine J.seq ?_
      refine J.region ?_
      refine L.va rfl (X.move (by conv => lhs; whnf)) ?_
      refine L.va rfl (X.nilCheck rfl) ?_
      refine L.va rfl (X.fieldAddr rfl Try.underlying127 rfl sz_67 (by decide)) ?_
      refine L.va rfl (X.load rfl sc_67 (by first | exact Ld.blk hk rfl)) ?_
      refine L.va rfl (X.move (by conv => lhs; whnf)) ?_
      refine L.call rfl en_84 rfl (c1) ?_
      rintro e w1 ⟨A2, k2, d2, rfl, hk2, hd2, ho2, he1⟩
      refine ⟨_, rfl, ?_⟩
      have he1 : Ext w w1 := he1
      have hkg := hk.ext he1
      refine L.va rfl (X.move (by conv => lhs; whnf)) ?_
      refine L.va rfl (X.extract rfl rfl) ?_
      refine L.va rfl (X.extract rfl rfl) ?_
      refine L.va rfl (X.assign (by conv => lhs; whnf)) ?_
      refine L.va rfl (X.assign (by conv => lhs; whnf)) ?_
      refine L.nil ?_
      refine J.seq ?_
      refine J.region ?_
      refine L.va rfl (X.move (by conv => lhs; whnf)) ?_
      refine L.nil ?_
      refine J.iteT rfl ?_
      refine J.region ?_
      refine L.va rfl (X.move (by conv => lhs; whnf)) ?_
      refine L.va rfl (X.move (by conv => lhs; whnf)) ?_
      refine L.va rfl (X.nilCheck rfl) ?_
      refine L.va rfl (X.fieldAddr rfl Try.underlying127 rfl sz_67 (by decide)) ?_
      refine L.store rfl rfl (by conv => lhs; whnf) rfl sz_67 (hkg) (by first | decide | exact Nat.le_of_ble_eq_true rfl) ?_
      intro w3 hk3 hg3 hs3
      have ho3 := (ho2.kept hg3 (.inr (own_blk_ne ho2 hkg (by decide))))
      have hC3 := (Chg.of_ext he1).trans (Chg.of_grown hg3 (S := (· = g)) fun g' e => by injection e with e; exact e.symm) fun g' _ h => h
      refine L.nil ?_
      refine J.seq ?_
      refine J.seq ?_
      refine J.region ?_
      refine L.va rfl (X.move (by conv => lhs; whnf)) ?_
      refine L.va rfl (X.nilCheck rfl) ?_
      refine L.va rfl (X.fieldAddr rfl Try.underlying127 rfl sz_67 (by decide)) ?_
      refine L.va rfl (X.load rfl sc_67 (by first | exact Ld.blk hk3 rfl)) ?_
      refine L.va rfl (X.len rfl Try.underlying67) ?_
      refine L.va rfl (X.eql rfl rfl) ?_
      refine L.nil ?_
      refine J.dec rfl (fun h0 => ?_) (fun h0 => ?_)
      · have h00 : (wds (nv a - nv b).toNat).length = 0 := by omega
        have := wds_nil h00
        refine J.region ?_
        refine L.va rfl (X.move (by conv => lhs; whnf)) ?_
        refine L.va rfl (X.nilCheck rfl) ?_
        refine L.va rfl (X.fieldAddr rfl Try.underlying127 rfl sz_4 (by decide)) ?_
        refine L.store rfl rfl (by conv => lhs; whnf) rfl sz_4 (hk3) (by first | decide | exact Nat.le_of_ble_eq_true rfl) ?_
        intro w4 hk4 hg4 hs4
        have ho4 := ho3.kept hg4 (.inr (own_blk_ne ho3 hk3 (by decide)))
        refine L.nil ?_
        refine J.seq ?_
        refine J.region ?_
        refine L.va rfl (X.assign (by conv => lhs; whnf)) ?_
        refine L.nil ?_
        refine J.ret ?_
        refine fin1 ?_
        refine ⟨fun _ => ⟨rfl, A2, k2, d2, ?_, ?_, hd2, ?_⟩, fun h => absurd vb h, hC3.trans (Chg.of_grown hg4 (S := (· = g)) fun g' e => by injection e with e; exact e.symm) fun g' _ h => h⟩
        · rw [hng, show decide (0 < nv a - nv b) = false from decide_eq_false (by omega), Bool.and_false]
          exact hk4
        · rw [hv]; exact hk2
        · rw [hv]
          exact ho4
      · have hp : 0 < nv a - nv b := by
          apply Decidable.byContradiction
          intro h
          rw [show (nv a - nv b).toNat = 0 by omega, wds_zero] at hk2
          exact h0 (by rw [hk2]; rfl)
        refine J.skip ?_
        refine J.seq ?_
        refine J.region ?_
        refine L.va rfl (X.assign (by conv => lhs; whnf)) ?_
        refine L.nil ?_
        refine J.ret ?_
        refine fin1 ?_
        refine ⟨fun _ => ⟨rfl, A2, k2, d2, ?_, ?_, hd2, ?_⟩, fun h => absurd vb h, hC3⟩
        · rw [hng, show decide (0 < nv a - nv b) = true from decide_eq_true hp, Bool.and_true]
          exact hk3
        · rw [hv]; exact hk2
        · rw [hv]
          exact ho3
theorem eis {g : Nat} {came : Int} {neg : Bool} {A : Option Addr} {n c : Nat} (w : World) (hk : Blk w g 127 (exV came neg A n c)) : Calls Try.prog 76 #[.pointer (some ⟨g, 0, none⟩)] w fun e w' => e = .returned (.bool true) ∧ w = w' := by
  unfold exV at hk
  refine enter Try.func76 rfl (by kernel_rfl) ?_
  refine J.seq ?_
  refine J.region ?_
  refine L.va rfl (X.assign (by conv => lhs; whnf)) ?_
  refine L.nil ?_
  refine J.seq ?_
  refine J.region ?_
  refine L.va rfl (X.move (by conv => lhs; whnf)) ?_
  refine L.va rfl (X.neqPn rfl rfl (by kernel_rfl)) ?_
  refine L.va rfl (X.move (by conv => lhs; whnf)) ?_
  refine L.caseBT (k := 5) rfl (by rfl) ?_
  refine L.va rfl (X.move (by conv => lhs; whnf)) ?_
  refine L.va rfl (X.nilCheck rfl) ?_
  refine L.va rfl (X.fieldAddr rfl Try.underlying127 rfl sz_4 (by decide)) ?_
  refine L.va rfl (X.load rfl sc_4 (by first | exact Ld.blk hk rfl)) ?_
  refine L.va rfl (X.pickT rfl (by conv => lhs; whnf)) ?_
  refine L.va rfl (X.assign (by conv => lhs; whnf)) ?_
  refine L.nil ?_
  refine J.ret ?_
  refine fin1 ?_
  exact ⟨rfl, rfl⟩
end Go.Proofs.Ytnndkepnabddgaa
namespace Go.Proofs.Ytnndkepnabddgaa
set_option maxRecDepth 100000
open Go.RowKit H
open Exa Flo Wd
set_option linter.unusedVariables false
theorem exS {w w' : World} {g : Nat} {c1 : Int} {n1 : Bool} {A1 : Option Addr} {q1 e1 : Nat} (hC : Chg (· = g) w w') (h : Blk w' g 127 (exV c1 n1 A1 q1 e1)) : Chg (· = g) w w' ∧ ∃ c1 n1 A1 q1 e1, Blk w' g 127 (exV c1 n1 A1 q1 e1) := ⟨hC, _, _, _, _, _, h⟩
theorem ejoin {g g2 : Nat} {came came2 : Int} {neg neg' : Bool} (A : Option Addr) (n c : Nat) (a : List Int) (B : Option Addr) (m e : Nat) (b : List Int) (w : World) {N : Nat} (hN : N ≤ w.heap.size) (hk : Blk w g 127 (exV came neg A n c)) (hk2 : Blk w g2 127 (exV came2 neg' B m e)) (hgg : g ≠ g2) (hra : Reads w N 1 A n (nums .u32 a)) (hrb : Reads w N 1 B m (nums .u32 b)) (la : a.length = n) (lb : b.length = m) (hn : n ≤ 1000 ∧ m ≤ 1000) (da : DigW a) (db : DigW b) (sa : neg = true → 0 < nv a) (sb : neg' = true → 0 < nv b) (ba : nv a < 2 ^ rm) (bb : nv b < 2 ^ rm) :
    Calls Try.prog 54 #[.pointer (some ⟨g, 0, none⟩), .pointer (some ⟨g2, 0, none⟩)] w fun e w' => (((sgz neg (nv a) + sgz neg' (nv b)).natAbs : Int) < 2 ^ rm → e = .returned (.bool true) ∧ PutTo w w' g (bits .or .u8 came came2) (sgz neg (nv a) + sgz neg' (nv b))) ∧ (¬ ((sgz neg (nv a) + sgz neg' (nv b)).natAbs : Int) < 2 ^ rm → e = .returned (.bool false)) ∧ Chg (· = g) w w' := by
  have hkF := hk
  have hk2F := hk2
  unfold exV at hkF hk2F
  obtain ⟨V, hV⟩ : ∃ V, V = sgz neg (nv a) + sgz neg' (nv b) := ⟨_, rfl⟩
  rw [← hV]
  have hgn : ¬ g2 = g := fun h => hgg h.symm
  refine enter Try.func54 rfl (by kernel_rfl) ?_
  refine J.seq ?_
  refine J.region ?_
  refine L.va rfl (X.assign (by conv => lhs; whnf)) ?_
  refine L.nil ?_
  refine J.seq ?_
  refine J.seq ?_
  refine J.draw (ℓ := 1000000) (S := (fun w' => Chg (· = g) w w' ∧ ∃ c1 n1 A1 q1 e1, Blk w' g 127 (exV c1 n1 A1 q1 e1))) mixed (fun w2 hSE hS_h => ?_)
  have hS : ((fun w' => Chg (· = g) w w' ∧ ∃ c1 n1 A1 q1 e1, Blk w' g 127 (exV c1 n1 A1 q1 e1))) w2 := exS (Chg.of_ext hSE) (hk.ext hSE)
  refine D.va 0 rfl (by kernel_rfl) (fun _ _ _ h => h) rfl (fun w' hw => X.move (by conv => lhs; whnf)) hS ?_
  refine D.call 1 rfl (by kernel_rfl) (fun _ _ _ h => h) rfl en_76 rfl (fun w' hw => (by obtain ⟨_, _, _, _, _, k⟩ := hw.2; exact eis w' k)) hS ?_
  refine D.va 2 rfl (by kernel_rfl) (fun _ _ _ h => h) rfl (fun w' hw => X.not rfl) hS ?_
  refine D.va 3 rfl (by kernel_rfl) (fun _ _ _ h => h) rfl (fun w' hw => X.move (by conv => lhs; whnf)) hS ?_
  refine D.caseBF (k := 8) rfl (by rfl) ?_
  refine D.va 4 rfl (by kernel_rfl) (fun _ _ _ h => h) rfl (fun w' hw => X.move (by conv => lhs; whnf)) hS ?_
  refine D.call 5 rfl (by kernel_rfl) (fun _ _ _ h => h) rfl en_76 rfl (fun w' hw => eis w' (hw.1.blk hk2 hgn)) hS ?_
  refine D.va 6 rfl (by kernel_rfl) (fun _ _ _ h => h) rfl (fun w' hw => X.not rfl) hS ?_
  refine D.va 7 rfl (by kernel_rfl) (fun _ _ _ h => h) rfl (fun w' hw => X.pickF rfl (by conv => lhs; whnf)) hS ?_
  refine D.va 8 rfl (by kernel_rfl) (fun _ _ _ h => h) rfl (fun w' hw => X.move (by conv => lhs; whnf)) hS ?_
  refine D.caseBF (k := 13) rfl (by rfl) ?_
  refine D.va 9 rfl (by kernel_rfl) (fun _ _ _ h => h) rfl (fun w' hw => X.move (by conv => lhs; whnf)) hS ?_
  refine D.va 10 rfl (by kernel_rfl) (fun _ _ _ h => h) rfl (fun w' hw => X.move (by conv => lhs; whnf)) hS ?_
  refine D.va 11 rfl (by kernel_rfl) (fun _ _ _ h => h) rfl (fun w' hw => X.nilCheck rfl) hS ?_
  refine D.va 12 rfl (by kernel_rfl) (fun _ _ _ h => h) rfl (fun w' hw => X.fieldAddr rfl Try.underlying127 rfl sz_4 (by decide)) hS ?_
  refine D.va 13 rfl (by kernel_rfl) (fun _ _ _ h => h) rfl (fun w' hw => X.load rfl sc_4 (by first | exact Ld.blk (hw.1.blk hk2F hgn) rfl)) hS ?_
  refine D.va 14 rfl (by kernel_rfl) (fun _ _ _ h => h) rfl (fun w' hw => X.move (by conv => lhs; whnf)) hS ?_
  refine D.va 15 rfl (by kernel_rfl) (fun _ _ _ h => h) rfl (fun w' hw => X.nilCheck rfl) hS ?_
  refine D.va 16 rfl (by kernel_rfl) (fun _ _ _ h => h) rfl (fun w' hw => X.fieldAddr rfl Try.underlying127 rfl sz_67 (by decide)) hS ?_
  refine D.va 17 rfl (by kernel_rfl) (fun _ _ _ h => h) rfl (fun w' hw => X.load rfl sc_67 (by first | exact Ld.blk (hw.1.blk hk2F hgn) rfl)) hS ?_
  have z2 := hSE.le
  have c1 := eput A n c a B m e b w2 (N := N) (by omega) (hk.ext hSE) (hra.ext hSE) (hrb.ext hSE) la lb hn da db sa sb ba bb
  rw [← hV] at c1
  by_cases hv : (V.natAbs : Int) < 2 ^ rm
  · have c2 := Calls.mono c1 fun e w' k => (⟨(k.1 hv).1, (k.1 hv).2, k.2.2⟩ : e = .returned (.bool true) ∧ PutTo w2 w' g came V ∧ Chg (· = g) w2 w')
    refine D.one 18 (by kernel_rfl) rfl ?_
    refine L.call rfl en_77 rfl (c2) ?_
    rintro e w3 ⟨rfl, ⟨A3, k3, d3, hk3, hl3, hd3, ho3⟩, hC3⟩
    refine ⟨_, rfl, ?_⟩
    have hS1 := exS ((Chg.of_ext hSE).trans hC3 fun g' _ h ↦ h) hk3
    refine L.nil ?_
    refine ⟨fun _ => hS1, ?_⟩
    have hk23 := hC3.blk (hk2F.ext hSE) (fun h => hgg h.symm)
    have hC := (Chg.of_ext hSE).trans hC3 fun g' _ h => h
    unfold exV at hk3
    refine D.va 19 rfl (by kernel_rfl) (fun _ _ _ h => h) rfl (fun w' hw => X.not rfl) hS1 ?_
    refine D.va 20 rfl (by kernel_rfl) (fun _ _ _ h => h) rfl (fun w' hw => X.pickF rfl (by conv => lhs; whnf)) hS1 ?_
    refine D.done (by kernel_rfl) ?_
    refine J.iteF rfl ?_
    refine J.skip ?_
    refine J.seq ?_
    refine J.draw (ℓ := 11) (S := Ext w3) mixed (fun w4 hT hT_h => ?_)
    refine D.va 0 rfl (by kernel_rfl) (fun _ _ _ h => h) rfl (fun w' hw => X.move (by conv => lhs; whnf)) hT ?_
    refine D.va 1 rfl (by kernel_rfl) (fun _ _ _ h => h) rfl (fun w' hw => X.nilCheck rfl) hT ?_
    refine D.va 2 rfl (by kernel_rfl) (fun _ _ _ h => h) rfl (fun w' hw => X.fieldAddr rfl Try.underlying127 rfl sz_5 (by decide)) hT ?_
    refine D.va 3 rfl (by kernel_rfl) (fun _ _ _ h => h) rfl (fun w' hw => X.load rfl sc_5 (by first | exact Ld.blk (hk3.ext hw) rfl | exact Ld.blk (hk23.ext hw) rfl | exact Ld.blk (hw.1.blk hk2F hgn) rfl)) hT ?_
    refine D.va 4 rfl (by kernel_rfl) (fun _ _ _ h => h) rfl (fun w' hw => X.move (by conv => lhs; whnf)) hT ?_
    refine D.va 5 rfl (by kernel_rfl) (fun _ _ _ h => h) rfl (fun w' hw => X.nilCheck rfl) hT ?_
    refine D.va 6 rfl (by kernel_rfl) (fun _ _ _ h => h) rfl (fun w' hw => X.fieldAddr rfl Try.underlying127 rfl sz_5 (by decide)) hT ?_
    refine D.va 7 rfl (by kernel_rfl) (fun _ _ _ h => h) rfl (fun w' hw => X.load rfl sc_5 (by first | exact Ld.blk (hk3.ext hw) rfl | exact Ld.blk (hk23.ext hw) rfl | exact Ld.blk (hw.1.blk hk2F hgn) rfl)) hT ?_
    refine D.va 8 rfl (by kernel_rfl) (fun _ _ _ h => h) rfl (fun w' hw => X.or rfl rfl) hT ?_
    refine D.va 9 rfl (by kernel_rfl) (fun _ _ _ h => h) rfl (fun w' hw => X.nilCheck rfl) hT ?_
    refine D.va 10 rfl (by kernel_rfl) (fun _ _ _ h => h) rfl (fun w' hw => X.fieldAddr rfl Try.underlying127 rfl sz_5 (by decide)) hT ?_
    refine D.one 11 (by kernel_rfl) rfl ?_
    refine L.store rfl rfl (by conv => lhs; whnf) rfl sz_5 ((hk3.ext hT)) (by first | decide | exact Nat.le_of_ble_eq_true rfl) ?_
    intro w5 hk5 hg5 hs5
    refine L.nil ?_
    refine ⟨fun h => absurd rfl h, ?_⟩
    have ho4 := ho3.ext hT
    have ho5 := ho4.kept hg5 (.inr (own_blk_ne ho4 (hk3.ext hT) (by decide)))
    refine D.done (by kernel_rfl) ?_
    replace hk3 := hk3.ext hT
    replace hk23 := hk23.ext hT
    refine J.seq ?_
    refine J.region ?_
    refine L.va rfl (X.assign (by conv => lhs; whnf)) ?_
    refine L.nil ?_
    refine J.ret ?_
    refine fin1 ?_
    refine ⟨fun _ => ⟨rfl, A3, k3, d3, hk5, hl3, hd3, own_lowN ho5 hSE.le⟩, fun h => absurd hv h, (hC.trans (Chg.of_ext hT) fun g' _ h => h).trans (Chg.of_grown hg5 (S := (· = g)) fun g' e => by injection e with e; exact e.symm) fun g' _ h => h⟩
  · have c2 := Calls.mono c1 fun e w' k => (⟨(k.2.1 hv).1, (k.2.1 hv).2, k.2.2⟩ : e = .returned (.bool false) ∧ Blk w' g 127 (exV came neg A n c) ∧ Chg (· = g) w2 w')
    refine D.one 18 (by kernel_rfl) rfl ?_
    refine L.call rfl en_77 rfl (c2) ?_
    rintro e w3 ⟨rfl, hk3, hC3⟩
    refine ⟨_, rfl, ?_⟩
    have hS1 := exS ((Chg.of_ext hSE).trans hC3 fun g' _ h ↦ h) hk3
    refine L.nil ?_
    refine ⟨fun _ => hS1, ?_⟩
    refine D.va 19 rfl (by kernel_rfl) (fun _ _ _ h => h) rfl (fun w' hw => X.not rfl) hS1 ?_
    refine D.va 20 rfl (by kernel_rfl) (fun _ _ _ h => h) rfl (fun w' hw => X.pickF rfl (by conv => lhs; whnf)) hS1 ?_
    refine D.done (by kernel_rfl) ?_
    refine J.iteT rfl ?_
    refine J.seq ?_
    refine J.region ?_
    refine L.va rfl (X.assign (by conv => lhs; whnf)) ?_
    refine L.nil ?_
    refine J.ret ?_
    refine thn_ret <| ?_
    refine fin1 ?_
    exact ⟨fun h => absurd h hv, fun _ => rfl, (Chg.of_ext hSE).trans hC3 fun g' _ h => h⟩
end Go.Proofs.Ytnndkepnabddgaa
namespace Go.Proofs.Ytnndkepnabddgaa
set_option maxRecDepth 100000
open Go.RowKit H
open Exa Flo Wd
set_option linter.unusedVariables false
def be4 (x : Int) : List Int := [x / 16777216 % 256, x / 65536 % 256, x / 256 % 256, x % 256]
def sumB (came : Int) (neg : Bool) (l : List Int) (z : Nat) : List Int := [if neg then bits .or .u8 came 32 else came, (z : Int), ((l.length - z : Nat) : Int)] ++ (l.drop z).reverse.flatMap be4
theorem wrap8e (m : Int) : IntKind.u8.wrap m = m % 256 := by simp [IntKind.wrap, IntKind.bits, IntKind.signed]
theorem be4_len (l : List Int) : (l.flatMap be4).length = 4 * l.length := by
  induction l with
  | nil => rfl
  | cons a t ih => rw [List.flatMap_cons, List.length_append, ih, List.length_cons]; show 4 + _ = _; omega
theorem sumB_next {l : List Int} {k : Nat} (h : k < l.length) : (l.drop k).reverse.flatMap be4 = (l.drop (k + 1)).reverse.flatMap be4 ++ be4 (l.getD k 0) := by
  rw [drop_getDi h, List.reverse_cons, List.flatMap_append]
  simp
theorem ebytes {g : Nat} {came : Int} {neg : Bool} (A : Option Addr) (n c : Nat) (a : List Int) (w : World) {N : Nat} (hN : N ≤ w.heap.size) (hk : Blk w g 127 (exV came neg A n c)) (hra : Reads w N 1 A n (nums .u32 a)) (la : a.length = n) (hn : n ≤ 100) (da : DigW a) :
    Calls Try.prog 55 #[.pointer (some ⟨g, 0, none⟩)] w fun e w' => ∃ (z : Nat) (A' : Option Addr) (q c' : Nat), LowN a z ∧ e = .returned (.slice A' q c') ∧ q = (sumB came neg a z).length ∧ w'.ownsRow w.heap.size 5 1 (.slice A' q c') q (nums .u8 (sumB came neg a z)) ∧ Ext w w' := by
  have c1 := eis w hk
  have hkF := hk
  unfold exV at hkF
  refine enter Try.func55 rfl (by kernel_rfl) ?_
  refine J.seq ?_
  refine J.region ?_
  refine L.va rfl (X.assign (by conv => lhs; whnf)) ?_
  refine L.nil ?_
  refine J.seq ?_
  refine J.seq ?_
  refine J.region ?_
  refine L.va rfl (X.move (by conv => lhs; whnf)) ?_
  refine L.call rfl en_76 rfl (c1) ?_
  rintro e _ ⟨rfl, rfl⟩
  refine ⟨_, rfl, ?_⟩
  refine L.va rfl (X.not rfl) ?_
  refine L.nil ?_
  refine J.iteF rfl ?_
  refine J.skip ?_
  refine J.seq ?_
  refine J.region ?_
  refine L.va rfl (X.move (by conv => lhs; whnf)) ?_
  refine L.va rfl (X.nilCheck rfl) ?_
  refine L.va rfl (X.fieldAddr rfl Try.underlying127 rfl sz_5 (by decide)) ?_
  refine L.va rfl (X.load rfl sc_5 (by first | exact Ld.blk hkF rfl)) ?_
  refine L.va rfl (X.assign (by conv => lhs; whnf)) ?_
  refine L.nil ?_
  refine J.cut (X := Unit) [3, 15, 16, 17, 18, 19, 20] (fun _ => [(3, .int .u8 (if neg then bits .or .u8 came 32 else came))]) (fun _ w' => w = w') ?_ ?_
  · refine J.seq ?_
    refine J.region ?_
    refine L.va rfl (X.move (by conv => lhs; whnf)) ?_
    refine L.va rfl (X.nilCheck rfl) ?_
    refine L.va rfl (X.fieldAddr rfl Try.underlying127 rfl sz_4 (by decide)) ?_
    refine L.va rfl (X.load rfl sc_4 (by first | exact Ld.blk hkF rfl)) ?_
    refine L.nil ?_
    refine J.ite rfl (fun hg => ?_) (fun hg => ?_)
    · subst hg
      refine J.region ?_
      refine L.va rfl (X.move (by conv => lhs; whnf)) ?_
      refine L.va rfl (X.or rfl rfl) ?_
      refine L.va rfl (X.assign (by conv => lhs; whnf)) ?_
      refine L.nil ?_
      refine ⟨(), At1 (by first | rfl | exact at_int rfl (by omega) | exact at_slice rfl (by omega) | exact at_int rfl (by simp)), (by (iterate 7 refine Agr.lk rfl ?_); exact Agr.rfl'), ?_⟩
      rfl
    · have hg : neg = false := by simpa using hg
      subst hg
      refine J.skip ?_
      refine ⟨(), At1 (by first | rfl | exact at_int rfl (by omega) | exact at_slice rfl (by omega) | exact at_int rfl (by simp)), (by (iterate 4 refine Agr.lk rfl ?_); exact Agr.rfl'), ?_⟩
      rfl
  · rintro ⟨⟩ g1 w1 rfl
    have c2 := nnoughts A n c a w hN hra la (by omega) da
    refine J.seq ?_
    refine J.region ?_
    refine L.va rfl (X.move (by conv => lhs; whnf)) ?_
    refine L.va rfl (X.nilCheck rfl) ?_
    refine L.va rfl (X.fieldAddr rfl Try.underlying127 rfl sz_67 (by decide)) ?_
    refine L.va rfl (X.load rfl sc_67 (by first | exact Ld.blk hkF rfl)) ?_
    refine L.call rfl en_78 rfl (c2) ?_
    rintro e _ ⟨⟨kk, rfl, hz⟩, rfl⟩
    refine ⟨_, rfl, ?_⟩
    have hzl := hz.le
    obtain ⟨z, ez⟩ : ∃ z, z = kk / 32 := ⟨_, rfl⟩
    rw [← ez] at hz hzl
    refine L.va rfl (X.quo rfl rfl (by omega)) ?_
    refine L.va rfl (X.assign (by conv => lhs; whnf)) ?_
    refine L.nil ?_
    refine J.seq ?_
    refine J.region ?_
    refine L.va rfl (X.move (by conv => lhs; whnf)) ?_
    refine L.va rfl (X.move (by conv => lhs; whnf)) ?_
    refine L.va rfl ((by first | exact X.conv8 rfl is_3 Try.underlying5 (by omega) | exact X.convw rfl is_3 Try.underlying5)) ?_
    refine L.va rfl (X.move (by conv => lhs; whnf)) ?_
    refine L.va rfl (X.nilCheck rfl) ?_
    refine L.va rfl (X.fieldAddr rfl Try.underlying127 rfl sz_67 (by decide)) ?_
    refine L.va rfl (X.load rfl sc_67 (by first | exact Ld.blk hkF rfl)) ?_
    refine L.va rfl (X.len rfl Try.underlying67) ?_
    refine L.va rfl (X.move (by conv => lhs; whnf)) ?_
    refine L.va rfl (X.sub rfl rfl (by omega)) ?_
    refine L.va rfl ((by first | exact X.conv8 rfl is_3 Try.underlying5 (by omega) | exact X.convw rfl is_3 Try.underlying5)) ?_
    refine L.bslice (vs := [_, _, _]) rfl (Evs.cons (by conv => lhs; whnf) (Evs.cons (by conv => lhs; whnf) (Evs.cons (by conv => lhs; whnf) Evs.nil))) rfl rfl rfl rfl Try.underlying37 sz_5 zr_5 (by decide) ?_
    intro b2 w2 hb2 hs2 hk2 he2
    obtain ⟨h0, eh0⟩ : ∃ h0, h0 = [if neg then bits .or .u8 came 32 else came, (z : Int), ((a.length - z : Nat) : Int)] := ⟨_, rfl⟩
    have hk2 : Blk w2 b2 5 (nums .u8 h0).toArray := by
      rw [eh0]
      have e1 : (kk : Int) / 32 = (z : Int) := by omega
      have e2 : (n : Int) - (z : Int) = ((a.length - z : Nat) : Int) := by omega
      rw [e1, e2] at hk2
      exact hk2
    have l0 : h0.length = 3 := by rw [eh0]; rfl
    have ho2 : w2.ownsRow w.heap.size 5 1 (.slice (some ⟨b2, 0, none⟩) h0.length h0.length) h0.length (nums .u8 h0) := by
      have := blk_own1 (base := w.heap.size) (q := h0.length) hk2 (by omega) (by unfold maxLen; omega) (by simp [nums])
      exact this
    have hkF2 := hkF.ext he2
    refine L.va rfl (X.assign (by conv => lhs; whnf)) ?_
    refine L.nil ?_
    refine J.seq ?_
    refine J.seq ?_
    refine J.region ?_
    refine L.va rfl (X.move (by conv => lhs; whnf)) ?_
    refine L.va rfl (X.nilCheck rfl) ?_
    refine L.va rfl (X.fieldAddr rfl Try.underlying127 rfl sz_67 (by decide)) ?_
    refine L.va rfl (X.load rfl sc_67 (by first | exact Ld.blk hkF2 rfl)) ?_
    refine L.va rfl (X.len rfl Try.underlying67) ?_
    refine L.va rfl (X.sub rfl rfl (by omega)) ?_
    refine L.va rfl (X.assign (by conv => lhs; whnf)) ?_
    refine L.nil ?_
    refine J.block ?_
    refine J.loop (X := Nat × Option Addr × Nat × List Int) [5, 6, 7, 45, 46, 47, 48, 49, 50, 51, 52, 53, 54, 55, 56, 57, 58, 59, 60, 61, 62, 63, 64, 65, 66, 67, 68, 69, 70] (fun (k, B, oc, o) => [(6, .int .i64 ((k : Int) - 1)), (5, .slice B o.length oc)]) (fun (k, B, oc, o) w' => z ≤ k ∧ k ≤ n ∧ o = h0 ++ (a.drop k).reverse.flatMap be4 ∧ w'.ownsRow w.heap.size 5 1 (.slice B o.length oc) o.length (nums .u8 o) ∧ Ext w w') (fun (k, _) => k) ((n, some ⟨b2, 0, none⟩, 3, h0)) (At2 (by first | rfl | exact at_int rfl (by omega) | exact at_slice rfl (by omega) | exact at_int rfl (by simp)) (by first | rfl | exact at_int rfl (by omega) | exact at_slice rfl (by omega) | exact at_int rfl (by simp))) ?_ ?_
    · refine ⟨by omega, Nat.le_refl _, ?_, ?_, he2⟩
      · rw [List.drop_eq_nil_iff.2 (by omega)]
        simp
      · rw [l0] at ho2 ⊢
        exact ho2
    · rintro ⟨k, B, oc, o⟩ g2 w3 ⟨hzk, hkn, ho, own, he⟩
      have z3 := he.le
      have hkF3 := hkF.ext he
      have hr3 := hra.ext he
      refine J.seq ?_
      refine J.seq ?_
      refine J.region ?_
      refine L.va rfl (X.move (by conv => lhs; whnf)) ?_
      refine L.va rfl (X.move (by conv => lhs; whnf)) ?_
      refine L.va rfl (X.geq rfl rfl) ?_
      refine L.nil ?_
      refine J.dec rfl (fun h1 => ?_) (fun h1 => ?_)
      · obtain ⟨m, rfl⟩ : ∃ m, k = m + 1 := ⟨k - 1, by omega⟩
        have hA := hra.some_ (by omega)
        have d0 := da m
        have hol : o.length = 3 + 4 * (n - (m + 1)) := by rw [ho, List.length_append, be4_len, List.length_reverse, List.length_drop, l0, la]
        refine J.skip ?_
        refine J.seq ?_
        refine J.block ?_
        refine J.seq ?_
        refine J.region ?_
        refine L.va rfl (X.move (by conv => lhs; whnf)) ?_
        refine L.va rfl (X.nilCheck rfl) ?_
        refine L.va rfl (X.fieldAddr rfl Try.underlying127 rfl sz_67 (by decide)) ?_
        refine L.va rfl (X.load rfl sc_67 (by first | exact Ld.blk hkF3 rfl | exact Ld.num hr3 (by omega))) ?_
        refine L.va rfl (X.move (by conv => lhs; whnf)) ?_
        refine L.va rfl (X.index1e (j := m) rfl rfl (by omega) Try.underlying67 sz_96 hA (by omega)) ?_
        refine L.va rfl (X.load rfl sc_96 (by first | exact Ld.blk hkF3 rfl | exact Ld.num hr3 (by omega))) ?_
        refine L.va rfl (X.assign (by conv => lhs; whnf)) ?_
        refine L.nil ?_
        refine J.region ?_
        refine L.va rfl (X.move (by conv => lhs; whnf)) ?_
        refine L.va rfl (X.move (by conv => lhs; whnf)) ?_
        refine L.va rfl (X.shr rfl rfl (by omega)) ?_
        refine L.va rfl ((by first | exact X.conv8 rfl is_96 Try.underlying5 (by omega) | exact X.convw rfl is_96 Try.underlying5)) ?_
        refine L.va rfl (X.move (by conv => lhs; whnf)) ?_
        refine L.va rfl (X.shr rfl rfl (by omega)) ?_
        refine L.va rfl ((by first | exact X.conv8 rfl is_96 Try.underlying5 (by omega) | exact X.convw rfl is_96 Try.underlying5)) ?_
        refine L.va rfl (X.move (by conv => lhs; whnf)) ?_
        refine L.va rfl (X.shr rfl rfl (by omega)) ?_
        refine L.va rfl ((by first | exact X.conv8 rfl is_96 Try.underlying5 (by omega) | exact X.convw rfl is_96 Try.underlying5)) ?_
        refine L.va rfl (X.move (by conv => lhs; whnf)) ?_
        refine L.va rfl ((by first | exact X.conv8 rfl is_96 Try.underlying5 (by omega) | exact X.convw rfl is_96 Try.underlying5)) ?_
        refine L.bslice (vs := [_, _, _, _]) rfl (Evs.cons (by conv => lhs; whnf) (Evs.cons (by conv => lhs; whnf) (Evs.cons (by conv => lhs; whnf) (Evs.cons (by conv => lhs; whnf) Evs.nil)))) rfl rfl rfl rfl Try.underlying37 sz_5 zr_5 (by decide) ?_
        intro b4 w4 hb4 hs4 hk4 he4
        have hk4 : Blk w4 b4 5 (nums .u8 (be4 (a.getD m 0))).toArray := by
          unfold be4
          rw [← wrap8e, ← wrap8e, ← wrap8e, ← wrap8e]
          exact hk4
        have ho4 := own.ext he4
        refine L.appendQ (q := o.length + 4) (ys := o ++ be4 (a.getD m 0)) rfl rfl rfl Try.underlying37 el_5 (ho4) ((blk_reads (q := 4) (l := nums .u8 (be4 (a.getD m 0))) hk4 hk4.lt rfl)) (by omega) (by simp) (by unfold maxLen; omega) (by omega) ?_
        intro B5 c5 w5 ho5 hg5 hb5 hor5
        have he5 := (he.trans he4).grw hg5 (fun g hg => (ho4.lt g hg).1)
        have el : (o ++ be4 (a.getD m 0)).length = o.length + 4 := by rw [List.length_append]; rfl
        refine L.va rfl (X.assign (by conv => lhs; whnf)) ?_
        refine L.nil ?_
        refine J.region ?_
        refine L.va rfl (X.move (by conv => lhs; whnf)) ?_
        refine L.va rfl (X.sub rfl rfl (by omega)) ?_
        refine L.va rfl (X.assign (by conv => lhs; whnf)) ?_
        refine L.nil ?_
        refine ⟨(m, B5, c5, o ++ be4 (a.getD m 0)), At2 (at_int rfl (by omega)) (at_slice rfl el.symm), (by (iterate 29 refine Agr.lk rfl ?_); exact Agr.lk rfl (Agr.hav rfl Agr.rfl')), ?_⟩
        refine ⟨⟨by omega, by omega, ?_, by rw [el]; exact ho5, he5⟩, by show m < m + 1; omega⟩
        rw [sumB_next (by omega), ho, List.append_assoc]
      · obtain rfl : k = z := by omega
        refine J.exit ?_
        refine J.seq ?_
        refine J.region ?_
        refine L.va rfl (X.move (by conv => lhs; whnf)) ?_
        refine L.va rfl (X.assign (by conv => lhs; whnf)) ?_
        refine L.nil ?_
        refine J.ret ?_
        refine fin1 ?_
        have eo : o = sumB came neg a k := by rw [ho, eh0]; rfl
        refine ⟨k, B, o.length, oc, hz, rfl, by rw [← eo], ?_, he⟩
        rw [← eo]
        exact own
end Go.Proofs.Ytnndkepnabddgaa
namespace Go.Proofs.Ytnndkepnabddgaa
set_option maxRecDepth 100000
open Go.RowKit H
open Exa Flo Wd
set_option linter.unusedVariables false
theorem wrapI (m : Int) (h : -18446744073709551616 ≤ m ∧ m < 18446744073709551616) : IntKind.i64.wrap m = if m < -9223372036854775808 then m + 18446744073709551616 else if m < 9223372036854775808 then m else m - 18446744073709551616 := by
  simp [IntKind.wrap, IntKind.bits, IntKind.signed]
  split <;> split <;> (try split) <;> omega
theorem wadd (a b : Int) (w : World) (ha : In64 a) (hb : In64 b) : Calls Try.prog 32 #[.int .i64 a, .int .i64 b] w fun e w' => e = .returned (if In64 (a + b) then .tuple #[.int .i64 (a + b), .bool true] else .tuple #[.int .i64 0, .bool false]) ∧ w = w' := by
  have hw := wrapI (a + b) (by omega)
  refine enter Try.func32 rfl (by kernel_rfl) ?_
  refine J.seq ?_
  refine J.region ?_
  refine L.va rfl (X.assign (by conv => lhs; whnf)) ?_
  refine L.va rfl (X.assign (by conv => lhs; whnf)) ?_
  refine L.nil ?_
  refine J.seq ?_
  refine J.region ?_
  refine L.va rfl (X.move (by conv => lhs; whnf)) ?_
  refine L.va rfl (X.move (by conv => lhs; whnf)) ?_
  refine L.va rfl (X.addw rfl rfl) ?_
  refine L.va rfl (X.assign (by conv => lhs; whnf)) ?_
  refine L.nil ?_
  refine J.seq ?_
  refine J.seq ?_
  refine J.region ?_
  refine L.va rfl (X.move (by conv => lhs; whnf)) ?_
  refine L.va rfl (X.lss rfl rfl) ?_
  refine L.va rfl (X.move (by conv => lhs; whnf)) ?_
  refine L.va rfl (X.lss rfl rfl) ?_
  refine L.va rfl (X.eqlB rfl rfl Try.underlying4) ?_
  refine L.va rfl (X.move (by conv => lhs; whnf)) ?_
  refine L.caseB (k := 15) rfl (fun h1 => ?_) (fun h1 => ?_)
  · refine L.va rfl (X.move (by conv => lhs; whnf)) ?_
    refine L.va rfl (X.lss rfl rfl) ?_
    refine L.va rfl (X.move (by conv => lhs; whnf)) ?_
    refine L.va rfl (X.lss rfl rfl) ?_
    refine L.va rfl (X.neqB rfl rfl Try.underlying4) ?_
    refine L.va rfl (X.pickT rfl (by conv => lhs; whnf)) ?_
    refine L.nil ?_
    refine J.ite rfl (fun h2 => ?_) (fun h2 => ?_)
    · refine J.seq ?_
      refine J.region ?_
      refine L.va rfl (X.assign (by conv => lhs; whnf)) ?_
      refine L.va rfl (X.assign (by conv => lhs; whnf)) ?_
      refine L.nil ?_
      refine J.ret ?_
      refine thn_ret <| ?_
      refine fin2 ?_
      have h1 : decide (a < 0) = decide (b < 0) := by simpa using h1
      have h1 : (a < 0 ↔ b < 0) := by simpa using h1
      have h2 : ¬ (IntKind.i64.wrap (a + b) < 0 ↔ a < 0) := by simpa using h2
      rw [hw] at h2
      rw [if_neg (by unfold In64; intro h; apply h2; split <;> (try split) <;> omega)]
      exact ⟨rfl, rfl⟩
    · refine J.skip ?_
      refine J.seq ?_
      refine J.region ?_
      refine L.va rfl (X.move (by conv => lhs; whnf)) ?_
      refine L.va rfl (X.assign (by conv => lhs; whnf)) ?_
      refine L.va rfl (X.assign (by conv => lhs; whnf)) ?_
      refine L.nil ?_
      refine J.ret ?_
      refine fin2 ?_
      have h1 : decide (a < 0) = decide (b < 0) := by simpa using h1
      have h1 : (a < 0 ↔ b < 0) := by simpa using h1
      have h2 : (IntKind.i64.wrap (a + b) < 0 ↔ a < 0) := by simpa using h2
      rw [hw] at h2
      have hin : In64 (a + b) := by
        unfold In64
        split at h2
        · omega
        · split at h2 <;> omega
      rw [if_pos hin]
      rw [w64 hin]
      exact ⟨rfl, rfl⟩
  · refine L.no rfl ?_
    refine L.no rfl ?_
    refine L.no rfl ?_
    refine L.no rfl ?_
    refine L.no rfl ?_
    refine L.va rfl (X.pickF rfl (by conv => lhs; whnf)) ?_
    refine L.nil ?_
    refine J.iteF rfl ?_
    refine J.skip ?_
    refine J.seq ?_
    refine J.region ?_
    refine L.va rfl (X.move (by conv => lhs; whnf)) ?_
    refine L.va rfl (X.assign (by conv => lhs; whnf)) ?_
    refine L.va rfl (X.assign (by conv => lhs; whnf)) ?_
    refine L.nil ?_
    refine J.ret ?_
    refine fin2 ?_
    have h1 : ¬ decide (a < 0) = decide (b < 0) := by simpa using h1
    have h1 : ¬ (a < 0 ↔ b < 0) := by simpa using h1
    have hin : In64 (a + b) := by unfold In64; omega
    rw [if_pos hin]
    rw [w64 hin]
    exact ⟨rfl, rfl⟩
def leastF (x y : Nat) : Nat := if keyF y < keyF x then y else x
def mostF (x y : Nat) : Nat := if keyF x < keyF y then y else x
theorem fleast (x y : Nat) (w : World) (hx : x < 18446744073709551616) (hy : y < 18446744073709551616) : Calls Try.prog 56 #[.float .f64 x, .float .f64 y] w fun e w' => e = .returned (.float .f64 (leastF x y)) ∧ w = w' := by
  have c1 := fless y x w hy hx
  refine enter Try.func56 rfl (by kernel_rfl) ?_
  refine J.seq ?_
  refine J.region ?_
  refine L.va rfl (X.assign (by conv => lhs; whnf)) ?_
  refine L.nil ?_
  refine J.seq ?_
  refine J.seq ?_
  refine J.region ?_
  refine L.va rfl (X.move (by conv => lhs; whnf)) ?_
  refine L.va rfl (X.move (by conv => lhs; whnf)) ?_
  refine L.call rfl en_79 rfl (c1) ?_
  rintro e _ ⟨rfl, rfl⟩
  refine ⟨_, rfl, ?_⟩
  refine L.nil ?_
  unfold leastF
  refine J.ite rfl (fun h => ?_) (fun h => ?_)
  · rw [if_pos (by simpa using h)]
    refine J.seq ?_
    refine J.region ?_
    refine L.va rfl (X.move (by conv => lhs; whnf)) ?_
    refine L.va rfl (X.assign (by conv => lhs; whnf)) ?_
    refine L.nil ?_
    refine J.ret ?_
    refine thn_ret <| ?_
    refine fin1 ?_
    exact ⟨rfl, rfl⟩
  · rw [if_neg (by simpa using h)]
    refine J.skip ?_
    refine J.seq ?_
    refine J.region ?_
    refine L.va rfl (X.move (by conv => lhs; whnf)) ?_
    refine L.va rfl (X.assign (by conv => lhs; whnf)) ?_
    refine L.nil ?_
    refine J.ret ?_
    refine fin1 ?_
    exact ⟨rfl, rfl⟩
theorem fmost (x y : Nat) (w : World) (hx : x < 18446744073709551616) (hy : y < 18446744073709551616) : Calls Try.prog 57 #[.float .f64 x, .float .f64 y] w fun e w' => e = .returned (.float .f64 (mostF x y)) ∧ w = w' := by
  have c1 := fless x y w hx hy
  refine enter Try.func57 rfl (by kernel_rfl) ?_
  refine J.seq ?_
  refine J.region ?_
  refine L.va rfl (X.assign (by conv => lhs; whnf)) ?_
  refine L.nil ?_
  refine J.seq ?_
  refine J.seq ?_
  refine J.region ?_
  refine L.va rfl (X.move (by conv => lhs; whnf)) ?_
  refine L.va rfl (X.move (by conv => lhs; whnf)) ?_
  refine L.call rfl en_79 rfl (c1) ?_
  rintro e _ ⟨rfl, rfl⟩
  refine ⟨_, rfl, ?_⟩
  refine L.nil ?_
  unfold mostF
  refine J.ite rfl (fun h => ?_) (fun h => ?_)
  · rw [if_pos (by simpa using h)]
    refine J.seq ?_
    refine J.region ?_
    refine L.va rfl (X.move (by conv => lhs; whnf)) ?_
    refine L.va rfl (X.assign (by conv => lhs; whnf)) ?_
    refine L.nil ?_
    refine J.ret ?_
    refine thn_ret <| ?_
    refine fin1 ?_
    exact ⟨rfl, rfl⟩
  · rw [if_neg (by simpa using h)]
    refine J.skip ?_
    refine J.seq ?_
    refine J.region ?_
    refine L.va rfl (X.move (by conv => lhs; whnf)) ?_
    refine L.va rfl (X.assign (by conv => lhs; whnf)) ?_
    refine L.nil ?_
    refine J.ret ?_
    refine fin1 ?_
    exact ⟨rfl, rfl⟩
end Go.Proofs.Ytnndkepnabddgaa
namespace Go.Proofs.Ytnndkepnabddgaa
open Go.RowKit H
open Exa Flo Wd
set_option linter.unusedVariables false
set_option maxRecDepth 100000
namespace Exa
theorem words_all {b : List Int} {n : Nat} (h : wordsE b n = 0) : ∀ j, j < n → stepE b n j = 0 := by
  intro j
  induction j using Nat.strongRecOn with
  | _ j ih =>
    intro hj
    apply Decidable.byContradiction
    intro k
    have := wordsE_at hj (fun i hi => ih i hi (by omega)) k
    rw [this] at h
    exact k h
abbrev cameB (b : List Int) : Int := bits .andNot .u8 (b.getD 0 0) 32
abbrev negB (b : List Int) : Bool := !decide (bits .and .u8 (b.getD 0 0) 32 = 0)
theorem read_ok {b : List Int} (hb : InB 256 b) (h : readE b = 0) : ¬ H1 b ∧ ¬ H2 b ∧ ¬ H3 b ∧ 3 ≤ b.length ∧ wordsE b (b.getD 2 0).toNat = 0 ∧ b.length ≤ 3 + 4 * (b.getD 2 0).toNat := by
  have h1 : headE b = 0 := by
    apply Decidable.byContradiction
    intro k
    rw [readE_h k] at h
    cases h
  have n : ¬ (H1 b ∨ H2 b ∨ H3 b) := fun k => by rw [readE_H k] at h; cases h
  have h3 : ¬ b.length < 3 := fun k => by rw [readE_s h1 k] at h; cases h
  have hm : b.getD 2 0 = ((b.getD 2 0).toNat : Int) := by have := at_b hb 2; omega
  have hw : wordsE b (b.getD 2 0).toNat = 0 := by
    apply Decidable.byContradiction
    intro k
    rw [readE_w h1 h3 hm k] at h
    exact k h
  refine ⟨fun k => n (.inl k), fun k => n (.inr (.inl k)), fun k => n (.inr (.inr k)), by omega, hw, ?_⟩
  apply Decidable.byContradiction
  intro k
  rw [readE_m h1 h3 hm hw (by omega)] at h
  cases h
theorem mag_dig {b : List Int} (hb : InB 256 b) : DigW (magOf b) := digw_inb (mg_b hb _ _)
theorem mag_len {b : List Int} : (magOf b).length = (b.getD 1 0).toNat + (b.getD 2 0).toNat := mg_len b (by omega)
theorem mag_room {b : List Int} (hb : InB 256 b) (h : readE b = 0) : (magOf b).length ≤ 70 := by
  have h0 := read_ok hb h
  have h1 := at_b hb 1
  have h2 := at_b hb 2
  rw [mag_len]
  apply Decidable.byContradiction
  intro k
  exact h0.2.2.1 ⟨by omega, .inl (by omega)⟩
theorem pow_rm : (4294967296 : Int) ^ 70 = 2 ^ rm := by
  rw [rm_eq, show (4294967296 : Int) = 2 ^ 32 from rfl, ← Int.pow_mul]
theorem mag_lt {b : List Int} (hb : InB 256 b) (h : readE b = 0) : nv (magOf b) < 2 ^ rm := by
  have h1 := nv_bd (mag_dig hb)
  have h2 := powW_le (mag_room hb h)
  rw [pow_rm] at h2
  omega
theorem mag_top {b : List Int} (hb : InB 256 b) (h : readE b = 0) (h2 : 0 < (b.getD 2 0).toNat) : (magOf b).getD ((magOf b).length - 1) 0 ≠ 0 := by
  have h0 := read_ok hb h
  have hs := words_all h0.2.2.2.2.1 0 h2
  unfold stepE at hs
  split at hs
  · cases hs
  · split at hs
    · cases hs
    · rename_i k1 k2
      rw [mag_len]
      unfold magOf
      rw [mg_put b (by omega) (by omega) (by omega)]
      rw [show (b.getD 1 0).toNat + (b.getD 2 0).toNat - 1 - ((b.getD 1 0).toNat + (b.getD 2 0).toNat - 1) = 0 by omega]
      intro e
      exact k2 ⟨.inl rfl, e⟩
theorem neg_pos {b : List Int} (hb : InB 256 b) (h : readE b = 0) (hn : negB b = true) : 0 < nv (magOf b) := by
  have h0 := read_ok hb h
  have b2 := at_b hb 2
  have b1 := at_b hb 1
  have hn : ¬ bits .and .u8 (b.getD 0 0) 32 = 0 := by simpa using hn
  rw [and32 (at_b hb 0)] at hn
  have h2 : 0 < (b.getD 2 0).toNat := by
    apply Decidable.byContradiction
    intro k
    exact h0.2.2.1 ⟨by omega, .inr (.inr ⟨by omega, .inr (by omega)⟩)⟩
  have h3 := nv_ge (mag_dig hb) (mag_top hb h h2)
  have p : (0 : Int) < 4294967296 ^ ((magOf b).length - 1) := Int.pow_pos (by decide)
  omega
end Exa
def numB (b : List Int) : Int := sgz (negB b) (nv (magOf b))
open Classical in
noncomputable def lowF (l : List Int) : Nat := if h : ∃ z, LowN l z then Classical.choose h else 0
theorem LowN.eq {l : List Int} {z : Nat} (h : LowN l z) : lowF l = z := by
  unfold lowF
  rw [dif_pos ⟨z, h⟩]
  exact (Classical.choose_spec (⟨z, h⟩ : ∃ z, LowN l z)).one h
noncomputable def bytB (came : Int) (v : Int) : List Int := sumB came (decide (v < 0)) (wds v.natAbs) (lowF (wds v.natAbs))
noncomputable def eR (x y : RC) : Int := if readE x.1 ≠ 0 ∨ readE y.1 ≠ 0 then 13 else if ((numB x.1 + numB y.1).natAbs : Int) < 2 ^ rm then 0 else 10
noncomputable def vR (x y : RC) : RC := if eR x y = 0 then (bytB (bits .or .u8 (cameB x.1) (cameB y.1)) (numB x.1 + numB y.1), leastF x.2.1 y.2.1, mostF x.2.2 y.2.2) else re0.con
theorem eR_rot {x y : RC} (h : readE x.1 ≠ 0 ∨ readE y.1 ≠ 0) : eR x y = 13 := by unfold eR; exact if_pos h
theorem eR_no {x y : RC} (hx : readE x.1 = 0) (hy : readE y.1 = 0) (h : ¬ ((numB x.1 + numB y.1).natAbs : Int) < 2 ^ rm) : eR x y = 10 := by unfold eR; rw [if_neg (by simp [hx, hy]), if_neg h]
theorem eR_ok {x y : RC} (hx : readE x.1 = 0) (hy : readE y.1 = 0) (h : ((numB x.1 + numB y.1).natAbs : Int) < 2 ^ rm) : eR x y = 0 := by unfold eR; rw [if_neg (by simp [hx, hy]), if_pos h]
theorem vR_no {x y : RC} (h : eR x y ≠ 0) : vR x y = re0.con := by unfold vR; exact if_neg h
theorem vR_ok {x y : RC} (h : eR x y = 0) : vR x y = (bytB (bits .or .u8 (cameB x.1) (cameB y.1)) (numB x.1 + numB y.1), leastF x.2.1 y.2.1, mostF x.2.2 y.2.2) := by unfold vR; exact if_pos h
end Go.Proofs.Ytnndkepnabddgaa
namespace Go.Proofs.Ytnndkepnabddgaa
open Go.RowKit H
set_option linter.unusedVariables false
theorem flat_set {X : Type} {f : X → List Value} {sz r : Nat} {v : Value} (h : ∀ x, (f x).length = sz) {y : X} : ∀ (l : List X) (i : Nat) (hi : i < l.length), r < sz → f y = (f (l[i])).set r v → (l.flatMap f).set (i * sz + r) v = (l.set i y).flatMap f
  | x :: t, 0, hi, hr, e => by
    have hx := h x
    have e : f y = (f x).set r v := e
    rw [List.set_cons_zero, List.flatMap_cons, List.flatMap_cons, Nat.zero_mul, Nat.zero_add, List.set_append_left _ _ (by omega), e]
  | x :: t, i + 1, hi, hr, e => by
    have hx := h x
    have e : f y = (f (t[i]'(by simpa using hi))).set r v := e
    rw [List.set_cons_succ, List.flatMap_cons, List.flatMap_cons, List.set_append_right _ _ (by rw [hx, Nat.succ_mul]; omega), hx, show (i + 1) * sz + r - sz = i * sz + r by rw [Nat.succ_mul]; omega, flat_set h t i (by simpa using hi) hr e]
end Go.Proofs.Ytnndkepnabddgaa
namespace Go.Proofs.Ytnndkepnabddgaa
open Go.RowKit H
set_option linter.unusedVariables false
def OfT (w : World) (t g : Nat) : Prop := ∃ cs, Blk w g t cs
theorem Blk.ofT {w : World} {g t : Nat} {cs : Array Value} (h : Blk w g t cs) : OfT w t g := ⟨cs, h⟩
theorem OfT.one {w : World} {g t t' : Nat} (h : OfT w t g) (h' : OfT w t' g) : t = t' := by
  obtain ⟨cs, h⟩ := h
  obtain ⟨cs', h'⟩ := h'
  unfold Blk at h h'
  rw [h] at h'
  injection h' with h'
  injection h'
theorem own_ofT {w : World} {base e size n : Nat} {v : Value} {xs : List Value} (h : w.ownsRow base e size v n xs) {g : Nat} (hg : v.ownBlock = some g) : OfT w e g ∧ base ≤ g := by
  rcases h.2 with ⟨rfl, _⟩ | ⟨b, cap, cur, rfl, hb, hh, _⟩
  · cases hg
  · obtain rfl : b = g := by injection hg
    exact ⟨⟨cur, hh⟩, hb⟩
def TCh (t : Nat) (w w' : World) : Prop := Chg (OfT w t) w w'
namespace TCh
variable {w w' : World} {t : Nat} {rw0 : Option Nat}
theorem grown (hg : w.grownBy w' rw0) (h : ∀ g, rw0 = some g → OfT w t g) : TCh t w w' := Chg.of_grown hg h
theorem row {base size n : Nat} {v : Value} {xs : List Value} (ho : w.ownsRow base t size v n xs) (hg : w.grownBy w' v.ownBlock) : TCh t w w' := grown hg fun g e => (own_ofT ho e).1
theorem put {b : Nat} {cs : Array Value} (hk : Blk w b t cs) (hg : w.grownBy w' (some b)) : TCh t w w' := grown hg fun g e => by injection e with e; subst e; exact hk.ofT
theorem ext (he : Ext w w') : TCh t w w' := Chg.of_ext he
theorem own {base e size n : Nat} {v : Value} {xs : List Value} (hC : TCh t w w') (ho : w.ownsRow base e size v n xs) (hne : e ≠ t) : w'.ownsRow base e size v n xs :=
  Chg.own hC ho fun g hg hS => hne ((own_ofT ho hg).1.one hS)
theorem blk {g e : Nat} {cs : Array Value} (hC : TCh t w w') (hb : Blk w g e cs) (hne : e ≠ t) : Blk w' g e cs := Chg.blk hC hb fun hS => hne (hb.ofT.one hS)
theorem size (hC : TCh t w w') : w.heap.size ≤ w'.heap.size := Chg.size hC
end TCh
end Go.Proofs.Ytnndkepnabddgaa
namespace Go.Proofs.Ytnndkepnabddgaa
open Go.RowKit H
set_option linter.unusedVariables false
def strs (l : List ByteArray) : List Value := l.map Value.string
theorem strs_length (l : List ByteArray) : (strs l).length = l.length := by simp [strs]
def be0 : ByteArray := ⟨#[]⟩
namespace H
end H
end Go.Proofs.Ytnndkepnabddgaa
namespace Go.Proofs.Ytnndkepnabddgaa
set_option maxRecDepth 100000
open Go.RowKit H
set_option linter.unusedVariables false
theorem LiesSlice.strs {w : World} {B n : Nat} {A : Option Addr} {xs : List Str} (h : LiesSlice w B A n xs) : Reads w B 1 A n (strs (xs.map (·.s))) := by
  refine ⟨by simp [strs_length, h.1], fun hn => ?_⟩
  obtain ⟨ad, e, hb, hc⟩ := h.2 hn
  refine ⟨ad, e, hb, fun j u hu => ?_⟩
  simp only [Go.Proofs.Ytnndkepnabddgaa.strs, List.map_map, List.getElem?_map, Option.map_eq_some_iff] at hu
  obtain ⟨x, hx, rfl⟩ := hu
  obtain ⟨us, hus, hl⟩ := hc j x hx
  obtain rfl : us = [.string x.s] := hl
  have := hus 0 (show 0 < 1 by decide)
  simpa [show Lay.size Str = 1 from rfl] using this
def dimsV (l : List (ByteArray × Int)) : List Value := l.flatMap fun p => [.string p.1, .int .i64 p.2]
theorem dimsV_length (l : List (ByteArray × Int)) : (dimsV l).length = l.length * 2 := by
  induction l with
  | nil => rfl
  | cons a l ih => simp only [dimsV, List.flatMap_cons, List.length_append, List.length_cons, List.length_nil] at ih ⊢; omega
def d0 : ByteArray × Int := (be0, 0)
namespace H
end H
end Go.Proofs.Ytnndkepnabddgaa
namespace Go.Proofs.Ytnndkepnabddgaa
set_option maxRecDepth 100000
open Go.RowKit H
set_option linter.unusedVariables false
theorem strs_ones (l : List ByteArray) : (strs l).all (·.oneCell') = true := by
  rw [List.all_eq_true]
  intro u hu
  simp only [strs, List.mem_map] at hu
  obtain ⟨x, _, rfl⟩ := hu
  rfl
end Go.Proofs.Ytnndkepnabddgaa
namespace Go.Proofs.Ytnndkepnabddgaa
set_option maxRecDepth 100000
open Go.RowKit H
set_option linter.unusedVariables false
structure Sch where
  (Ad : Option Addr) (nd cd : Nat) (A1 : Option Addr) (n1 c1 : Nat) (A2 : Option Addr) (n2 c2 : Nat) (Av : Option Addr) (nv cv : Nat) (ds : List (ByteArray × Int)) (s1 s2 : List ByteArray) (zs : List Int)
namespace Sch
abbrev val (s : Sch) : Value := .agg #[.slice s.Ad s.nd s.cd, .slice s.A1 s.n1 s.c1, .slice s.A2 s.n2 s.c2, .slice s.Av s.nv s.cv]
def F (s : Sch) : Int := ((2 ^ s.nd - 1 : Nat) : Int)
structure Here (s : Sch) (w : World) : Prop where
  hd : Reads w w.heap.size 2 s.Ad s.nd (dimsV s.ds)
  h1 : Reads w w.heap.size 1 s.A1 s.n1 (strs s.s1)
  h2 : Reads w w.heap.size 1 s.A2 s.n2 (strs s.s2)
  hv : Reads w w.heap.size 1 s.Av s.nv (nums .u32 s.zs)
  hzs : ∀ i, 0 ≤ s.zs.getD i 0 ∧ s.zs.getD i 0 < 4294967296
  hle : s.nd ≤ 100 ∧ s.n1 ≤ 100 ∧ s.n2 ≤ 100 ∧ s.nv ≤ 100
theorem Here.ext {s : Sch} {w w' : World} (h : s.Here w) (he : Ext w w') : s.Here w' :=
  ⟨(h.hd.ext he).here (by decide), (h.h1.ext he).here (by decide), (h.h2.ext he).here (by decide), (h.hv.ext he).here (by decide), h.hzs, h.hle⟩
theorem Here.len {s : Sch} {w : World} (h : s.Here w) : s.ds.length = s.nd := by have := h.hd.1; rw [dimsV_length] at this; omega
def sub (s : Sch) (m : Int) : Prop := m ≤ s.F
structure Any (s : Sch) (w : World) : Prop where
  hd : Reads w w.heap.size 2 s.Ad s.nd (dimsV s.ds)
  h1 : Reads w w.heap.size 1 s.A1 s.n1 (strs s.s1)
  h2 : Reads w w.heap.size 1 s.A2 s.n2 (strs s.s2)
  hv : Reads w w.heap.size 1 s.Av s.nv (nums .u32 s.zs)
  hzs : ∀ i, 0 ≤ s.zs.getD i 0 ∧ s.zs.getD i 0 < 4294967296
theorem Any.ext {s : Sch} {w w' : World} (h : s.Any w) (he : Ext w w') : s.Any w' :=
  ⟨(h.hd.ext he).here (by decide), (h.h1.ext he).here (by decide), (h.h2.ext he).here (by decide), (h.hv.ext he).here (by decide), h.hzs⟩
end Sch
end Go.Proofs.Ytnndkepnabddgaa
namespace Go.Proofs.Ytnndkepnabddgaa
set_option maxRecDepth 100000
open Go.RowKit H
set_option linter.unusedVariables false
theorem lst_eq {α : Type} (d : α) {a b : List α} (h : a.length = b.length) (hP : ∀ j, j < a.length → a.getD j d = b.getD j d) : a = b := by
  apply List.ext_getElem h
  intro i h1 h2
  have := hP i h1
  simpa [List.getD, h1, h2] using this
theorem lst_ne {α : Type} (d : α) {a b : List α} {i : Nat} (h : ¬ a.getD i d = b.getD i d) : ¬ a = b := fun e => h (by rw [e])
end Go.Proofs.Ytnndkepnabddgaa
namespace Go.Proofs.Ytnndkepnabddgaa
set_option maxRecDepth 100000
open Go.RowKit H
open Flo
set_option linter.unusedVariables false
theorem con_atWh {l : List Wh} (i : Nat) : (l.map Wh.con).getD i wc0 = (l.getD i wh0).con := by
  rw [List.getD, List.getD, List.getElem?_map]
  cases l[i]? <;> rfl
theorem con_atRe {l : List Re} (i : Nat) : (l.map Re.con).getD i rc0 = (l.getD i re0).con := by
  rw [List.getD, List.getD, List.getElem?_map]
  cases l[i]? <;> rfl
end Go.Proofs.Ytnndkepnabddgaa
