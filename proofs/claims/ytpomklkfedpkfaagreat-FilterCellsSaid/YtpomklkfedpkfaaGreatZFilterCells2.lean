import Derived.Lib.Strings
import Derived.Test.YtpomklkfedpkfaaGreatZFilterCells1
/-
  What the law leans on, part 2: NumPlain, WNumA, WNumB, WNumC, WNumD, WExaB, WNumE, WNumF, WClone, WCelH, FlatSet, TypChg, WNames, WNamesB, WNamesC, WNamesD, WNamesE, SchemaData, WSchA, WMasks, WSchB, WSchC, WSchD.
-/
namespace Go.Proofs.YtpomklkfedpkfaaGreat
open Go.RowKit
set_option linter.unusedVariables false
namespace Num
abbrev Dig (d : List Int) : Prop := ∀ j, 0 ≤ d.getD j 0 ∧ d.getD j 0 < 1000
def dv : List Int → Int
  | [] => 0
  | x :: t => x + 1000 * dv t
def Cano (d : List Int) : Prop := 0 < d.length → d.getD (d.length - 1) 0 ≠ 0
theorem dig_nil : Dig [] := fun j => by simp
theorem dig_mem {d : List Int} : Dig d ↔ ∀ x ∈ d, 0 ≤ x ∧ x < 1000 := by
  constructor
  · intro h x hx
    obtain ⟨i, hi, rfl⟩ := List.getElem_of_mem hx
    have := h i
    rwa [List.getD, List.getElem?_eq_getElem hi] at this
  · intro h j
    rcases Nat.lt_or_ge j d.length with hj | hj
    · rw [List.getD, List.getElem?_eq_getElem hj]
      exact h _ (List.getElem_mem _)
    · rw [List.getD, List.getElem?_eq_none hj]
      exact ⟨by decide, by decide⟩
theorem dig_snoc {d : List Int} {x : Int} (h : Dig d) (hx : 0 ≤ x ∧ x < 1000) : Dig (d ++ [x]) := by
  rw [dig_mem] at *
  intro y hy
  rcases List.mem_append.1 hy with hy | hy
  · exact h y hy
  · rw [List.mem_singleton] at hy; rw [hy]; exact hx
theorem dig_take {d : List Int} (h : Dig d) (k : Nat) : Dig (d.take k) := by
  rw [dig_mem] at *
  exact fun y hy => h y (List.mem_of_mem_take hy)
theorem dig_set {d : List Int} {x : Int} (h : Dig d) (j : Nat) (hx : 0 ≤ x ∧ x < 1000) : Dig (d.set j x) := by
  rw [dig_mem] at *
  intro y hy
  rcases List.mem_or_eq_of_mem_set hy with hy | rfl
  · exact h y hy
  · exact hx
theorem dv_snoc (d : List Int) (x : Int) : dv (d ++ [x]) = dv d + x * 1000 ^ d.length := by
  induction d with
  | nil => simp [dv]
  | cons a t ih =>
    rw [List.cons_append, dv, dv, ih, List.length_cons, Int.pow_succ]
    grind
theorem take_getD {d : List Int} {k : Nat} (hk : k < d.length) : d.take (k + 1) = d.take k ++ [d.getD k 0] := by
  rw [List.take_succ_eq_append_getElem hk, List.getD, List.getElem?_eq_getElem hk]
  rfl
theorem dv_take {d : List Int} {k : Nat} (hk : k < d.length) : dv (d.take (k + 1)) = dv (d.take k) + d.getD k 0 * 1000 ^ k := by
  rw [take_getD hk, dv_snoc, List.length_take, Nat.min_eq_left (by omega)]
theorem dv_set {d : List Int} {j : Nat} (x : Int) (hj : j < d.length) : dv (d.set j x) = dv d + (x - d.getD j 0) * 1000 ^ j := by
  induction d generalizing j with
  | nil => simp at hj
  | cons a t ih =>
    cases j with
    | zero => simp [dv]; omega
    | succ j =>
      have := ih (j := j) (by simpa using hj)
      rw [List.set_cons_succ, dv, dv, this, List.getD_cons_succ, Int.pow_succ]
      grind
theorem dv_zeros {d : List Int} (h : ∀ j, d.getD j 0 = 0) : dv d = 0 := by
  induction d with
  | nil => rfl
  | cons a t ih =>
    have h0 := h 0
    have := ih fun j => by have := h (j + 1); simpa using this
    simp at h0
    rw [dv, this, h0]
    rfl
theorem dv_trim {d : List Int} {k : Nat} (hk : k ≤ d.length) (hz : ∀ j, k ≤ j → j < d.length → d.getD j 0 = 0) : dv (d.take k) = dv d := by
  have key : ∀ n, k + n ≤ d.length → dv (d.take (k + n)) = dv (d.take k) := by
    intro n
    induction n with
    | zero => intro _; rfl
    | succ n ih =>
      intro h
      rw [← Nat.add_assoc, dv_take (by omega), ih (by omega), hz (k + n) (by omega) (by omega)]
      omega
  have := key (d.length - k) (by omega)
  rw [show k + (d.length - k) = d.length by omega, List.take_length] at this
  exact this.symm
theorem dv_pad {d : List Int} (k : Nat) (hk : d.length ≤ k) : dv (d.take k) = dv d := by rw [List.take_of_length_le hk]
theorem dv_next {d : List Int} (k : Nat) : dv (d.take (k + 1)) = dv (d.take k) + d.getD k 0 * 1000 ^ k := by
  rcases Nat.lt_or_ge k d.length with h | h
  · exact dv_take h
  · rw [List.take_of_length_le (by omega), List.take_of_length_le h, List.getD, List.getElem?_eq_none h]
    simp
end Num
end Go.Proofs.YtpomklkfedpkfaaGreat
namespace Go.Proofs.YtpomklkfedpkfaaGreat
set_option maxRecDepth 100000
open Go.RowKit H
open Num
set_option linter.unusedVariables false
structure Nu where
  (g : Bool) (A : Option Addr) (n c : Nat) (d : List Int)
namespace Nu
abbrev vs (x : Nu) : List Value := [.bool x.g, .slice x.A x.n x.c]
abbrev val (x : Nu) : Value := .agg x.vs.toArray
structure At (x : Nu) (N : Nat) (w : World) : Prop where
  r : Reads w N 1 x.A x.n (nums .i64 x.d)
  dg : Dig x.d
  cn : Cano x.d
  sg : x.g = true → 0 < x.n
  cp : x.n ≤ x.c
  sm : x.n ≤ 100000
abbrev Own (x : Nu) (N : Nat) (w : World) : Prop := w.ownsRow N 3 1 (.slice x.A x.n x.c) x.n (nums .i64 x.d)
theorem At.len {x : Nu} {N : Nat} {w : World} (h : x.At N w) : x.d.length = x.n := by have := h.r.1; simpa [nums] using this
theorem At.ext {x : Nu} {N : Nat} {w w' : World} (h : x.At N w) (he : Ext w w') : x.At N w' := ⟨h.r.ext he, h.dg, h.cn, h.sg, h.cp, h.sm⟩
theorem At.low {x : Nu} {N B : Nat} {w w' : World} (h : x.At N w) (he : Below B w w') (hB : N ≤ B) : x.At N w' := ⟨h.r.low he hB, h.dg, h.cn, h.sg, h.cp, h.sm⟩
theorem At.more {x : Nu} {N N' : Nat} {w : World} (h : x.At N w) (hN : N ≤ N') : x.At N' w := ⟨h.r.more hN, h.dg, h.cn, h.sg, h.cp, h.sm⟩
end Nu
theorem own_lowN {w : World} {base base' e sz n : Nat} {v : Value} {xs : List Value} (h : w.ownsRow base e sz v n xs) (hb : base' ≤ base) : w.ownsRow base' e sz v n xs := by
  refine ⟨h.1, ?_⟩
  rcases h.2 with h1 | ⟨b, cap, cur, h1, h2, h3⟩
  · exact .inl h1
  · exact .inr ⟨b, cap, cur, h1, Nat.le_trans hb h2, h3⟩
theorem i64take {l : List Int} {k : Nat} : (nums .i64 l).take k = nums .i64 (l.take k) := by unfold nums; rw [List.map_take]
theorem rdigit (A : Option Addr) (n c : Nat) (d : List Int) (i : Nat) (w : World) {N : Nat} (hr : Reads w N 1 A n (nums .i64 d)) (hl : d.length = n) (hn : n ≤ maxLen) : Calls Tryz.prog 120 #[.slice A n c, .int .i64 (i : Int)] w fun e w' => e = .returned (.int .i64 (d.getD i 0)) ∧ w = w' := by
 unfold maxLen at hn
 refine enter Tryz.func120 rfl (by kernel_rfl) ?_
 refine J.seq ?_
 refine J.region ?_
 refine L.va rfl (X.assign (by conv => lhs; whnf)) ?_
 refine L.nil ?_
 iterate 2 refine J.seq ?_
 refine J.region ?_
 iterate 2 refine L.va rfl (X.move (by conv => lhs; whnf)) ?_
 refine L.va rfl (X.len rfl Tryz.underlying44) ?_
 refine L.va rfl (X.lss rfl rfl) ?_
 refine L.nil ?_
 refine J.dec rfl (fun h => ?_) (fun h => ?_)
 ·have hA := hr.some_ (by omega)
  refine J.seq ?_
  refine J.region ?_
  iterate 2 refine L.va rfl (X.move (by conv => lhs; whnf)) ?_
  refine L.va rfl ((by first | exact X.index1n rfl rfl Tryz.underlying44 sz_3 (by first | exact Option.some_ne_none _ | exact hr.some_ (by omega) | exact hA) (by omega) | exact X.index1 rfl rfl Tryz.underlying44 sz_3 (by first | exact Option.some_ne_none _ | exact hr.some_ (by omega) | exact hA) (by omega))) ?_
  refine L.va rfl (X.load rfl sc_3 (by first | exact Ld.num hr (by omega) | exact hA)) ?_
  refine L.va rfl (X.assign (by conv => lhs; whnf)) ?_
  refine L.nil ?_
  refine J.ret ?_
  refine thn_ret <| ?_
  refine fin1 ?_
  exact ⟨rfl, rfl⟩
 ·refine J.skip ?_
  refine J.seq ?_
  refine J.region ?_
  refine L.va rfl (X.assign (by conv => lhs; whnf)) ?_
  refine L.nil ?_
  refine J.ret ?_
  refine fin1 ?_
  refine ⟨?_, rfl⟩
  rw [List.getD, List.getElem?_eq_none (by omega)]
  rfl
theorem rmade (g : Bool) (A : Option Addr) (n c : Nat) (d : List Int) (w : World) {N : Nat} (hr : Reads w N 1 A n (nums .i64 d)) (hl : d.length = n) (hc : n ≤ c) (hn : n ≤ 1000000) : Calls Tryz.prog 106 #[.bool g, .slice A n c] w fun e w' => Ext w w' ∧ ∃ k : Nat, e = .returned (.agg #[.bool (g && decide (0 < k)), .slice A k c]) ∧ SizN d k := by
 refine enter Tryz.func106 rfl (by kernel_rfl) ?_
 refine J.seq ?_
 refine J.region ?_
 refine L.alloc rfl zr_111 ?_
 intro b1 w1 hb1 hs1 hk1 he1
 have hr1 := hr.ext he1
 refine L.nil ?_
 refine J.seq ?_
 refine J.region ?_
 refine L.va rfl (X.move (by conv => lhs; whnf)) ?_
 refine L.va rfl (X.len rfl Tryz.underlying44) ?_
 refine L.va rfl (X.assign (by conv => lhs; whnf)) ?_
 refine L.nil ?_
 refine J.cut (X := Nat) [5, 8, 9, 10, 11, 12, 13, 14, 15, 16, 17, 18, 19] (fun k => [(5, .int .i64 (k : Int))]) (fun k w' => SizN d k ∧ w1 = w') ?_ ?_
 ·refine J.block ?_
  refine J.loop (X := Nat) [5, 8, 9, 10, 11, 12, 13, 14, 15, 16, 17, 18, 19] (fun k => [(5, .int .i64 (k : Int))]) (fun k w' => k ≤ n ∧ (∀ j, k ≤ j → j < d.length → d.getD j 0 = 0) ∧ w1 = w') (fun k => k) (n) (At1 (by first | rfl | exact at_int rfl (by omega) | exact at_slice rfl (by omega) | exact at_int rfl (by simp))) ?_ ?_
  ·exact ⟨Nat.le_refl _, fun j h1 h2 => by omega, rfl⟩
  ·rintro k g' w2 ⟨hk, hz, rfl⟩
   iterate 2 refine J.seq ?_
   refine J.region ?_
   refine L.va rfl (X.move (by conv => lhs; whnf)) ?_
   refine L.va rfl (X.gtr rfl rfl) ?_
   refine L.va rfl (X.move (by conv => lhs; whnf)) ?_
   refine L.caseDec (k := 10) rfl (fun h1 => ?_) (fun h1 => ?_)
   ·obtain ⟨m, rfl⟩ : ∃ m, k = m + 1 := ⟨k - 1, by omega⟩
    have hA := hr1.some_ (by omega)
    iterate 2 refine L.va rfl (X.move (by conv => lhs; whnf)) ?_
    refine L.va rfl (X.sub rfl rfl (by omega)) ?_
    refine L.va rfl (X.index1e (j := m) rfl rfl (by omega) Tryz.underlying44 sz_3 hA (by omega)) ?_
    refine L.va rfl (X.load rfl sc_3 (by first | exact Ld.num hr1 (by omega))) ?_
    refine L.va rfl (X.eql rfl rfl) ?_
    refine L.va rfl (X.pickT rfl (by conv => lhs; whnf)) ?_
    refine L.nil ?_
    refine J.dec rfl (fun h2 => ?_) (fun h2 => ?_)
    ·refine J.skip ?_
     refine J.block ?_
     refine J.region ?_
     refine L.va rfl (X.move (by conv => lhs; whnf)) ?_
     refine L.va rfl (X.sub rfl rfl (by omega)) ?_
     refine L.va rfl (X.assign (by conv => lhs; whnf)) ?_
     refine L.nil ?_
     refine ⟨m, At1 (at_int rfl (by omega)), (by (iterate 14 refine Agr.lk rfl ?_); exact Agr.lk rfl (Agr.hav rfl Agr.rfl')), ?_⟩
     refine ⟨⟨by omega, fun j hj hjl => ?_, rfl⟩, by omega⟩
     rcases Nat.lt_or_ge m j with h | h
     ·exact hz j h hjl
     ·obtain rfl : j = m := by omega
      exact h2
    ·refine J.exit ?_
     refine ⟨m + 1, At1 (by first | rfl | exact at_int rfl (by omega) | exact at_slice rfl (by omega) | exact at_int rfl (by simp)), (by (iterate 11 refine Agr.lk rfl ?_); refine Agr.lk rfl ?_; refine Agr.hav rfl ?_; exact Agr.rfl'), ?_⟩
     exact ⟨⟨by omega, hz, fun _ => h2⟩, rfl⟩
   ·refine L.no rfl ?_
    iterate 5 refine L.no rfl ?_
    refine L.va rfl (X.pickF rfl (by conv => lhs; whnf)) ?_
    refine L.nil ?_
    refine J.iteF rfl ?_
    refine J.exit ?_
    refine ⟨k, At1 (by first | rfl | exact at_int rfl (by omega) | exact at_slice rfl (by omega) | exact at_int rfl (by simp)), (by (iterate 11 refine Agr.lk rfl ?_); refine Agr.lk rfl ?_; refine Agr.hav rfl ?_; exact Agr.rfl'), ?_⟩
    exact ⟨⟨by omega, hz, fun h => absurd h (by omega)⟩, rfl⟩
 ·rintro k g' w2 ⟨hk, rfl⟩
  have hkl := hk.le
  cases g
  ·refine J.seq ?_
   refine J.region ?_
   iterate 2 refine L.va rfl (X.move (by conv => lhs; whnf)) ?_
   refine L.caseBF (k := 21) rfl (by rfl) ?_
   iterate 2 refine L.no rfl ?_
   refine L.va rfl (X.pickF rfl (by conv => lhs; whnf)) ?_
   iterate 2 refine L.va rfl (X.move (by conv => lhs; whnf)) ?_
   refine L.va rfl ((by first | exact X.sliceTon rfl rfl Tryz.underlying44 sz_3 (by omega) | exact X.sliceTo rfl rfl Tryz.underlying44 sz_3 (by omega))) ?_
   refine L.va rfl (X.build (l := [_, _]) (Evs.cons (by conv => lhs; whnf) (Evs.cons (by conv => lhs; whnf) Evs.nil)) (bld_run Tryz.underlying111 (bp_111 Tryz.underlying111) zr_111 rfl)) ?_
   refine L.storeAgg (vs := [_, _]) rfl rfl rfl rfl sz_111 (hk1) rfl ?_
   intro w3 hk3 hg3 hs3
   have he3 : Ext w w3 := he1.grw hg3 (by intro g hg; injection hg with hg; omega)
   refine L.nil ?_
   refine J.ret ?_
   refine finC rfl (run_cell hk3 Tryz.underlying111 rfl (by kernel_rfl)) ?_
   exact ⟨he3, k, rfl, hk⟩
  ·refine J.seq ?_
   refine J.region ?_
   iterate 2 refine L.va rfl (X.move (by conv => lhs; whnf)) ?_
   refine L.caseBT (k := 21) rfl (by rfl) ?_
   refine L.va rfl (X.move (by conv => lhs; whnf)) ?_
   refine L.va rfl (X.gtr rfl rfl) ?_
   refine L.va rfl (X.pickT rfl (by conv => lhs; whnf)) ?_
   iterate 2 refine L.va rfl (X.move (by conv => lhs; whnf)) ?_
   refine L.va rfl ((by first | exact X.sliceTon rfl rfl Tryz.underlying44 sz_3 (by omega) | exact X.sliceTo rfl rfl Tryz.underlying44 sz_3 (by omega))) ?_
   refine L.va rfl (X.build (l := [_, _]) (Evs.cons (by conv => lhs; whnf) (Evs.cons (by conv => lhs; whnf) Evs.nil)) (bld_run Tryz.underlying111 (bp_111 Tryz.underlying111) zr_111 rfl)) ?_
   refine L.storeAgg (vs := [_, _]) rfl rfl rfl rfl sz_111 (hk1) rfl ?_
   intro w3 hk3 hg3 hs3
   have he3 : Ext w w3 := he1.grw hg3 (by intro g hg; injection hg with hg; omega)
   refine L.nil ?_
   refine J.ret ?_
   refine finC rfl (run_cell hk3 Tryz.underlying111 rfl (by kernel_rfl)) ?_
   refine ⟨he3, k, ?_, hk⟩
   rw [Bool.true_and, show decide (0 < k) = decide (((0 : Nat) : Int) < (k : Int)) by by_cases h : 0 < k <;> simp [h]]
   rfl
theorem nu_made {g : Bool} {A : Option Addr} {n c k : Nat} {d : List Int} {w : World} {N : Nat} (hr : Reads w N 1 A n (nums .i64 d)) (hd : Dig d) (hl : d.length = n) (hc : n ≤ c) (hn : n ≤ 100000) (hk : SizN d k) : (Nu.mk (g && decide (0 < k)) A k c (d.take k)).At N w ∧ dv (d.take k) = dv d := by
  have hkl := hk.le
  refine ⟨⟨?_, dig_take hd k, fun h0 => ?_, fun h => ?_, by show k ≤ c; omega, by show k ≤ 100000; omega⟩, dv_trim hkl hk.z⟩
  · have := hr.first (k := k) (by omega)
    rw [Nat.mul_one, i64take] at this
    exact this
  · rw [List.length_take, Nat.min_eq_left hkl] at h0 ⊢
    have := hk.nz h0
    rw [List.getD, List.getElem?_take, if_pos (by omega)]
    exact this
  · simp at h
    exact h.2
theorem rnat (x : Nat) (w : World) (hx : x < 18446744073709551616) : Calls Tryz.prog 105 #[.int .u64 (x : Int)] w fun e w' => ∃ t : Nu, e = .returned t.val ∧ t.g = false ∧ t.At w'.heap.size w' ∧ dv t.d = (x : Int) ∧ t.n ≤ 7 ∧ t.Own w.heap.size w' ∧ Ext w w' := by
 refine enter Tryz.func105 rfl (by kernel_rfl) ?_
 refine J.seq ?_
 refine J.region ?_
 refine L.alloc rfl zr_111 ?_
 intro b1 w1 hb1 hs1 hk1 he1
 have z1 := he1.le
 refine L.nil ?_
 refine J.seq ?_
 refine J.region ?_
 refine L.va rfl (X.assign (by conv => lhs; whnf)) ?_
 refine L.nil ?_
 refine J.cut (X := Option Addr × Nat × List Int) [0, 3, 4, 5, 6, 7, 8, 9, 10, 11, 12, 13] (fun (B, c, d) => [(3, .slice B d.length c)]) (fun (B, c, d) w' => Dig d ∧ Cano d ∧ dv d = (x : Int) ∧ d.length ≤ 7 ∧ w'.ownsRow w1.heap.size 3 1 (.slice B d.length c) d.length (nums .i64 d) ∧ Ext w1 w') ?_ ?_
 ·refine J.block ?_
  refine J.loop (X := Nat × Option Addr × Nat × List Int) [0, 3, 4, 5, 6, 7, 8, 9, 10, 11, 12, 13] (fun (y, B, c, d) => [(0, .int .u64 (y : Int)), (3, .slice B d.length c)]) (fun (y, B, c, d) w' => Dig d ∧ (y = 0 → Cano d) ∧ dv d + y * 1000 ^ d.length = (x : Int) ∧ (d.length ≤ 7 ∧ y * 1000 ^ d.length < 18446744073709551616) ∧ w'.ownsRow w1.heap.size 3 1 (.slice B d.length c) d.length (nums .i64 d) ∧ Ext w1 w') (fun (y, _) => y) ((x, none, 0, [])) (At2 (by first | rfl | exact at_int rfl (by omega) | exact at_slice rfl (by omega) | exact at_int rfl (by simp)) (by first | rfl | exact at_int rfl (by omega) | exact at_slice rfl (by omega) | exact at_int rfl (by simp))) ?_ ?_
  ·exact ⟨dig_nil, fun _ h => absurd h (by simp), by simp [dv], ⟨by simp, by simpa using hx⟩, own_nil _ _ _ _, Ext.refl _⟩
  ·rintro ⟨y, B, c, d⟩ g w2 ⟨hd, hcn, hv, ⟨h7, hb⟩, ho, he⟩
   have z2 := he.le
   have hy : y < 18446744073709551616 := by
    have : 1 ≤ 1000 ^ d.length := Nat.pow_pos (by decide)
    have := Nat.le_mul_of_pos_right y (show 0 < 1000 ^ d.length by omega)
    omega
   have h76 : 0 < y → d.length ≤ 6 := fun h0 => by
    apply Decidable.byContradiction
    intro hn
    have e7 : d.length = 7 := by omega
    rw [e7] at hb
    have : y * 1000 ^ 7 = y * 1000000000000000000000 := by rw [show (1000 : Nat) ^ 7 = 1000000000000000000000 by decide]
    omega
   iterate 2 refine J.seq ?_
   refine J.region ?_
   refine L.va rfl (X.move (by conv => lhs; whnf)) ?_
   refine L.va rfl (X.gtr rfl rfl) ?_
   refine L.nil ?_
   refine J.dec rfl (fun h0 => ?_) (fun h0 => ?_)
   ·have h0 : 0 < y := by omega
    have h6 := h76 h0
    refine J.skip ?_
    refine J.block ?_
    refine J.seq ?_
    refine J.region ?_
    iterate 2 refine L.va rfl (X.move (by conv => lhs; whnf)) ?_
    refine L.va rfl (X.rem rfl rfl (by omega)) ?_
    refine L.va rfl ((by first | exact X.convI rfl is_48 Tryz.underlying3 (by omega) | exact X.convw rfl is_48 Tryz.underlying3)) ?_
    refine L.bslice (vs := [_]) rfl (Evs.cons (by conv => lhs; whnf) Evs.nil) rfl rfl rfl rfl Tryz.underlying44 sz_3 zr_3 (by decide) ?_
    intro b3 w3 hb3 hs3 hk3 he3
    have ho3 := ho.ext he3
    have z3 := he3.le
    refine L.appendQ (q := d.length + 1) (ys := d ++ [(y : Int) % 1000]) rfl rfl rfl Tryz.underlying44 el_3 (ho3) ((blk_reads (q := 1) (l := nums .i64 [(y : Int) % 1000]) hk3 hk3.lt rfl)) (by omega) (by simp) (by unfold maxLen; omega) (by omega) ?_
    intro B4 c4 w4 ho4 hg4 hb4 hor4
    have he4 := (he.trans he3).grw hg4 (fun g hg => (ho3.lt g hg).1)
    have el : (d ++ [(y : Int) % 1000]).length = d.length + 1 := by rw [List.length_append]; rfl
    refine L.va rfl (X.assign (by conv => lhs; whnf)) ?_
    refine L.nil ?_
    refine J.region ?_
    refine L.va rfl (X.move (by conv => lhs; whnf)) ?_
    refine L.va rfl (X.quoU rfl rfl (by omega)) ?_
    refine L.va rfl (X.assign (by conv => lhs; whnf)) ?_
    refine L.nil ?_
    refine ⟨(y / 1000, B4, c4, d ++ [(y : Int) % 1000]), At2 (at_int rfl (by omega)) (at_slice rfl el.symm), (by (iterate 12 refine Agr.lk rfl ?_); exact Agr.lk rfl (Agr.hav rfl Agr.rfl')), ?_⟩
    have e1 : (y : Int) = 1000 * ((y / 1000 : Nat) : Int) + (y : Int) % 1000 := by omega
    have en : y = 1000 * (y / 1000) + y % 1000 := by omega
    refine ⟨⟨dig_snoc hd (by omega), fun hy0 _ => ?_, ?_, ⟨by rw [el]; omega, ?_⟩, by rw [el]; exact ho4, he4⟩, by show y / 1000 < y; omega⟩
    ·rw [el, Nat.add_sub_cancel, List.getD, List.getElem?_append_right (Nat.le_refl _), Nat.sub_self]
     show (y : Int) % 1000 ≠ 0
     omega
    ·rw [dv_snoc, el, ← hv, Int.pow_succ]
     generalize (1000 : Int) ^ d.length = p
     generalize ((y / 1000 : Nat) : Int) = q at *
     generalize (y : Int) % 1000 = r at *
     rw [e1]
     grind
    ·rw [el, Nat.pow_succ]
     have : y / 1000 * (1000 ^ d.length * 1000) ≤ y * 1000 ^ d.length := by
      have h1 : y / 1000 * 1000 ≤ y := by omega
      have := Nat.mul_le_mul_right (1000 ^ d.length) h1
      rw [Nat.mul_comm (1000 ^ d.length) 1000, ← Nat.mul_assoc]
      exact this
     omega
   ·obtain rfl : y = 0 := by omega
    refine J.exit ?_
    refine ⟨(B, c, d), At1 (by first | rfl | exact at_int rfl (by omega) | exact at_slice rfl (by omega) | exact at_int rfl (by simp)), (by (iterate 2 refine Agr.lk rfl ?_); refine Agr.lk rfl ?_; refine Agr.hav rfl ?_; exact Agr.rfl'), ?_⟩
    refine ⟨hd, hcn rfl, ?_, h7, ho, he⟩
    simpa using hv
 ·rintro ⟨B, c, d⟩ g w2 ⟨hd, hcn, hv, h7, ho, he⟩
  have he02 := he1.trans he
  have hk2 := hk1.ext he
  have ho' := ho
  refine J.seq ?_
  refine J.region ?_
  refine L.va rfl (X.move (by conv => lhs; whnf)) ?_
  refine L.va rfl (X.build (l := [_, _]) (Evs.cons (by conv => lhs; whnf) Evs.nil) (bld_run Tryz.underlying111 (bp_111 Tryz.underlying111) zr_111 rfl)) ?_
  refine L.storeAgg (vs := [_, _]) rfl rfl rfl rfl sz_111 (hk2) rfl ?_
  intro w3 hk3 hg3 hs3
  have he3 : Ext w w3 := he02.grw hg3 (by intro g hg; injection hg with hg; omega)
  have ho3 := ho.kept hg3 (.inr (own_blk_ne ho hk2 (by decide)))
  have hnc := own_bd ho3
  refine L.nil ?_
  refine J.ret ?_
  refine finC rfl (run_cell hk3 Tryz.underlying111 rfl (by kernel_rfl)) ?_
  exact ⟨⟨false, B, d.length, c, d⟩, rfl, rfl, ⟨Reads.of_own ho3, hd, hcn, (fun h => by cases h), hnc.1, by show d.length ≤ 100000; omega⟩, hv, h7, own_lowN ho3 z1, he3⟩
end Go.Proofs.YtpomklkfedpkfaaGreat
namespace Go.Proofs.YtpomklkfedpkfaaGreat
set_option maxRecDepth 100000
open Go.RowKit H
open Num
set_option linter.unusedVariables false
theorem rsum (A : Option Addr) (n c : Nat) (a : List Int) (B : Option Addr) (m e : Nat) (b : List Int) (w : World) {N : Nat} (hN : N ≤ w.heap.size) (hra : Reads w N 1 A n (nums .i64 a)) (hrb : Reads w N 1 B m (nums .i64 b)) (la : a.length = n) (lb : b.length = m) (hn : n ≤ 100000 ∧ m ≤ 100000) (da : Dig a) (db : Dig b) : Calls Tryz.prog 115 #[.slice A n c, .slice B m e] w fun e w' => ∃ (A' : Option Addr) (c' : Nat) (o : List Int), e = .returned (.slice A' o.length c') ∧ o.length = max n m + 1 ∧ Dig o ∧ dv o = dv a + dv b ∧ w'.ownsRow w.heap.size 3 1 (.slice A' o.length c') o.length (nums .i64 o) ∧ Ext w w' := by
 obtain ⟨q, hq⟩ : ∃ q, q = max n m := ⟨_, rfl⟩
 have hqn : n ≤ q ∧ m ≤ q ∧ q ≤ 100000 := by omega
 refine enter Tryz.func115 rfl (by kernel_rfl) ?_
 refine J.seq ?_
 refine J.region ?_
 refine L.va rfl (X.assign (by conv => lhs; whnf)) ?_
 refine L.nil ?_
 refine J.seq ?_
 refine J.region ?_
 refine L.va rfl (X.assign (by conv => lhs; whnf)) ?_
 refine L.nil ?_
 refine J.seq ?_
 refine J.region ?_
 refine L.va rfl (X.assign (by conv => lhs; whnf)) ?_
 refine L.nil ?_
 iterate 2 refine J.seq ?_
 refine J.region ?_
 refine L.va rfl (X.assign (by conv => lhs; whnf)) ?_
 refine L.nil ?_
 refine J.block ?_
 refine J.loop (X := Nat × Int × Option Addr × Nat × List Int) [5, 6, 7, 8, 9, 10, 11, 12, 13, 14, 15, 16, 17, 18, 19, 20, 21, 22, 23, 24, 25, 26, 27, 28, 29, 30, 31, 32, 33] (fun (i, cy, B, oc, o) => [(7, .int .i64 (i : Int)), (6, .int .i64 cy), (5, .slice B o.length oc)]) (fun (i, cy, B, oc, o) w' => i ≤ q ∧ o.length = i ∧ Dig o ∧ (0 ≤ cy ∧ cy ≤ 1) ∧ dv o + cy * 1000 ^ i = dv (a.take i) + dv (b.take i) ∧ w'.ownsRow w.heap.size 3 1 (.slice B o.length oc) o.length (nums .i64 o) ∧ Ext w w') (fun (i, _) => q - i) ((0, 0, none, 0, [])) (At3 (by first | rfl | exact at_int rfl (by omega) | exact at_slice rfl (by omega) | exact at_int rfl (by simp)) (by first | rfl | exact at_int rfl (by omega) | exact at_slice rfl (by omega) | exact at_int rfl (by simp)) (by first | rfl | exact at_int rfl (by omega) | exact at_slice rfl (by omega) | exact at_int rfl (by simp))) ?_ ?_
 ·exact ⟨Nat.zero_le _, rfl, dig_nil, by decide, by simp [dv], own_nil _ _ _ _, Ext.refl _⟩
 ·rintro ⟨i, cy, B', oc, o⟩ g w2 ⟨hi, ho, dgo, hcy, hv, own, he⟩
  have z2 := he.le
  iterate 2 refine J.seq ?_
  refine J.region ?_
  iterate 2 refine L.va rfl (X.move (by conv => lhs; whnf)) ?_
  refine L.va rfl (X.len rfl Tryz.underlying44) ?_
  refine L.va rfl (X.move (by conv => lhs; whnf)) ?_
  refine L.va rfl (X.len rfl Tryz.underlying44) ?_
  refine L.va rfl (X.max2 rfl rfl) ?_
  refine L.va rfl (X.lss rfl rfl) ?_
  refine L.nil ?_
  have eL : (max (n : Int) (m : Int)) = (q : Int) := by omega
  rw [eL]
  refine J.dec rfl (fun hlt => ?_) (fun hlt => ?_)
  ·have c1 := rdigit A n c a i w2 (hra.ext he) la (by unfold maxLen; omega)
   have c2 := rdigit B m e b i w2 (hrb.ext he) lb (by unfold maxLen; omega)
   have ga := da i
   have gb := db i
   refine J.skip ?_
   refine J.seq ?_
   refine J.block ?_
   refine J.seq ?_
   refine J.region ?_
   iterate 2 refine L.va rfl (X.move (by conv => lhs; whnf)) ?_
   refine L.call rfl en_120 rfl (c1) ?_
   rintro e _ ⟨rfl, rfl⟩
   refine ⟨_, rfl, ?_⟩
   iterate 2 refine L.va rfl (X.move (by conv => lhs; whnf)) ?_
   refine L.call rfl en_120 rfl (c2) ?_
   rintro e _ ⟨rfl, rfl⟩
   refine ⟨_, rfl, ?_⟩
   refine L.va rfl (X.add rfl rfl (by omega)) ?_
   refine L.va rfl (X.move (by conv => lhs; whnf)) ?_
   refine L.va rfl (X.add rfl rfl (by omega)) ?_
   refine L.va rfl (X.assign (by conv => lhs; whnf)) ?_
   refine L.nil ?_
   refine J.seq ?_
   refine J.region ?_
   iterate 2 refine L.va rfl (X.move (by conv => lhs; whnf)) ?_
   refine L.va rfl (X.rem rfl rfl (by omega)) ?_
   refine L.bslice (vs := [_]) rfl (Evs.cons (by conv => lhs; whnf) Evs.nil) rfl rfl rfl rfl Tryz.underlying44 sz_3 zr_3 (by decide) ?_
   intro b3 w3 hb3 hs3 hk3 he3
   have ho3 := own.ext he3
   have z3 := he3.le
   obtain ⟨s, hs⟩ : ∃ s, s = a.getD i 0 + b.getD i 0 + cy := ⟨_, rfl⟩
   refine L.appendQ (q := o.length + 1) (ys := o ++ [s % 1000]) rfl rfl rfl Tryz.underlying44 el_3 (ho3) ((blk_reads (q := 1) (l := nums .i64 [s % 1000]) (by rw [hs]; exact hk3) hk3.lt rfl)) (by omega) (by simp) (by unfold maxLen; omega) (by omega) ?_
   intro B4 c4 w4 ho4 hg4 hb4 hor4
   have he4 := (he.trans he3).grw hg4 (fun g hg => (ho3.lt g hg).1)
   have el : (o ++ [s % 1000]).length = o.length + 1 := by rw [List.length_append]; rfl
   refine L.va rfl (X.assign (by conv => lhs; whnf)) ?_
   refine L.nil ?_
   refine J.region ?_
   refine L.va rfl (X.move (by conv => lhs; whnf)) ?_
   refine L.va rfl (X.quo rfl rfl (by omega)) ?_
   refine L.va rfl (X.assign (by conv => lhs; whnf)) ?_
   refine L.nil ?_
   refine J.region ?_
   refine L.va rfl (X.move (by conv => lhs; whnf)) ?_
   refine L.va rfl (X.add rfl rfl (by omega)) ?_
   refine L.va rfl (X.assign (by conv => lhs; whnf)) ?_
   refine L.nil ?_
   refine ⟨(i + 1, s / 1000, B4, c4, o ++ [s % 1000]), At3 (rfl) (at_int rfl (by rw [hs])) (at_slice rfl el.symm), (by (iterate 29 refine Agr.lk rfl ?_); exact Agr.lk rfl (Agr.hav rfl Agr.rfl')), ?_⟩
   refine ⟨⟨by omega, by rw [el, ho], dig_snoc dgo (by omega), by omega, ?_, by rw [el]; exact ho4, he4⟩, by show q - (i + 1) < q - i; omega⟩
   rw [dv_snoc, ho, dv_next, dv_next, Int.pow_succ]
   have e1 : s = 1000 * (s / 1000) + s % 1000 := by omega
   generalize (1000 : Int) ^ i = p at *
   generalize s / 1000 = u at *
   generalize s % 1000 = r at *
   grind
  ·obtain rfl : i = q := by omega
   have ea : dv (a.take i) = dv a := dv_pad _ (by omega)
   have eb : dv (b.take i) = dv b := dv_pad _ (by omega)
   rw [ea, eb] at hv
   refine J.exit ?_
   refine J.seq ?_
   refine J.region ?_
   iterate 2 refine L.va rfl (X.move (by conv => lhs; whnf)) ?_
   refine L.bslice (vs := [_]) rfl (Evs.cons (by conv => lhs; whnf) Evs.nil) rfl rfl rfl rfl Tryz.underlying44 sz_3 zr_3 (by decide) ?_
   intro b3 w3 hb3 hs3 hk3 he3
   have ho3 := own.ext he3
   have z3 := he3.le
   refine L.appendQ (q := o.length + 1) (ys := o ++ [cy]) rfl rfl rfl Tryz.underlying44 el_3 (ho3) ((blk_reads (q := 1) (l := nums .i64 [cy]) hk3 hk3.lt rfl)) (by omega) (by simp) (by unfold maxLen; omega) (by omega) ?_
   intro B4 c4 w4 ho4 hg4 hb4 hor4
   have he4 := (he.trans he3).grw hg4 (fun g hg => (ho3.lt g hg).1)
   have el : (o ++ [cy]).length = o.length + 1 := by rw [List.length_append]; rfl
   refine L.va rfl (X.assign (by conv => lhs; whnf)) ?_
   refine L.nil ?_
   refine J.ret ?_
   refine fin1 ?_
   refine ⟨B4, c4, o ++ [cy], by rw [el]; rfl, by rw [el, ho, hq], dig_snoc dgo (by omega), ?_, by rw [el]; exact ho4, he4⟩
   rw [dv_snoc, ho, hv]
theorem radd {x y : Nu} {w : World} {N : Nat} (hN : N ≤ w.heap.size) (hx : x.At N w) (hy : y.At N w) (hg : x.g = y.g) (hs : x.n ≤ 90000 ∧ y.n ≤ 90000) : Calls Tryz.prog 103 #[x.val, y.val] w fun e w' => ∃ t : Nu, e = .returned t.val ∧ t.At w'.heap.size w' ∧ t.g = (x.g && decide (0 < t.n)) ∧ dv t.d = dv x.d + dv y.d ∧ t.n ≤ max x.n y.n + 1 ∧ t.Own w.heap.size w' ∧ Ext w w' := by
 have lx := hx.len
 have ly := hy.len
 refine enter Tryz.func103 rfl (by kernel_rfl) ?_
 refine J.seq ?_
 refine J.region ?_
 refine L.boxA (l := [_, _]) rfl rfl ?_
 intro b1 w1 hb1 hs1 hk1 he1
 refine L.boxA (l := [_, _]) rfl rfl ?_
 intro b2 w2 hb2 hs2 hk2 he2
 refine L.alloc rfl zr_111 ?_
 intro b3 w3 hb3 hs3 hk3 he3
 have he03 := (he1.trans he2).trans he3
 have z3 := he03.le
 have hk1 := (hk1.ext he2).ext he3
 have hk2 := hk2.ext he3
 refine L.nil ?_
 iterate 2 refine J.seq ?_
 refine J.region ?_
 refine L.va rfl (X.fieldAddr rfl Tryz.underlying111 rfl sz_4 (by decide)) ?_
 refine L.va rfl (X.load rfl sc_4 (by first | exact Ld.blk hk1 rfl | exact Ld.blk hk2 rfl)) ?_
 refine L.va rfl (X.fieldAddr rfl Tryz.underlying111 rfl sz_4 (by decide)) ?_
 refine L.va rfl (X.load rfl sc_4 (by first | exact Ld.blk hk1 rfl | exact Ld.blk hk2 rfl)) ?_
 refine L.va rfl (X.eqlB rfl rfl Tryz.underlying4) ?_
 refine L.nil ?_
 rw [show (x.g == y.g) = true by rw [hg]; exact beq_self_eq_true _]
 refine J.iteT rfl ?_
 refine J.seq ?_
 refine J.draw (ℓ := 8) (S := Ext w3) mixed (fun w4 hS hS_h => ?_)
 have z4 := hS.le
 have he04 := he03.trans hS
 have c1 := rsum x.A x.n x.c x.d y.A y.n y.c y.d w4 (N := N) (by omega) (hx.r.ext he04) (hy.r.ext he04) lx ly (by omega) hx.dg hy.dg
 refine D.va 0 rfl (by kernel_rfl) (fun _ _ _ h => h) rfl (fun w' hw => X.fieldAddr rfl Tryz.underlying111 rfl sz_4 (by decide)) hS ?_
 refine D.va 1 rfl (by kernel_rfl) (fun _ _ _ h => h) rfl (fun w' hw => X.load rfl sc_4 (by first | exact Ld.blk (hk1.ext hw) rfl | exact Ld.blk (hk2.ext hw) rfl)) hS ?_
 refine D.va 2 rfl (by kernel_rfl) (fun _ _ _ h => h) rfl (fun w' hw => X.fieldAddr rfl Tryz.underlying111 rfl sz_44 (by decide)) hS ?_
 refine D.va 3 rfl (by kernel_rfl) (fun _ _ _ h => h) rfl (fun w' hw => X.load rfl sc_44 (by first | exact Ld.blk (hk1.ext hw) rfl | exact Ld.blk (hk2.ext hw) rfl)) hS ?_
 refine D.va 4 rfl (by kernel_rfl) (fun _ _ _ h => h) rfl (fun w' hw => X.fieldAddr rfl Tryz.underlying111 rfl sz_44 (by decide)) hS ?_
 refine D.va 5 rfl (by kernel_rfl) (fun _ _ _ h => h) rfl (fun w' hw => X.load rfl sc_44 (by first | exact Ld.blk (hk1.ext hw) rfl | exact Ld.blk (hk2.ext hw) rfl)) hS ?_
 refine D.one 6 (by kernel_rfl) rfl ?_
 refine L.call rfl en_115 rfl (c1) ?_
 rintro e w5 ⟨A5, c5, o, rfl, hol, hod, hov, ho5, he5⟩
 refine ⟨_, rfl, ?_⟩
 have hS1 := hS.trans he5
 refine L.nil ?_
 refine ⟨fun _ => hS1, ?_⟩
 have hnc := own_bd ho5
 have c2 := rmade x.g A5 o.length c5 o w5 (Reads.of_own ho5) rfl hnc.1 (by omega)
 refine D.one 7 (by kernel_rfl) rfl ?_
 refine L.call rfl en_106 rfl (c2) ?_
 rintro e w6 ⟨he6, k, rfl, hk⟩
 refine ⟨_, rfl, ?_⟩
 have hS2 := (hS.trans he5).trans he6
 refine L.nil ?_
 refine ⟨fun _ => hS2, ?_⟩
 have hkl := hk.le
 have ho6 := ho5.ext he6
 have hk36 := hk3.ext ((hS.trans he5).trans he6)
 obtain ⟨m1, m2⟩ := nu_made (g := x.g) (Reads.of_own ho6) hod rfl hnc.1 (by omega) hk
 refine D.one 8 (by kernel_rfl) rfl ?_
 refine L.storeAgg (vs := [_, _]) rfl rfl rfl rfl sz_111 (hk36) rfl ?_
 intro w7 hk7 hg7 hs7
 refine L.nil ?_
 refine ⟨fun h => absurd rfl h, ?_⟩
 have he7 : Ext w w7 := ((he04.trans he5).trans he6).grw hg7 (by intro g hg; injection hg with hg; omega)
 have ho7 := ho6.kept hg7 (.inr (own_blk_ne ho6 hk36 (by decide)))
 obtain ⟨m1, m2⟩ := nu_made (g := x.g) (Reads.of_own ho7) hod rfl hnc.1 (by omega) hk
 refine D.done (by kernel_rfl) ?_
 refine J.ret ?_
 refine thn_ret <| ?_
 refine finC rfl (run_cell hk7 Tryz.underlying111 rfl (by kernel_rfl)) ?_
 exact ⟨⟨x.g && decide (0 < k), A5, k, c5, o.take k⟩, rfl, m1, rfl, m2.trans hov, by show k ≤ _; omega, own_lowN (own_cutN ho7 hkl) he04.le, he7⟩
theorem rneg {x : Nu} {w : World} {N : Nat} (hN : N ≤ w.heap.size) (hx : x.At N w) : Calls Tryz.prog 86 #[x.val] w fun e w' => e = .returned (Nu.mk (!x.g && decide (0 < x.n)) x.A x.n x.c x.d).val ∧ (Nu.mk (!x.g && decide (0 < x.n)) x.A x.n x.c x.d).At w'.heap.size w' ∧ Ext w w' := by
 have lx := hx.len
 have sm := hx.sm
 refine enter Tryz.func86 rfl (by kernel_rfl) ?_
 refine J.seq ?_
 refine J.region ?_
 refine L.boxA (l := [_, _]) rfl rfl ?_
 intro b1 w1 hb1 hs1 hk1 he1
 refine L.alloc rfl zr_111 ?_
 intro b2 w2 hb2 hs2 hk2 he2
 have he02 := he1.trans he2
 have z2 := he02.le
 have hk1 := hk1.ext he2
 have c1 := rmade (!x.g) x.A x.n x.c x.d w2 (hx.r.ext he02) lx hx.cp (by omega)
 refine L.nil ?_
 refine J.seq ?_
 refine J.region ?_
 refine L.va rfl (X.fieldAddr rfl Tryz.underlying111 rfl sz_4 (by decide)) ?_
 refine L.va rfl (X.load rfl sc_4 (by first | exact Ld.blk hk1 rfl)) ?_
 refine L.va rfl (X.not rfl) ?_
 refine L.va rfl (X.fieldAddr rfl Tryz.underlying111 rfl sz_44 (by decide)) ?_
 refine L.va rfl (X.load rfl sc_44 (by first | exact Ld.blk hk1 rfl)) ?_
 refine L.call rfl en_106 rfl (c1) ?_
 rintro e w3 ⟨he3, k, rfl, hk⟩
 refine ⟨_, rfl, ?_⟩
 have he3 : Ext w2 w3 := he3
 have he03 := he02.trans he3
 have hk2 := hk2.ext he3
 have hkl := hk.le
 have ek : k = x.n := by
  apply Decidable.byContradiction
  intro h
  have h1 := hk.z (x.d.length - 1) (by omega) (by omega)
  exact hx.cn (by omega) h1
 subst ek
 refine L.storeAgg (vs := [_, _]) rfl rfl rfl rfl sz_111 (hk2) rfl ?_
 intro w4 hk4 hg4 hs4
 have he4 : Ext w w4 := he03.grw hg4 (by intro g hg; injection hg with hg; omega)
 have hr4 := (hx.r.ext he4).more (show N ≤ w4.heap.size by have := he4.le; omega)
 obtain ⟨m1, m2⟩ := nu_made (g := !x.g) hr4 hx.dg lx hx.cp sm hk
 have et : x.d.take x.n = x.d := by rw [List.take_of_length_le (by omega)]
 rw [et] at m1
 refine L.nil ?_
 refine J.ret ?_
 refine finC rfl (run_cell hk4 Tryz.underlying111 rfl (by kernel_rfl)) ?_
 exact ⟨rfl, m1, he4⟩
end Go.Proofs.YtpomklkfedpkfaaGreat
namespace Go.Proofs.YtpomklkfedpkfaaGreat
set_option maxRecDepth 100000
open Go.RowKit H
open Num
set_option linter.unusedVariables false
theorem getD_setN {l : List Int} {i j : Nat} {x : Int} (h : i ≠ j) : (l.set i x).getD j 0 = l.getD j 0 := by
  rw [List.getD, List.getD, List.getElem?_set, if_neg h]
theorem dv_full {d : List Int} {n : Nat} (h : d.length = n) : dv (d.take n) = dv d := by rw [List.take_of_length_le (by omega)]
theorem rmul {x y : Nu} {w : World} {N : Nat} (hN : N ≤ w.heap.size) (hx : x.At N w) (hy : y.At N w) (hs : x.n ≤ 40000 ∧ y.n ≤ 40000) : Calls Tryz.prog 104 #[x.val, y.val] w fun e w' => ∃ t : Nu, e = .returned t.val ∧ t.At w'.heap.size w' ∧ t.g = ((!(x.g == y.g)) && decide (0 < t.n)) ∧ dv t.d = dv x.d * dv y.d ∧ t.n ≤ x.n + y.n + 1 ∧ t.Own w.heap.size w' ∧ Ext w w' := by
 have lx := hx.len
 have ly := hy.len
 refine enter Tryz.func104 rfl (by kernel_rfl) ?_
 refine J.seq ?_
 refine J.region ?_
 refine L.boxA (l := [_, _]) rfl rfl ?_
 intro b1 w1 hb1 hs1 hk1 he1
 refine L.boxA (l := [_, _]) rfl rfl ?_
 intro b2 w2 hb2 hs2 hk2 he2
 refine L.alloc rfl zr_111 ?_
 intro b3 w3 hb3 hs3 hk3 he3
 have he03 := (he1.trans he2).trans he3
 have z3 := he03.le
 have hk1 := (hk1.ext he2).ext he3
 have hk2 := hk2.ext he3
 refine L.nil ?_
 refine J.seq ?_
 refine J.region ?_
 refine L.va rfl (X.fieldAddr rfl Tryz.underlying111 rfl sz_44 (by decide)) ?_
 refine L.va rfl (X.load rfl sc_44 (by first | exact Ld.blk hk1 rfl | exact Ld.blk hk2 rfl)) ?_
 refine L.va rfl (X.len rfl Tryz.underlying44) ?_
 refine L.va rfl (X.fieldAddr rfl Tryz.underlying111 rfl sz_44 (by decide)) ?_
 refine L.va rfl (X.load rfl sc_44 (by first | exact Ld.blk hk1 rfl | exact Ld.blk hk2 rfl)) ?_
 refine L.va rfl (X.len rfl Tryz.underlying44) ?_
 iterate 2 refine L.va rfl (X.add rfl rfl (by omega)) ?_
 refine L.make (q := x.n + y.n + 1) (c := x.n + y.n + 1) rfl rfl rfl Tryz.underlying44 el_3 (by omega) ?_
 intro b4 w4 hb4 hs4 hk4 he4
 rw [made_one rfl] at hk4
 have he04 := he03.trans he4
 have z4 := he04.le
 obtain ⟨q, hq⟩ : ∃ q, q = x.n + y.n + 1 := ⟨_, rfl⟩
 have ho4 : w4.ownsRow w.heap.size 3 1 (.slice (some ⟨b4, 0, none⟩) q q) q (nums .i64 (List.replicate q 0)) := by
  rw [← hq] at hk4
  have := blk_own1 (base := w.heap.size) (q := q) (l := List.replicate q (Value.int .i64 0)) hk4 (by omega) (by unfold maxLen; omega) (by simp)
  have e : nums .i64 (List.replicate q 0) = List.replicate q (Value.int .i64 0) := by unfold nums; simp
  rw [e]
  exact this
 rw [← hq]
 have dz : Dig (List.replicate q 0) := by
  rw [dig_mem]
  intro z hz
  rw [(List.mem_replicate.1 hz).2]
  exact ⟨by decide, by decide⟩
 have zz : ∀ j, (List.replicate q (0 : Int)).getD j 0 = 0 := fun j => by
  rw [List.getD, List.getElem?_replicate]
  split <;> rfl
 have he34 : Ext w3 w4 := he4
 have hk1 := hk1.ext he34
 have hk2 := hk2.ext he34
 have hk3 := hk3.ext he34
 refine L.va rfl (X.assign (by conv => lhs; whnf)) ?_
 refine L.nil ?_
 refine J.cut (X := List Int) [6, 7, 8, 9, 19, 20, 21, 22, 23, 24, 25, 26, 27, 28, 29, 30, 31, 32, 33, 34, 35, 36, 37, 38, 39, 40, 41, 42, 43, 44, 45, 46, 47, 48, 49, 50, 51, 52, 53, 54, 55, 56, 57, 58, 59, 60, 61, 62, 63, 64, 65, 66, 67, 68, 69] (fun o => []) (fun o w' => o.length = q ∧ Dig o ∧ dv o = dv x.d * dv y.d ∧ w'.ownsRow w.heap.size 3 1 (.slice (some ⟨b4, 0, none⟩) q q) q (nums .i64 o) ∧ Blk w' b1 111 x.vs.toArray ∧ Blk w' b2 111 y.vs.toArray ∧ Blk w' b3 111 #[.bool false, .slice none 0 0] ∧ Ext w w') ?_ ?_
 ·refine J.seq ?_
  refine J.region ?_
  refine L.va rfl (X.assign (by conv => lhs; whnf)) ?_
  refine L.nil ?_
  refine J.block ?_
  refine J.loop (X := Nat × List Int) [6, 7, 8, 9, 19, 20, 21, 22, 23, 24, 25, 26, 27, 28, 29, 30, 31, 32, 33, 34, 35, 36, 37, 38, 39, 40, 41, 42, 43, 44, 45, 46, 47, 48, 49, 50, 51, 52, 53, 54, 55, 56, 57, 58, 59, 60, 61, 62, 63, 64, 65, 66, 67, 68, 69] (fun (i, o) => [(6, .int .i64 (i : Int))]) (fun (i, o) w' => i ≤ x.n ∧ o.length = q ∧ Dig o ∧ (∀ j, i + y.n ≤ j → o.getD j 0 = 0) ∧ dv o = dv (x.d.take i) * dv y.d ∧ w'.ownsRow w.heap.size 3 1 (.slice (some ⟨b4, 0, none⟩) q q) q (nums .i64 o) ∧ Blk w' b1 111 x.vs.toArray ∧ Blk w' b2 111 y.vs.toArray ∧ Blk w' b3 111 #[.bool false, .slice none 0 0] ∧ Ext w w') (fun (i, _) => x.n - i) ((0, List.replicate q 0)) (At1 (by first | rfl | exact at_int rfl (by omega) | exact at_slice rfl (by omega) | exact at_int rfl (by simp))) ?_ ?_
  ·refine ⟨Nat.zero_le _, by simp, dz, fun j _ => zz j, ?_, ho4, hk1, hk2, hk3, he04⟩
   rw [dv_zeros zz]
   simp [dv]
  ·rintro ⟨i, o⟩ g w5 ⟨hi, hol, hod, hoz, hov, ho5, hk51, hk52, hk53, he5⟩
   have z5 := he5.le
   iterate 2 refine J.seq ?_
   refine J.region ?_
   refine L.va rfl (X.move (by conv => lhs; whnf)) ?_
   refine L.va rfl (X.fieldAddr rfl Tryz.underlying111 rfl sz_44 (by decide)) ?_
   refine L.va rfl (X.load rfl sc_44 (by first | exact Ld.blk hk51 rfl | exact Ld.blk hk52 rfl)) ?_
   refine L.va rfl (X.len rfl Tryz.underlying44) ?_
   refine L.va rfl (X.lss rfl rfl) ?_
   refine L.nil ?_
   refine J.dec rfl (fun hlt => ?_) (fun hlt => ?_)
   ·have hin : i < x.d.length := by omega
    have gx := hx.dg i
    refine J.skip ?_
    refine J.seq ?_
    refine J.block ?_
    refine J.seq ?_
    refine J.region ?_
    refine L.va rfl (X.assign (by conv => lhs; whnf)) ?_
    refine L.nil ?_
    refine J.cut (X := Int × List Int) [7, 8, 9, 26, 27, 28, 29, 30, 31, 32, 33, 34, 35, 36, 37, 38, 39, 40, 41, 42, 43, 44, 45, 46, 47, 48, 49, 50, 51, 52, 53, 54, 55, 56, 57, 58, 59, 60, 61] (fun (cy, p) => [(7, .int .i64 cy)]) (fun (cy, p) w' => p.length = q ∧ Dig p ∧ (0 ≤ cy ∧ cy ≤ 999) ∧ (∀ j, i + y.n ≤ j → p.getD j 0 = o.getD j 0) ∧ dv p + cy * 1000 ^ (i + y.n) = dv o + x.d.getD i 0 * 1000 ^ i * dv (y.d.take y.n) ∧ w'.ownsRow w.heap.size 3 1 (.slice (some ⟨b4, 0, none⟩) q q) q (nums .i64 p) ∧ Blk w' b1 111 x.vs.toArray ∧ Blk w' b2 111 y.vs.toArray ∧ Blk w' b3 111 #[.bool false, .slice none 0 0] ∧ Ext w w') ?_ ?_
    ·refine J.seq ?_
     refine J.region ?_
     refine L.va rfl (X.assign (by conv => lhs; whnf)) ?_
     refine L.nil ?_
     refine J.block ?_
     refine J.loop (X := Nat × Int × List Int) [7, 8, 9, 26, 27, 28, 29, 30, 31, 32, 33, 34, 35, 36, 37, 38, 39, 40, 41, 42, 43, 44, 45, 46, 47, 48, 49, 50, 51, 52, 53, 54, 55, 56, 57, 58, 59, 60, 61] (fun (k, cy, p) => [(8, .int .i64 (k : Int)), (7, .int .i64 cy)]) (fun (k, cy, p) w' => k ≤ y.n ∧ p.length = q ∧ Dig p ∧ (0 ≤ cy ∧ cy ≤ 999) ∧ (∀ j, i + k ≤ j → p.getD j 0 = o.getD j 0) ∧ dv p + cy * 1000 ^ (i + k) = dv o + x.d.getD i 0 * 1000 ^ i * dv (y.d.take k) ∧ w'.ownsRow w.heap.size 3 1 (.slice (some ⟨b4, 0, none⟩) q q) q (nums .i64 p) ∧ Blk w' b1 111 x.vs.toArray ∧ Blk w' b2 111 y.vs.toArray ∧ Blk w' b3 111 #[.bool false, .slice none 0 0] ∧ Ext w w') (fun (k, _) => y.n - k) ((0, 0, o)) (At2 (by first | rfl | exact at_int rfl (by omega) | exact at_slice rfl (by omega) | exact at_int rfl (by simp)) (by first | rfl | exact at_int rfl (by omega) | exact at_slice rfl (by omega) | exact at_int rfl (by simp))) ?_ ?_
     ·exact ⟨Nat.zero_le _, hol, hod, by decide, fun j _ => rfl, by simp [dv], ho5, hk51, hk52, hk53, he5⟩
     ·rintro ⟨k, cy, p⟩ g w6 ⟨hk, hpl, hpd, hcy, hpz, hpv, ho6, hk61, hk62, hk63, he6⟩
      have z6 := he6.le
      iterate 2 refine J.seq ?_
      refine J.region ?_
      refine L.va rfl (X.move (by conv => lhs; whnf)) ?_
      refine L.va rfl (X.fieldAddr rfl Tryz.underlying111 rfl sz_44 (by decide)) ?_
      refine L.va rfl (X.load rfl sc_44 (by first | exact Ld.blk hk61 rfl | exact Ld.blk hk62 rfl)) ?_
      refine L.va rfl (X.len rfl Tryz.underlying44) ?_
      refine L.va rfl (X.lss rfl rfl) ?_
      refine L.nil ?_
      refine J.dec rfl (fun hlt2 => ?_) (fun hlt2 => ?_)
      ·have hkn : k < y.d.length := by omega
       have gy := hy.dg k
       have gp := hpd (i + k)
       have hab : 0 ≤ x.d.getD i 0 * y.d.getD k 0 ∧ x.d.getD i 0 * y.d.getD k 0 ≤ 998001 := by
        refine ⟨Int.mul_nonneg gx.1 gy.1, ?_⟩
        have h1 : x.d.getD i 0 ≤ 999 := by omega
        have h2 : y.d.getD k 0 ≤ 999 := by omega
        exact Int.le_trans (Int.mul_le_mul h1 h2 gy.1 (by decide)) (by decide)
       have hrx := hx.r.ext he6
       have hry := hy.r.ext he6
       have hAx := hrx.some_ (by omega)
       have hAy := hry.some_ (by omega)
       refine J.skip ?_
       refine J.seq ?_
       refine J.block ?_
       refine J.seq ?_
       refine J.draw (ℓ := 1000000) (S := Ext w6) mixed (fun w7 hS hS_h => ?_)
       refine D.va 0 rfl (by kernel_rfl) (fun _ _ _ h => h) rfl (fun w' hw => X.move (by conv => lhs; whnf)) hS ?_
       refine D.va 1 rfl (by kernel_rfl) (fun _ _ _ h => h) rfl (fun w' hw => X.move (by conv => lhs; whnf)) hS ?_
       refine D.va 2 rfl (by kernel_rfl) (fun _ _ _ h => h) rfl (fun w' hw => X.move (by conv => lhs; whnf)) hS ?_
       refine D.va 3 rfl (by kernel_rfl) (fun _ _ _ h => h) rfl (fun w' hw => X.add rfl rfl (by omega)) hS ?_
       refine D.va 4 rfl (by kernel_rfl) (fun _ _ _ h => h) rfl (fun w' hw => X.index1e (j := i + k) rfl rfl (by omega) Tryz.underlying44 sz_3 (Option.some_ne_none _) (by omega)) hS ?_
       refine D.va 5 rfl (by kernel_rfl) (fun _ _ _ h => h) rfl (fun w' hw => X.load rfl sc_3 (Ld.own (ho6.ext hw) (j := i + k) (by omega))) hS ?_
       refine D.va 6 rfl (by kernel_rfl) (fun _ _ _ h => h) rfl (fun w' hw => X.fieldAddr rfl Tryz.underlying111 rfl sz_44 (by decide)) hS ?_
       refine D.va 7 rfl (by kernel_rfl) (fun _ _ _ h => h) rfl (fun w' hw => X.load rfl sc_44 (by first | exact Ld.blk (hk61.ext hw) rfl | exact Ld.blk (hk62.ext hw) rfl | exact Ld.num (hrx.ext hw) (by omega) | exact Ld.num (hry.ext hw) (by omega) | exact Ld.own (ho6.ext hw) (by omega) | exact hAx | exact hAy)) hS ?_
       refine D.va 8 rfl (by kernel_rfl) (fun _ _ _ h => h) rfl (fun w' hw => X.move (by conv => lhs; whnf)) hS ?_
       refine D.va 9 rfl (by kernel_rfl) (fun _ _ _ h => h) rfl (fun w' hw => (by first | exact X.index1n rfl rfl Tryz.underlying44 sz_3 (by first | exact Option.some_ne_none _ | exact hrx.some_ (by omega) | exact hry.some_ (by omega) | exact own_ne ho6 (by omega) | exact hAx | exact hAy) (by omega) | exact X.index1 rfl rfl Tryz.underlying44 sz_3 (by first | exact Option.some_ne_none _ | exact hrx.some_ (by omega) | exact hry.some_ (by omega) | exact own_ne ho6 (by omega) | exact hAx | exact hAy) (by omega))) hS ?_
       refine D.va 10 rfl (by kernel_rfl) (fun _ _ _ h => h) rfl (fun w' hw => X.load rfl sc_3 (by first | exact Ld.blk (hk61.ext hw) rfl | exact Ld.blk (hk62.ext hw) rfl | exact Ld.num (hrx.ext hw) (by omega) | exact Ld.num (hry.ext hw) (by omega) | exact Ld.own (ho6.ext hw) (by omega) | exact hAx | exact hAy)) hS ?_
       refine D.va 11 rfl (by kernel_rfl) (fun _ _ _ h => h) rfl (fun w' hw => X.fieldAddr rfl Tryz.underlying111 rfl sz_44 (by decide)) hS ?_
       refine D.va 12 rfl (by kernel_rfl) (fun _ _ _ h => h) rfl (fun w' hw => X.load rfl sc_44 (by first | exact Ld.blk (hk61.ext hw) rfl | exact Ld.blk (hk62.ext hw) rfl | exact Ld.num (hrx.ext hw) (by omega) | exact Ld.num (hry.ext hw) (by omega) | exact Ld.own (ho6.ext hw) (by omega) | exact hAx | exact hAy)) hS ?_
       refine D.va 13 rfl (by kernel_rfl) (fun _ _ _ h => h) rfl (fun w' hw => X.move (by conv => lhs; whnf)) hS ?_
       refine D.va 14 rfl (by kernel_rfl) (fun _ _ _ h => h) rfl (fun w' hw => (by first | exact X.index1n rfl rfl Tryz.underlying44 sz_3 (by first | exact Option.some_ne_none _ | exact hrx.some_ (by omega) | exact hry.some_ (by omega) | exact own_ne ho6 (by omega) | exact hAx | exact hAy) (by omega) | exact X.index1 rfl rfl Tryz.underlying44 sz_3 (by first | exact Option.some_ne_none _ | exact hrx.some_ (by omega) | exact hry.some_ (by omega) | exact own_ne ho6 (by omega) | exact hAx | exact hAy) (by omega))) hS ?_
       refine D.va 15 rfl (by kernel_rfl) (fun _ _ _ h => h) rfl (fun w' hw => X.load rfl sc_3 (by first | exact Ld.blk (hk61.ext hw) rfl | exact Ld.blk (hk62.ext hw) rfl | exact Ld.num (hrx.ext hw) (by omega) | exact Ld.num (hry.ext hw) (by omega) | exact Ld.own (ho6.ext hw) (by omega) | exact hAx | exact hAy)) hS ?_
       refine D.va 16 rfl (by kernel_rfl) (fun _ _ _ h => h) rfl (fun w' hw => X.mul rfl rfl (by omega)) hS ?_
       refine D.va 17 rfl (by kernel_rfl) (fun _ _ _ h => h) rfl (fun w' hw => X.add rfl rfl (by omega)) hS ?_
       refine D.va 18 rfl (by kernel_rfl) (fun _ _ _ h => h) rfl (fun w' hw => X.move (by conv => lhs; whnf)) hS ?_
       refine D.va 19 rfl (by kernel_rfl) (fun _ _ _ h => h) rfl (fun w' hw => X.add rfl rfl (by omega)) hS ?_
       refine D.va 20 rfl (by kernel_rfl) (fun _ _ _ h => h) rfl (fun w' hw => X.assign (by conv => lhs; whnf)) hS ?_
       refine D.done (by kernel_rfl) ?_
       replace hk61 := hk61.ext hS
       replace hk62 := hk62.ext hS
       replace hrx := hrx.ext hS
       replace hry := hry.ext hS
       replace ho6 := ho6.ext hS
       refine J.seq ?_
       refine J.region ?_
       iterate 3 refine L.va rfl (X.move (by conv => lhs; whnf)) ?_
       refine L.va rfl (X.add rfl rfl (by omega)) ?_
       refine L.va rfl (X.move (by conv => lhs; whnf)) ?_
       refine L.va rfl (X.rem rfl rfl (by omega)) ?_
       refine L.va rfl ((by first | exact X.index1n rfl rfl Tryz.underlying44 sz_3 (by first | exact Option.some_ne_none _ | exact hrx.some_ (by omega) | exact hry.some_ (by omega) | exact own_ne ho6 (by omega) | exact hAx | exact hAy) (by omega) | exact X.index1 rfl rfl Tryz.underlying44 sz_3 (by first | exact Option.some_ne_none _ | exact hrx.some_ (by omega) | exact hry.some_ (by omega) | exact own_ne ho6 (by omega) | exact hAx | exact hAy) (by omega))) ?_
       obtain ⟨s, hs⟩ : ∃ s, s = p.getD (i + k) 0 + x.d.getD i 0 * y.d.getD k 0 + cy := ⟨_, rfl⟩
       have hk71 := hk61
       have hk72 := hk62
       have hk73 := hk63.ext hS
       have ho7 := ho6
       refine L.storeON rfl rfl (by conv => lhs; whnf) sz_3 (ho7) (by omega) ?_
       intro w8 ho8 hg8 hb8 hs8
       rw [← hs] at ho8
       have hk81 := hk71.grown hg8 (fun e => own_blk_ne ho7 hk71 (by decide) e.symm)
       have hk82 := hk72.grown hg8 (fun e => own_blk_ne ho7 hk72 (by decide) e.symm)
       have hk83 := hk73.grown hg8 (fun e => own_blk_ne ho7 hk73 (by decide) e.symm)
       have he8 := (he6.trans hS).grw hg8 (fun g hg => (ho7.lt g hg).1)
       refine L.nil ?_
       refine J.region ?_
       refine L.va rfl (X.move (by conv => lhs; whnf)) ?_
       refine L.va rfl (X.quo rfl rfl (by omega)) ?_
       refine L.va rfl (X.assign (by conv => lhs; whnf)) ?_
       refine L.nil ?_
       refine J.region ?_
       refine L.va rfl (X.move (by conv => lhs; whnf)) ?_
       refine L.va rfl (X.add rfl rfl (by omega)) ?_
       refine L.va rfl (X.assign (by conv => lhs; whnf)) ?_
       refine L.nil ?_
       refine ⟨(k + 1, s / 1000, p.set (i + k) (s % 1000)), At2 (rfl) (at_int rfl (by rw [hs])), (by (iterate 39 refine Agr.lk rfl ?_); exact Agr.lk rfl (Agr.hav rfl Agr.rfl')), ?_⟩
       refine ⟨⟨by omega, by rw [List.length_set]; exact hpl, dig_set hpd _ (by omega), by omega, fun j hj => ?_, ?_, ho8, hk81, hk82, hk83, he8⟩, by show y.n - (k + 1) < y.n - k; omega⟩
       ·rw [getD_setN (by omega)]
        exact hpz j (by omega)
       ·rw [dv_set _ (by omega), dv_take hkn, show i + (k + 1) = i + k + 1 by omega, Int.pow_succ]
        have e1 : s = 1000 * (s / 1000) + s % 1000 := by omega
        have e2 : (1000 : Int) ^ (i + k) = 1000 ^ i * 1000 ^ k := Int.pow_add ..
        rw [e2] at hpv ⊢
        generalize (1000 : Int) ^ i = pi at *
        generalize (1000 : Int) ^ k = pk at *
        generalize s / 1000 = u at *
        generalize s % 1000 = r at *
        generalize x.d.getD i 0 = xi at *
        generalize y.d.getD k 0 = yk at *
        generalize p.getD (i + k) 0 = pp at *
        grind
      ·obtain rfl : k = y.n := by omega
       refine J.exit ?_
       refine ⟨(cy, p), At1 (by first | rfl | exact at_int rfl (by omega) | exact at_slice rfl (by omega) | exact at_int rfl (by simp)), (by (iterate 5 refine Agr.lk rfl ?_); refine Agr.lk rfl ?_; refine Agr.hav rfl ?_; (iterate 1 refine Agr.lk rfl ?_); exact Agr.rfl'), ?_⟩
       exact ⟨hpl, hpd, hcy, hpz, hpv, ho6, hk61, hk62, hk63, he6⟩
    ·rintro ⟨cy, p⟩ g w6 ⟨hpl, hpd, hcy, hpz, hpv, ho6, hk61, hk62, hk63, he6⟩
     refine J.region ?_
     iterate 2 refine L.va rfl (X.move (by conv => lhs; whnf)) ?_
     refine L.va rfl (X.fieldAddr rfl Tryz.underlying111 rfl sz_44 (by decide)) ?_
     refine L.va rfl (X.load rfl sc_44 (by first | exact Ld.blk hk61 rfl | exact Ld.blk hk62 rfl)) ?_
     refine L.va rfl (X.len rfl Tryz.underlying44) ?_
     refine L.va rfl (X.add rfl rfl (by omega)) ?_
     refine L.va rfl (X.move (by conv => lhs; whnf)) ?_
     refine L.va rfl (X.index1e (j := i + y.n) rfl rfl (by omega) Tryz.underlying44 sz_3 (Option.some_ne_none _) (by omega)) ?_
     refine L.storeON rfl rfl (by conv => lhs; whnf) sz_3 (ho6) (by omega) ?_
     intro w8 ho8 hg8 hb8 hs8
     have hk81 := hk61.grown hg8 (fun e => own_blk_ne ho6 hk61 (by decide) e.symm)
     have hk82 := hk62.grown hg8 (fun e => own_blk_ne ho6 hk62 (by decide) e.symm)
     have hk83 := hk63.grown hg8 (fun e => own_blk_ne ho6 hk63 (by decide) e.symm)
     have he8 := he6.grw hg8 (fun g hg => (ho6.lt g hg).1)
     refine L.nil ?_
     refine J.region ?_
     refine L.va rfl (X.move (by conv => lhs; whnf)) ?_
     refine L.va rfl (X.add rfl rfl (by omega)) ?_
     refine L.va rfl (X.assign (by conv => lhs; whnf)) ?_
     refine L.nil ?_
     refine ⟨(i + 1, p.set (i + y.n) cy), At1 (by first | rfl | exact at_int rfl (by omega) | exact at_slice rfl (by omega) | exact at_int rfl (by simp)), (by (iterate 11 refine Agr.lk rfl ?_); refine Agr.lk rfl ?_; refine Agr.hav rfl ?_; (iterate 6 refine Agr.lk rfl ?_); exact Agr.lk rfl (Agr.hav rfl Agr.rfl')), ?_⟩
     refine ⟨⟨by omega, by rw [List.length_set]; exact hpl, dig_set hpd _ (by omega), fun j hj => ?_, ?_, ho8, hk81, hk82, hk83, he8⟩, by show x.n - (i + 1) < x.n - i; omega⟩
     ·rw [getD_setN (by omega), hpz j (by omega)]
      exact hoz j (by omega)
     ·rw [dv_set _ (by omega), dv_take hin, hpz _ (Nat.le_refl _), hoz _ (Nat.le_refl _)]
      rw [dv_full ly] at hpv
      generalize (1000 : Int) ^ (i + y.n) = p1 at *
      generalize (1000 : Int) ^ i = pi at *
      generalize x.d.getD i 0 = xi at *
      grind
   ·obtain rfl : i = x.n := by omega
    rw [dv_full lx] at hov
    refine J.exit ?_
    refine ⟨o, At0 , (by (iterate 5 refine Agr.lk rfl ?_); refine Agr.lk rfl ?_; refine Agr.hav rfl ?_; (iterate 1 refine Agr.lk rfl ?_); exact Agr.rfl'), ?_⟩
    exact ⟨hol, hod, hov, ho5, hk51, hk52, hk53, he5⟩
 ·rintro o g w5 ⟨hol, hod, hov, ho5, hk51, hk52, hk53, he5⟩
  have z5 := he5.le
  have c6 := rmade (!(x.g == y.g)) (some ⟨b4, 0, none⟩) q q o w5 (Reads.of_own ho5) hol (Nat.le_refl _) (by omega)
  refine J.seq ?_
  refine J.region ?_
  refine L.va rfl (X.fieldAddr rfl Tryz.underlying111 rfl sz_4 (by decide)) ?_
  refine L.va rfl (X.load rfl sc_4 (by first | exact Ld.blk hk51 rfl | exact Ld.blk hk52 rfl)) ?_
  refine L.va rfl (X.fieldAddr rfl Tryz.underlying111 rfl sz_4 (by decide)) ?_
  refine L.va rfl (X.load rfl sc_4 (by first | exact Ld.blk hk51 rfl | exact Ld.blk hk52 rfl)) ?_
  refine L.va rfl (X.neqB rfl rfl Tryz.underlying4) ?_
  refine L.va rfl (X.move (by conv => lhs; whnf)) ?_
  refine L.call rfl en_106 rfl (c6) ?_
  rintro e w6 ⟨he6, k, rfl, hk⟩
  refine ⟨_, rfl, ?_⟩
  have he6 : Ext w5 w6 := he6
  have hkl := hk.le
  have ho6 := ho5.ext he6
  have hk63 := hk53.ext he6
  refine L.storeAgg (vs := [_, _]) rfl rfl rfl rfl sz_111 (hk63) rfl ?_
  intro w7 hk7 hg7 hs7
  have he7 : Ext w w7 := (he5.trans he6).grw hg7 (by intro g hg; injection hg with hg; omega)
  have ho7 := ho6.kept hg7 (.inr (own_blk_ne ho6 hk63 (by decide)))
  obtain ⟨m1, m2⟩ := nu_made (g := !(x.g == y.g)) (Reads.of_own ho7) hod hol (Nat.le_refl _) (by omega) hk
  refine L.nil ?_
  refine J.ret ?_
  refine finC rfl (run_cell hk7 Tryz.underlying111 rfl (by kernel_rfl)) ?_
  exact ⟨⟨(!(x.g == y.g)) && decide (0 < k), some ⟨b4, 0, none⟩, k, q, o.take k⟩, rfl, m1, rfl, m2.trans hov, by show k ≤ _; omega, own_cutN ho7 (show k ≤ q by rw [← hol]; exact hkl), he7⟩
end Go.Proofs.YtpomklkfedpkfaaGreat
namespace Go.Proofs.YtpomklkfedpkfaaGreat
set_option maxRecDepth 100000
open Go.RowKit H
open Num
set_option linter.unusedVariables false
def nv : List Int → Int
  | [] => 0
  | x :: t => x + 4294967296 * nv t
theorem drop_getDi {l : List Int} {i : Nat} (h : i < l.length) : l.drop i = l.getD i 0 :: l.drop (i + 1) := by
  rw [List.drop_eq_getElem_cons h, List.getD, List.getElem?_eq_getElem h]
  rfl
theorem rnum (A : Option Addr) (n c : Nat) (a : List Int) (w : World) {N : Nat} (hN : N ≤ w.heap.size) (hr : Reads w N 1 A n (nums .u32 a)) (hl : a.length = n) (hb : InB 4294967296 a) (hn : n ≤ 1000) : Calls Tryz.prog 85 #[.slice A n c] w fun e w' => ∃ t : Nu, e = .returned t.val ∧ t.At w'.heap.size w' ∧ t.g = false ∧ dv t.d = nv a ∧ t.n ≤ 10 * n ∧ t.Own w.heap.size w' ∧ Ext w w' := by
 refine enter Tryz.func85 rfl (by kernel_rfl) ?_
 refine J.seq ?_
 refine J.region ?_
 refine L.alloc rfl zr_111 ?_
 intro b1 w1 hb1 hs1 hk1 he1
 refine L.nil ?_
 refine J.seq ?_
 refine J.region ?_
 refine L.va rfl (X.build (l := [_, _]) Evs.nil (bld_run Tryz.underlying111 (bp_111 Tryz.underlying111) zr_111 rfl)) ?_
 refine L.alloc rfl zr_111 ?_
 intro b2 w2 hb2 hs2 hk2 he2
 have hk1 := hk1.ext he2
 have he02 := he1.trans he2
 have z2 := he02.le
 refine L.storeAgg (vs := [_, _]) rfl rfl rfl rfl sz_111 (hk2) rfl ?_
 intro w3 hk3 hg3 hs3
 have hk3 : Blk w3 b2 111 (Nu.mk false none 0 0 []).vs.toArray := hk3
 have hk13 := hk1.grown hg3 (fun e => by injection e with e; omega)
 have he3 : Ext w w3 := he02.grw hg3 (by intro g hg; injection hg with hg; omega)
 refine L.nil ?_
 refine J.cut (X := Nu) [4, 6, 7, 8, 9, 10, 11, 12, 13, 14, 15, 16, 17, 18, 19, 20, 21, 22] (fun t => []) (fun t w' => t.At w'.heap.size w' ∧ t.g = false ∧ dv t.d = nv a ∧ t.n ≤ 10 * n ∧ t.Own w.heap.size w' ∧ Blk w' b2 111 t.vs.toArray ∧ Blk w' b1 111 #[.bool false, .slice none 0 0] ∧ Ext w w') ?_ ?_
 ·refine J.seq ?_
  refine J.region ?_
  refine L.va rfl (X.move (by conv => lhs; whnf)) ?_
  refine L.va rfl (X.len rfl Tryz.underlying24) ?_
  refine L.va rfl (X.sub rfl rfl (by omega)) ?_
  refine L.va rfl (X.assign (by conv => lhs; whnf)) ?_
  refine L.nil ?_
  refine J.block ?_
  refine J.loop (X := Nat × Nu) [4, 9, 10, 11, 12, 13, 14, 15, 16, 17, 18, 19, 20, 21, 22] (fun (k, t) => [(4, .int .i64 ((k : Int) - 1))]) (fun (k, t) w' => k ≤ n ∧ t.At w'.heap.size w' ∧ t.g = false ∧ dv t.d = nv (a.drop k) ∧ t.n ≤ 10 * (n - k) ∧ t.Own w.heap.size w' ∧ Blk w' b2 111 t.vs.toArray ∧ Blk w' b1 111 #[.bool false, .slice none 0 0] ∧ Ext w w') (fun (k, _) => k) ((n, ⟨false, none, 0, 0, []⟩)) (At1 (by first | rfl | exact at_int rfl (by omega) | exact at_slice rfl (by omega) | exact at_int rfl (by simp))) ?_ ?_
  ·refine ⟨Nat.le_refl _, ⟨Reads.of_own (own_nil w3 0 0 1), dig_nil, fun h => absurd h (by simp), (fun h => by cases h), Nat.le_refl _, Nat.zero_le _⟩, rfl, ?_, Nat.zero_le _, own_nil _ _ _ _, hk3, hk13, he3⟩
   rw [List.drop_eq_nil_iff.2 (by omega)]
   rfl
  ·rintro ⟨k, t⟩ g w5 ⟨hk, ht, htg, htv, htn, hto, hk5, hk15, he5⟩
   have z5 := he5.le
   iterate 2 refine J.seq ?_
   refine J.region ?_
   refine L.va rfl (X.move (by conv => lhs; whnf)) ?_
   refine L.va rfl (X.geq rfl rfl) ?_
   refine L.nil ?_
   refine J.dec rfl (fun h0 => ?_) (fun h0 => ?_)
   ·obtain ⟨i, rfl⟩ : ∃ i, k = i + 1 := ⟨k - 1, by omega⟩
    have hin : i < a.length := by omega
    have hA := hr.some_ (by omega)
    have hr5 := hr.ext he5
    have hbi : 0 ≤ a.getD i 0 ∧ a.getD i 0 < 4294967296 := hb _ (memD hin)
    obtain ⟨ai, hai⟩ := Int.eq_ofNat_of_zero_le hbi.1
    have hld : ∀ w', Ext w5 w' → Ld w' (pA A i) (.int .u32 (ai : Int)) := fun w' hw => by rw [← hai]; exact Ld.num (hr5.ext hw) (by omega)
    refine J.skip ?_
    refine J.seq ?_
    refine J.block ?_
    refine J.draw (ℓ := 10) (S := Ext w5) mixed (fun w6 hS hS_h => ?_)
    have hT := (ht.ext hS).more hS.le
    have tk5 := hk5.ext hS
    refine D.va 0 rfl (by kernel_rfl) (fun _ _ _ h => h) rfl (fun w' hw => X.loadAgg rfl (range_l (hk5.ext hw)) Tryz.underlying111 rfl (by kernel_rfl)) hS ?_
    refine D.va 3 rfl (by kernel_rfl) (fun _ _ _ h => h) rfl (fun w' hw => X.move (by conv => lhs; whnf)) hS ?_
    refine D.va 4 rfl (by kernel_rfl) (fun _ _ _ h => h) rfl (fun w' hw => X.move (by conv => lhs; whnf)) hS ?_
    refine D.va 5 rfl (by kernel_rfl) (fun _ _ _ h => h) rfl (fun w' hw => X.index1e (j := i) rfl rfl (by omega) Tryz.underlying24 sz_27 hA (by omega)) hS ?_
    refine D.va 6 rfl (by kernel_rfl) (fun _ _ _ h => h) rfl (fun w' hw => X.load rfl sc_27 (hld w' hw)) hS ?_
    refine D.va 7 rfl (by kernel_rfl) (fun _ _ _ h => h) rfl (fun w' hw => (by first | exact X.convU rfl is_27 Tryz.underlying48 (by omega) | exact X.convw rfl is_27 Tryz.underlying48)) hS ?_
    refine D.one 1 (by kernel_rfl) rfl ?_
    refine L.call rfl en_105 rfl (rnat 4294967296 _ (by decide)) ?_
    rintro e wa ⟨p, rfl, hpg, hpA, hpv, hpn, _, hea⟩
    refine ⟨_, rfl, ?_⟩
    have hS1 := (hS).trans hea
    refine L.nil ?_
    refine ⟨fun _ => hS1, ?_⟩
    replace hT := (hT.ext hea).more hea.le
    try replace hqA := (hqA.ext hea).more hea.le
    refine D.one 2 (by kernel_rfl) rfl ?_
    refine L.call rfl en_104 rfl (rmul (Nat.le_refl _) hT hpA (by omega)) ?_
    rintro e wb ⟨r, rfl, hrA, hrg, hrv, hrn, _, heb⟩
    refine ⟨_, rfl, ?_⟩
    have hS2 := (hS1).trans heb
    refine L.nil ?_
    refine ⟨fun _ => hS2, ?_⟩
    try replace hqA := (hqA.ext heb).more heb.le
    replace hT := (hT.ext heb).more heb.le
    refine D.one 8 (by kernel_rfl) rfl ?_
    refine L.call rfl en_105 rfl (rnat ai _ (by omega)) ?_
    rintro e wc ⟨q, rfl, hqg, hqA, hqv, hqn, _, hec⟩
    refine ⟨_, rfl, ?_⟩
    have hS3 := (hS2).trans hec
    refine L.nil ?_
    refine ⟨fun _ => hS3, ?_⟩
    replace hT := (hT.ext hec).more hec.le
    try replace hpA := (hpA.ext hec).more hec.le
    try replace hrA := (hrA.ext hec).more hec.le
    have eb := (he5.trans hS3).le
    refine D.one 9 (by kernel_rfl) rfl ?_
    refine L.call rfl en_103 rfl (radd (Nat.le_refl _) hrA hqA (by rw [hrg, htg, hpg, hqg]; rfl) (by omega)) ?_
    rintro e wd ⟨u, rfl, huA, hug, huv, hun, huO, hed⟩
    refine ⟨_, rfl, ?_⟩
    have hS4 := (hS3).trans hed
    refine L.nil ?_
    refine ⟨fun _ => hS4, ?_⟩
    have bk2 := hk5.ext hS4
    have bk1 := hk15.ext hS4
    have eS := he5.trans hS4
    refine D.one 10 (by kernel_rfl) rfl ?_
    refine L.storeAgg (vs := [_, _]) rfl rfl rfl rfl sz_111 (bk2) rfl ?_
    intro we hke hge hse
    refine L.nil ?_
    refine ⟨fun h => absurd rfl h, ?_⟩
    refine D.done (by kernel_rfl) ?_
    refine J.region ?_
    refine L.va rfl (X.move (by conv => lhs; whnf)) ?_
    refine L.va rfl (X.sub rfl rfl (by omega)) ?_
    refine L.va rfl (X.assign (by conv => lhs; whnf)) ?_
    refine L.nil ?_
    have hke : Blk we b2 111 u.vs.toArray := hke
    have eX : Ext w we := eS.grw hge (by intro g hg; injection hg with hg; omega)
    have bK := bk1.grown hge (fun e => by injection e with e; omega)
    have huO := own_lowN huO eb
    have uO : u.Own w.heap.size we := huO.kept hge (.inr (own_blk_ne huO bk2 (by decide)))
    have uA : u.At we.heap.size we := ⟨Reads.of_own uO, huA.dg, huA.cn, huA.sg, huA.cp, huA.sm⟩
    refine ⟨(i, u), At1 (at_int rfl (by omega)), (by (iterate 15 refine Agr.lk rfl ?_); exact Agr.lk rfl (Agr.hav rfl Agr.rfl')), ?_⟩
    refine ⟨⟨by omega, uA, ?_, ?_, ?_, uO, hke, bK, eX⟩, by show i < i + 1; omega⟩
    ·rw [hug, hrg, htg, hpg]
     rfl
    ·rw [huv, hrv, htv, hpv, hqv, drop_getDi hin, nv, hai]
     show nv (a.drop (i + 1)) * 4294967296 + (ai : Int) = (ai : Int) + 4294967296 * nv (a.drop (i + 1))
     omega
    ·omega
   ·obtain rfl : k = 0 := by omega
    refine J.exit ?_
    refine ⟨t, At0 , (by (iterate 2 refine Agr.lk rfl ?_); refine Agr.lk rfl ?_; refine Agr.hav rfl ?_; (iterate 4 refine Agr.lk rfl ?_); exact Agr.rfl'), ?_⟩
    exact ⟨ht, htg, htv, by omega, hto, hk5, hk15, he5⟩
 ·rintro t g w5 ⟨ht, htg, htv, htn, hto, hk5, hk15, he5⟩
  refine J.seq ?_
  refine J.region ?_
  refine L.va rfl ((by first | exact X.loadAgg rfl (range_l hk5) Tryz.underlying111 rfl (by kernel_rfl) | exact X.loadAgg rfl (range_blk hk5) Tryz.underlying111 rfl (by kernel_rfl))) ?_
  refine L.storeAgg (vs := [_, _]) rfl rfl rfl rfl sz_111 (hk15) rfl ?_
  intro w6 hk6 hg6 hs6
  have hk6 : Blk w6 b1 111 t.vs.toArray := hk6
  have he6 : Ext w w6 := he5.grw hg6 (by intro g hg; injection hg with hg; omega)
  refine L.nil ?_
  refine J.ret ?_
  refine finC rfl (run_cell hk6 Tryz.underlying111 rfl (by kernel_rfl)) ?_
  have tO : t.Own w.heap.size w6 := hto.kept hg6 (.inr (own_blk_ne hto hk15 (by decide)))
  exact ⟨t, rfl, ⟨Reads.of_own tO, ht.dg, ht.cn, ht.sg, ht.cp, ht.sm⟩, htg, htv, htn, tO, he6⟩
end Go.Proofs.YtpomklkfedpkfaaGreat
namespace Go.Proofs.YtpomklkfedpkfaaGreat
set_option maxRecDepth 100000
open Go.RowKit H
open Exa
set_option linter.unusedVariables false
def ReadR (b : List Int) (w : World) (e : Ending) (w' : World) : Prop :=
  ∃ p : Value, e = .returned (.tuple #[p, .int .i64 (readE b)]) ∧ Ext w w' ∧ (readE b = 0 →
    ∃ (g : Nat) (A' : Option Addr) (q c' : Nat), p = .pointer (some ⟨g, 0, none⟩) ∧ w.heap.size ≤ g ∧ Blk w' g 126 #[.bool true, .int .u8 (bits .andNot .u8 (b.getD 0 0) 32), .bool (!decide (bits .and .u8 (b.getD 0 0) 32 = 0)), .slice A' q c'] ∧ q ≤ 70 ∧ (magOf b).length = q ∧ w'.ownsRow w.heap.size 27 1 (.slice A' q c') q (nums .u32 (magOf b)))
theorem ReadR.bad {b : List Int} {w w' : World} {e : Ending} {z : Int} (hz : readE b = z) (h0 : z ≠ 0) (he : e = .returned (.tuple #[.pointer none, .int .i64 z])) (hx : Ext w w') : ReadR b w e w' := ⟨_, by rw [he, hz], hx, fun h => absurd (hz.symm.trans h) h0⟩
theorem eread (A : Option Addr) (n c : Nat) (b : List Int) (w : World) {N : Nat} (hN : N ≤ w.heap.size) (hr : Reads w N 1 A n (nums .u8 b)) (hb : InB 256 b) (hl : b.length = n) (hn : n ≤ 1000000) : Calls Tryz.prog 55 #[.slice A n c] w (ReadR b w) := by
 have b0 := at_b hb 0
 have b1 := at_b hb 1
 have b2 := at_b hb 2
 have c1 := ehead A n c b w hr hb hl
 refine enter Tryz.func55 rfl (by kernel_rfl) ?_
 refine J.seq ?_
 refine J.region ?_
 iterate 2 refine L.va rfl (X.assign (by conv => lhs; whnf)) ?_
 refine L.nil ?_
 iterate 2 refine J.seq ?_
 refine J.region ?_
 refine L.va rfl (X.move (by conv => lhs; whnf)) ?_
 refine L.call rfl en_76 rfl (c1) ?_
 rintro e w1 ⟨rfl, he1⟩
 refine ⟨_, rfl, ?_⟩
 have he1 : Ext w w1 := he1
 have z1 := he1.le
 refine L.va rfl (X.assign (by conv => lhs; whnf)) ?_
 refine L.nil ?_
 refine J.seq ?_
 refine J.region ?_
 refine L.va rfl (X.move (by conv => lhs; whnf)) ?_
 refine L.va rfl (X.neq rfl rfl) ?_
 refine L.nil ?_
 refine J.ndec rfl (fun h0 => ?_) (fun h0 => ?_)
 ·refine J.seq ?_
  refine J.region ?_
  refine L.va rfl (X.move (by conv => lhs; whnf)) ?_
  iterate 2 refine L.va rfl (X.assign (by conv => lhs; whnf)) ?_
  refine L.nil ?_
  refine J.ret ?_
  refine thn_ret <| ?_
  refine fin2 ?_
  exact ReadR.bad ((readE_h h0).trans (headE_6 h0).symm) h0 rfl he1
 ·have h0 : headE b = 0 := by omega
  have n3 : ¬ H3 b := fun h => by unfold headE at h0; rw [if_pos (.inr (.inr h))] at h0; cases h0
  refine J.skip ?_
  iterate 2 refine J.seq ?_
  refine J.region ?_
  refine L.va rfl (X.move (by conv => lhs; whnf)) ?_
  refine L.va rfl (X.len rfl Tryz.underlying71) ?_
  refine L.va rfl (X.lss rfl rfl) ?_
  refine L.nil ?_
  refine J.dec rfl (fun h3 => ?_) (fun h3 => ?_)
  ·refine J.seq ?_
   refine J.region ?_
   iterate 2 refine L.va rfl (X.assign (by conv => lhs; whnf)) ?_
   refine L.nil ?_
   refine J.ret ?_
   refine thn_ret <| ?_
   refine fin2 ?_
   exact ReadR.bad (readE_s h0 (by omega)) (by decide) rfl he1
  ·have h3 : ¬ b.length < 3 := by omega
   obtain ⟨lo, elo⟩ := Int.eq_ofNat_of_zero_le b1.1
   obtain ⟨m, em⟩ := Int.eq_ofNat_of_zero_le b2.1
   have hq : lo + m ≤ 70 := by
    apply Decidable.byContradiction
    intro h
    exact n3 ⟨by omega, .inl (by omega)⟩
   have hA := hr.some_ (by omega)
   have hr1 := hr.ext he1
   refine J.skip ?_
   refine J.cut (X := Unit) [5, 6, 19, 20, 21, 22, 23, 24, 25, 26] (fun _ => [(5, .int .i64 (lo : Int)), (6, .int .i64 (m : Int))]) (fun _ w' => Ext w1 w') ?_ ?_
   ·
    refine J.draw (ℓ := 1000000) (S := Ext w1) mixed (fun w2 hS hS_h => ?_)
    refine D.va 0 rfl (by kernel_rfl) (fun _ _ _ h => h) rfl (fun w' hw => X.move (by conv => lhs; whnf)) hS ?_
    refine D.va 1 rfl (by kernel_rfl) (fun _ _ _ h => h) rfl (fun w' hw => X.index1n (j := 1) rfl rfl Tryz.underlying71 sz_5 (by first | exact Option.some_ne_none _ | exact hr1.some_ (by omega) | exact hA) (by omega)) hS ?_
    refine D.va 2 rfl (by kernel_rfl) (fun _ _ _ h => h) rfl (fun w' hw => X.load rfl sc_5 (by first | exact Ld.num (hr1.ext hw) (by omega) | exact hA)) hS ?_
    refine D.va 3 rfl (by kernel_rfl) (fun _ _ _ h => h) rfl (fun w' hw => (by first | exact X.convI rfl is_5 Tryz.underlying3 (by omega) | exact X.convw rfl is_5 Tryz.underlying3)) hS ?_
    refine D.va 4 rfl (by kernel_rfl) (fun _ _ _ h => h) rfl (fun w' hw => X.move (by conv => lhs; whnf)) hS ?_
    refine D.va 5 rfl (by kernel_rfl) (fun _ _ _ h => h) rfl (fun w' hw => X.index1n (j := 2) rfl rfl Tryz.underlying71 sz_5 (by first | exact Option.some_ne_none _ | exact hr1.some_ (by omega) | exact hA) (by omega)) hS ?_
    refine D.va 6 rfl (by kernel_rfl) (fun _ _ _ h => h) rfl (fun w' hw => X.load rfl sc_5 (by first | exact Ld.num (hr1.ext hw) (by omega) | exact hA)) hS ?_
    refine D.va 7 rfl (by kernel_rfl) (fun _ _ _ h => h) rfl (fun w' hw => (by first | exact X.convI rfl is_5 Tryz.underlying3 (by omega) | exact X.convw rfl is_5 Tryz.underlying3)) hS ?_
    refine D.va 8 rfl (by kernel_rfl) (fun _ _ _ h => h) rfl (fun w' hw => X.assign (by conv => lhs; whnf)) hS ?_
    refine D.va 9 rfl (by kernel_rfl) (fun _ _ _ h => h) rfl (fun w' hw => X.assign (by conv => lhs; whnf)) hS ?_
    refine D.done (by kernel_rfl) ?_
    replace hr1 := hr1.ext hS
    refine ⟨(), At2 (at_int rfl elo) (at_int rfl em), (by (iterate 10 refine Agr.lk rfl ?_); exact Agr.rfl'), ?_⟩
    exact hS
   ·rintro ⟨⟩ g w2 he2
    refine J.seq ?_
    refine J.region ?_
    iterate 2 refine L.va rfl (X.move (by conv => lhs; whnf)) ?_
    refine L.va rfl (X.add rfl rfl (by omega)) ?_
    refine L.make (q := lo + m) (c := lo + m) rfl rfl rfl Tryz.underlying24 el_27 (by omega) ?_
    intro b3 w3 hb3 hs3 hk3 he3
    rw [made_one rfl] at hk3
    have he03 := (he1.trans he2).trans he3
    have z2 := (he1.trans he2).le
    have ho3 : w3.ownsRow w.heap.size 27 1 (.slice (some ⟨b3, 0, none⟩) (lo + m) (lo + m)) (lo + m) (nums .u32 (mg b (lo + m) 0)) := by
     have := blk_own1 (base := w.heap.size) (q := lo + m) (l := List.replicate (lo + m) (Value.int .u32 0)) hk3 (by omega) (by unfold maxLen; omega) (by simp)
     have e : nums .u32 (mg b (lo + m) 0) = List.replicate (lo + m) (Value.int .u32 0) := by unfold mg nums; simp
     rw [e]
     exact this
    refine L.va rfl (X.assign (by conv => lhs; whnf)) ?_
    refine L.nil ?_
    iterate 2 refine J.seq ?_
    refine J.region ?_
    iterate 2 refine L.va rfl (X.move (by conv => lhs; whnf)) ?_
    refine L.nil ?_
    refine J.block ?_
    refine J.loop (X := Nat) [2, 3, 8, 9, 10, 32, 33, 34, 35, 36, 37, 38, 39, 40, 41, 42, 43, 44, 45, 46, 47, 48, 49, 50, 51, 52, 53, 54, 55, 56, 57, 58, 59, 60, 61, 62, 63, 64, 65, 66, 67, 68, 69, 70, 71, 72, 73, 74, 75, 76, 77, 78, 79, 80, 81, 82, 83, 84, 85, 86, 87, 88, 89, 90, 91, 92, 93, 94, 95, 96, 97] (fun i => [(32, .int .i64 (i : Int))]) (fun i w' => i ≤ m ∧ (∀ j, j < i → stepE b m j = 0) ∧ w'.ownsRow w.heap.size 27 1 (.slice (some ⟨b3, 0, none⟩) (lo + m) (lo + m)) (lo + m) (nums .u32 (mg b (lo + m) i)) ∧ Ext w w') (fun i => m - i) (0) (At1 (by first | rfl | exact at_int rfl (by omega) | exact at_slice rfl (by omega) | exact at_int rfl (by simp))) ?_ ?_
    ·exact ⟨Nat.zero_le _, fun j hj => absurd hj (by omega), ho3, he03⟩
    ·rintro i g w4 ⟨hi, hs, ho4, he4⟩
     have z4 := he4.le
     have bad : ∀ z : Int, z ≠ 0 → i < m → stepE b m i = z → readE b = z := fun z hz him e => by
      have := wordsE_at him hs (by rw [e]; exact hz)
      rw [readE_w h0 h3 em (by rw [this, e]; exact hz), this, e]
     refine J.seq ?_
     refine J.region ?_
     refine L.va rfl (X.lss rfl rfl) ?_
     refine L.nil ?_
     refine J.seq ?_
     refine J.dec rfl (fun hlt => ?_) (fun hlt => ?_)
     ·have him : i < m := by omega
      have hml := mg_len b (show i ≤ lo + m by omega)
      refine J.skip ?_
      refine J.seq ?_
      refine J.block ?_
      refine J.seq ?_
      refine J.region ?_
      refine L.va rfl (X.move (by conv => lhs; whnf)) ?_
      refine L.va rfl (X.assign (by conv => lhs; whnf)) ?_
      refine L.nil ?_
      refine J.cut (X := Unit) [2, 3, 9, 10, 35, 36, 37, 38, 39, 40, 41, 42, 43, 44, 45, 46, 47, 48, 49, 50, 51, 52, 53, 54, 55, 56, 57, 58, 59, 60, 61, 62, 63, 64, 65, 66, 67, 68, 69, 70, 71] (fun _ => []) (fun _ w' => 3 + 4 * i + 4 ≤ b.length ∧ w'.ownsRow w.heap.size 27 1 (.slice (some ⟨b3, 0, none⟩) (lo + m) (lo + m)) (lo + m) (nums .u32 (mg b (lo + m) (i + 1))) ∧ Ext w w') ?_ ?_
      ·refine J.seq ?_
       refine J.region ?_
       refine L.va rfl (X.move (by conv => lhs; whnf)) ?_
       refine L.nil ?_
       refine J.block ?_
       refine J.loop (X := Nat) [2, 3, 9, 10, 35, 36, 37, 38, 39, 40, 41, 42, 43, 44, 45, 46, 47, 48, 49, 50, 51, 52, 53, 54, 55, 56, 57, 58, 59, 60, 61, 62, 63, 64, 65, 66, 67, 68, 69, 70, 71] (fun k => [(35, .int .i64 (k : Int))]) (fun k w' => k ≤ 4 ∧ 3 + 4 * i + k ≤ b.length ∧ w'.ownsRow w.heap.size 27 1 (.slice (some ⟨b3, 0, none⟩) (lo + m) (lo + m)) (lo + m) (nums .u32 ((mg b (lo + m) i).set (lo + m - 1 - i) (pw b i k))) ∧ Ext w w') (fun k => 4 - k) (0) (At1 (by first | rfl | exact at_int rfl (by omega) | exact at_slice rfl (by omega) | exact at_int rfl (by simp))) ?_ ?_
       ·refine ⟨by omega, ?_, ?_, he4⟩
        ·rcases i with _ | i
         ·omega
         ·have := hs i (by omega)
          unfold stepE at this
          split at this
          ·cases this
          ·omega
        ·rw [show pw b i 0 = 0 from rfl, set_self (mg_at b (by omega)) (by omega)]
         exact ho4
       ·rintro k g w5 ⟨hk, hkl, ho5, he5⟩
        have z5 := he5.le
        refine J.seq ?_
        refine J.region ?_
        refine L.va rfl (X.lss rfl rfl) ?_
        refine L.nil ?_
        refine J.seq ?_
        refine J.dec rfl (fun hk4 => ?_) (fun hk4 => ?_)
        ·have hbk := at_b hb (3 + 4 * i + k)
         refine J.skip ?_
         refine J.seq ?_
         refine J.block ?_
         refine J.seq ?_
         refine J.region ?_
         refine L.va rfl (X.move (by conv => lhs; whnf)) ?_
         refine L.va rfl (X.assign (by conv => lhs; whnf)) ?_
         refine L.nil ?_
         refine J.seq ?_
         refine J.region ?_
         refine L.va rfl (X.move (by conv => lhs; whnf)) ?_
         refine L.va rfl (X.mul rfl rfl (by omega)) ?_
         refine L.va rfl (X.add rfl rfl (by omega)) ?_
         refine L.va rfl (X.move (by conv => lhs; whnf)) ?_
         refine L.va rfl (X.add rfl rfl (by omega)) ?_
         refine L.va rfl (X.assign (by conv => lhs; whnf)) ?_
         refine L.nil ?_
         iterate 2 refine J.seq ?_
         refine J.region ?_
         iterate 2 refine L.va rfl (X.move (by conv => lhs; whnf)) ?_
         refine L.va rfl (X.len rfl Tryz.underlying71) ?_
         refine L.va rfl (X.geq rfl rfl) ?_
         refine L.nil ?_
         refine J.dec rfl (fun h5 => ?_) (fun h5 => ?_)
         ·refine J.seq ?_
          refine J.region ?_
          iterate 2 refine L.va rfl (X.assign (by conv => lhs; whnf)) ?_
          refine L.nil ?_
          refine J.ret ?_
          refine thn_ret <|  inB_ret <|  thn_ret <|  thn_ret <|  inB_ret <|  thn_ret <|  inB_ret <|  thn_ret <|  thn_ret <|  inB_ret <|  thn_ret <| ?_
          refine fin2 ?_
          refine ReadR.bad (bad 5 (by decide) him ?_) (by decide) rfl he5
          unfold stepE
          rw [if_pos (by omega)]
         ·have hr5 := hr.ext he5
          have hpb := pw_b hb i k
          have hpk : pw b i k ≤ 16777215 := by
           have h2 : (256 : Int) ^ k ≤ 16777216 := by
            have : k = 0 ∨ k = 1 ∨ k = 2 ∨ k = 3 := by omega
            rcases this with rfl | rfl | rfl | rfl <;> decide
           omega
          have hgs : ((mg b (lo + m) i).set (lo + m - 1 - i) (pw b i k)).getD (lo + m - 1 - i) 0 = pw b i k := getD_set (by omega)
          have hld : ∀ w', Ext w5 w' → Ld w' (pA (some ⟨b3, 0, none⟩) (lo + m - 1 - i)) (.int .u32 (pw b i k)) := fun w' hw => by
           have := Ld.own (ho5.ext hw) (j := lo + m - 1 - i) (by omega)
           rwa [hgs] at this
          refine J.skip ?_
          refine J.draw (ℓ := 24) (S := Ext w5) mixed (fun w6 hS hS_h => ?_)
          refine D.va 0 rfl (by kernel_rfl) (fun _ _ _ h => h) rfl (fun w' hw => X.move (by conv => lhs; whnf)) hS ?_
          refine D.va 1 rfl (by kernel_rfl) (fun _ _ _ h => h) rfl (fun w' hw => X.move (by conv => lhs; whnf)) hS ?_
          refine D.va 2 rfl (by kernel_rfl) (fun _ _ _ h => h) rfl (fun w' hw => X.move (by conv => lhs; whnf)) hS ?_
          refine D.va 3 rfl (by kernel_rfl) (fun _ _ _ h => h) rfl (fun w' hw => X.add rfl rfl (by omega)) hS ?_
          refine D.va 4 rfl (by kernel_rfl) (fun _ _ _ h => h) rfl (fun w' hw => X.sub rfl rfl (by omega)) hS ?_
          refine D.va 5 rfl (by kernel_rfl) (fun _ _ _ h => h) rfl (fun w' hw => X.move (by conv => lhs; whnf)) hS ?_
          refine D.va 6 rfl (by kernel_rfl) (fun _ _ _ h => h) rfl (fun w' hw => X.sub rfl rfl (by omega)) hS ?_
          refine D.va 7 rfl (by kernel_rfl) (fun _ _ _ h => h) rfl (fun w' hw => X.move (by conv => lhs; whnf)) hS ?_
          refine D.va 8 rfl (by kernel_rfl) (fun _ _ _ h => h) rfl (fun w' hw => X.move (by conv => lhs; whnf)) hS ?_
          refine D.va 9 rfl (by kernel_rfl) (fun _ _ _ h => h) rfl (fun w' hw => X.move (by conv => lhs; whnf)) hS ?_
          refine D.va 10 rfl (by kernel_rfl) (fun _ _ _ h => h) rfl (fun w' hw => X.add rfl rfl (by omega)) hS ?_
          refine D.va 11 rfl (by kernel_rfl) (fun _ _ _ h => h) rfl (fun w' hw => X.sub rfl rfl (by omega)) hS ?_
          refine D.va 12 rfl (by kernel_rfl) (fun _ _ _ h => h) rfl (fun w' hw => X.move (by conv => lhs; whnf)) hS ?_
          refine D.va 13 rfl (by kernel_rfl) (fun _ _ _ h => h) rfl (fun w' hw => X.sub rfl rfl (by omega)) hS ?_
          refine D.va 14 rfl (by kernel_rfl) (fun _ _ _ h => h) rfl (fun w' hw => X.index1e (j := lo + m - 1 - i) rfl rfl (by omega) Tryz.underlying24 sz_27 (Option.some_ne_none _) (by omega)) hS ?_
          refine D.va 15 rfl (by kernel_rfl) (fun _ _ _ h => h) rfl (fun w' hw => X.load rfl sc_27 (hld w' hw)) hS ?_
          refine D.va 16 rfl (by kernel_rfl) (fun _ _ _ h => h) rfl (fun w' hw => X.shl rfl rfl (by omega)) hS ?_
          refine D.va 17 rfl (by kernel_rfl) (fun _ _ _ h => h) rfl (fun w' hw => X.move (by conv => lhs; whnf)) hS ?_
          refine D.va 18 rfl (by kernel_rfl) (fun _ _ _ h => h) rfl (fun w' hw => X.move (by conv => lhs; whnf)) hS ?_
          refine D.va 19 rfl (by kernel_rfl) (fun _ _ _ h => h) rfl (fun w' hw => X.index1e (j := 3 + 4 * i + k) rfl rfl (by omega) Tryz.underlying71 sz_5 hA (by omega)) hS ?_
          refine D.va 20 rfl (by kernel_rfl) (fun _ _ _ h => h) rfl (fun w' hw => X.load rfl sc_5 (by first | exact Ld.num (hr5.ext hw) (by omega) | exact Ld.own (ho5.ext hw) (by omega) | exact hA)) hS ?_
          refine D.va 21 rfl (by kernel_rfl) (fun _ _ _ h => h) rfl (fun w' hw => (by first | exact X.conv32 rfl is_5 Tryz.underlying27 (by omega) | exact X.convw rfl is_5 Tryz.underlying27)) hS ?_
          refine D.va 22 rfl (by kernel_rfl) (fun _ _ _ h => h) rfl (fun w' hw => X.or rfl rfl) hS ?_
          refine D.va 23 rfl (by kernel_rfl) (fun _ _ _ h => h) rfl (fun w' hw => X.index1e (j := lo + m - 1 - i) rfl rfl (by omega) Tryz.underlying24 sz_27 (Option.some_ne_none _) (by omega)) hS ?_
          have ho6 := ho5.ext hS
          refine D.one 24 (by kernel_rfl) rfl ?_
          refine L.storeON rfl rfl (by conv => lhs; whnf) sz_27 (ho6) (by omega) ?_
          intro w7 ho7 hg7 hb7 hs7
          refine L.nil ?_
          refine ⟨fun h => absurd rfl h, ?_⟩
          rw [List.set_set, or_nx _ _ hpb.1 hpk hbk] at ho7
          refine D.done (by kernel_rfl) ?_
          replace hr5 := hr5.ext hS
          replace ho5 := ho5.ext hS
          refine J.region ?_
          refine L.va rfl (X.add rfl rfl (by omega)) ?_
          refine L.va rfl (X.move (by conv => lhs; whnf)) ?_
          refine L.nil ?_
          refine ⟨k + 1, At1 (by first | rfl | exact at_int rfl (by omega) | exact at_slice rfl (by omega) | exact at_int rfl (by simp)), (by (iterate 39 refine Agr.lk rfl ?_); exact Agr.lk rfl (Agr.hav rfl Agr.rfl')), ?_⟩
          exact ⟨⟨by omega, by omega, ho7, (he5.trans hS).grw hg7 (fun g hg => (ho6.lt g hg).1)⟩, by omega⟩
        ·obtain rfl : k = 4 := by omega
         refine J.exit ?_
         refine ⟨(), At0 , (by (iterate 1 refine Agr.lk rfl ?_); refine Agr.lk rfl ?_; refine Agr.hav rfl ?_; (iterate 1 refine Agr.lk rfl ?_); exact Agr.rfl'), ?_⟩
         refine ⟨by omega, ?_, he5⟩
         rw [← mg_set b (show i < lo + m by omega)]
         exact ho5
      ·rintro ⟨⟩ g w5 ⟨hl5, ho5, he5⟩
       have z5 := he5.le
       have v0 := mg_put b (show i + 1 ≤ lo + m by omega) (j := lo + m - 1 - i) (by omega) (by omega)
       rw [show lo + m - 1 - (lo + m - 1 - i) = i by omega] at v0
       have g6 : (i = 0 ∨ i + 1 = m) ∧ wd b i = 0 → readE b = 6 := fun h => bad 6 (by decide) him (by unfold stepE; rw [if_neg (by omega), if_pos h])
       have ok : ¬ ((i = 0 ∨ i + 1 = m) ∧ wd b i = 0) → ∀ j, j < i + 1 → stepE b m j = 0 := fun h j hj => by
        rcases Nat.lt_or_ge j i with k | k
        ·exact hs j k
        ·obtain rfl : j = i := by omega
         unfold stepE
         rw [if_neg (by omega), if_neg h]
       have hld : Ld w5 (pA (some ⟨b3, 0, none⟩) (lo + m - 1 - i)) (.int .u32 (wd b i)) := by
        have := Ld.own ho5 (j := lo + m - 1 - i) (by omega)
        rwa [v0] at this
       refine J.seq ?_
       refine J.region ?_
       refine L.va rfl (X.move (by conv => lhs; whnf)) ?_
       refine L.va rfl (X.eql rfl rfl) ?_
       refine L.va rfl (X.move (by conv => lhs; whnf)) ?_
       refine L.caseDec (k := 74) rfl (fun h6 => ?_) (fun h6 => ?_)
       ·have h6 : i = 0 := by omega
        iterate 3 refine L.va rfl (X.move (by conv => lhs; whnf)) ?_
        refine L.va rfl (X.add rfl rfl (by omega)) ?_
        refine L.va rfl (X.sub rfl rfl (by omega)) ?_
        refine L.va rfl (X.index1e (j := lo + m - 1 - i) rfl rfl (by omega) Tryz.underlying24 sz_27 (Option.some_ne_none _) (by omega)) ?_
        refine L.va rfl (X.load rfl sc_27 hld) ?_
        refine L.va rfl (X.eql rfl rfl) ?_
        refine L.va rfl (X.pickT rfl (by conv => lhs; whnf)) ?_
        refine L.va rfl (X.move (by conv => lhs; whnf)) ?_
        refine L.caseDec (k := 84) rfl (fun h7 => ?_) (fun h7 => ?_)
        ·refine L.no rfl ?_
         iterate 10 refine L.no rfl ?_
         refine L.va rfl (X.pickT rfl (by conv => lhs; whnf)) ?_
         refine L.nil ?_
         refine J.iteT rfl ?_
         refine J.seq ?_
         refine J.region ?_
         iterate 2 refine L.va rfl (X.assign (by conv => lhs; whnf)) ?_
         refine L.nil ?_
         refine J.ret ?_
         refine inB_ret <|  thn_ret <|  thn_ret <|  inB_ret <|  thn_ret <| ?_
         refine fin2 ?_
         exact ReadR.bad (g6 ⟨.inl h6, h7⟩) (by decide) rfl he5
        ·refine L.va rfl (X.move (by conv => lhs; whnf)) ?_
         refine L.va rfl (X.move (by conv => lhs; whnf)) ?_
         refine L.va rfl (X.sub rfl rfl (by omega)) ?_
         refine L.va rfl (X.eql rfl rfl) ?_
         refine L.va rfl (X.move (by conv => lhs; whnf)) ?_
         refine L.caseDec (k := 89) rfl (fun h8 => ?_) (fun h8 => ?_)
         ·
          iterate 2 refine L.va rfl (X.move (by conv => lhs; whnf)) ?_
          refine L.va rfl (X.index1e (j := lo + m - 1 - i) rfl rfl (by omega) Tryz.underlying24 sz_27 (Option.some_ne_none _) (by omega)) ?_
          refine L.va rfl (X.load rfl sc_27 hld) ?_
          refine L.va rfl (X.eql rfl rfl) ?_
          refine L.va rfl (X.pickT rfl (by conv => lhs; whnf)) ?_
          refine L.va rfl (X.pickF rfl (by conv => lhs; whnf)) ?_
          refine L.nil ?_
          refine J.dec rfl (fun h9 => ?_) (fun h9 => ?_)
          ·exact absurd h9 h7
          ·refine J.skip ?_
           refine J.region ?_
           refine L.va rfl (X.add rfl rfl (by omega)) ?_
           refine L.va rfl (X.move (by conv => lhs; whnf)) ?_
           refine L.nil ?_
           refine ⟨i + 1, At1 (by first | rfl | exact at_int rfl (by omega) | exact at_slice rfl (by omega) | exact at_int rfl (by simp)), (by (iterate 30 refine Agr.lk rfl ?_); refine Agr.lk rfl ?_; refine Agr.hav rfl ?_; (iterate 3 refine Agr.lk rfl ?_); exact Agr.lk rfl (Agr.hav rfl Agr.rfl')), ?_⟩
           exact ⟨⟨by omega, ok (fun h => h7 h.2), ho5, he5⟩, by omega⟩
         ·refine L.no rfl ?_
          iterate 4 refine L.no rfl ?_
          iterate 2 refine L.va rfl (X.pickF rfl (by conv => lhs; whnf)) ?_
          refine L.nil ?_
          refine J.iteF rfl ?_
          refine J.skip ?_
          refine J.region ?_
          refine L.va rfl (X.add rfl rfl (by omega)) ?_
          refine L.va rfl (X.move (by conv => lhs; whnf)) ?_
          refine L.nil ?_
          refine ⟨i + 1, At1 (by first | rfl | exact at_int rfl (by omega) | exact at_slice rfl (by omega) | exact at_int rfl (by simp)), (by (iterate 30 refine Agr.lk rfl ?_); refine Agr.lk rfl ?_; refine Agr.hav rfl ?_; (iterate 3 refine Agr.lk rfl ?_); exact Agr.lk rfl (Agr.hav rfl Agr.rfl')), ?_⟩
          exact ⟨⟨by omega, ok (fun h => h7 h.2), ho5, he5⟩, by omega⟩
       ·refine L.no rfl ?_
        iterate 7 refine L.no rfl ?_
        refine L.va rfl (X.pickF rfl (by conv => lhs; whnf)) ?_
        iterate 3 refine L.va rfl (X.move (by conv => lhs; whnf)) ?_
        refine L.va rfl (X.sub rfl rfl (by omega)) ?_
        refine L.va rfl (X.eql rfl rfl) ?_
        refine L.va rfl (X.move (by conv => lhs; whnf)) ?_
        refine L.caseDec (k := 89) rfl (fun h8 => ?_) (fun h8 => ?_)
        ·
         iterate 2 refine L.va rfl (X.move (by conv => lhs; whnf)) ?_
         refine L.va rfl (X.index1e (j := lo + m - 1 - i) rfl rfl (by omega) Tryz.underlying24 sz_27 (Option.some_ne_none _) (by omega)) ?_
         refine L.va rfl (X.load rfl sc_27 hld) ?_
         refine L.va rfl (X.eql rfl rfl) ?_
         refine L.va rfl (X.pickT rfl (by conv => lhs; whnf)) ?_
         refine L.va rfl (X.pickF rfl (by conv => lhs; whnf)) ?_
         refine L.nil ?_
         refine J.dec rfl (fun h9 => ?_) (fun h9 => ?_)
         ·refine J.seq ?_
          refine J.region ?_
          iterate 2 refine L.va rfl (X.assign (by conv => lhs; whnf)) ?_
          refine L.nil ?_
          refine J.ret ?_
          refine inB_ret <|  thn_ret <|  thn_ret <|  inB_ret <|  thn_ret <| ?_
          refine fin2 ?_
          exact ReadR.bad (g6 ⟨.inr (by omega), h9⟩) (by decide) rfl he5
         ·refine J.skip ?_
          refine J.region ?_
          refine L.va rfl (X.add rfl rfl (by omega)) ?_
          refine L.va rfl (X.move (by conv => lhs; whnf)) ?_
          refine L.nil ?_
          refine ⟨i + 1, At1 (by first | rfl | exact at_int rfl (by omega) | exact at_slice rfl (by omega) | exact at_int rfl (by simp)), (by (iterate 29 refine Agr.lk rfl ?_); refine Agr.lk rfl ?_; refine Agr.hav rfl ?_; (iterate 3 refine Agr.lk rfl ?_); exact Agr.lk rfl (Agr.hav rfl Agr.rfl')), ?_⟩
          exact ⟨⟨by omega, ok (fun h => h9 h.2), ho5, he5⟩, by omega⟩
        ·refine L.no rfl ?_
         iterate 4 refine L.no rfl ?_
         iterate 2 refine L.va rfl (X.pickF rfl (by conv => lhs; whnf)) ?_
         refine L.nil ?_
         refine J.iteF rfl ?_
         refine J.skip ?_
         refine J.region ?_
         refine L.va rfl (X.add rfl rfl (by omega)) ?_
         refine L.va rfl (X.move (by conv => lhs; whnf)) ?_
         refine L.nil ?_
         refine ⟨i + 1, At1 (by first | rfl | exact at_int rfl (by omega) | exact at_slice rfl (by omega) | exact at_int rfl (by simp)), (by (iterate 29 refine Agr.lk rfl ?_); refine Agr.lk rfl ?_; refine Agr.hav rfl ?_; (iterate 3 refine Agr.lk rfl ?_); exact Agr.lk rfl (Agr.hav rfl Agr.rfl')), ?_⟩
         exact ⟨⟨by omega, ok (fun h => by omega), ho5, he5⟩, by omega⟩
     ·obtain rfl : i = m := by omega
      have hw0 := wordsE_0 hs
      refine J.exit ?_
      iterate 2 refine J.seq ?_
      refine J.region ?_
      refine L.va rfl (X.move (by conv => lhs; whnf)) ?_
      refine L.va rfl (X.len rfl Tryz.underlying71) ?_
      refine L.va rfl (X.move (by conv => lhs; whnf)) ?_
      refine L.va rfl (X.mul rfl rfl (by omega)) ?_
      refine L.va rfl (X.add rfl rfl (by omega)) ?_
      refine L.va rfl (X.gtr rfl rfl) ?_
      refine L.nil ?_
      refine J.dec rfl (fun h7 => ?_) (fun h7 => ?_)
      ·refine J.seq ?_
       refine J.region ?_
       iterate 2 refine L.va rfl (X.assign (by conv => lhs; whnf)) ?_
       refine L.nil ?_
       refine J.ret ?_
       refine thn_ret <| ?_
       refine fin2 ?_
       exact ReadR.bad (readE_m h0 h3 em hw0 (by omega)) (by decide) rfl he4
      ·have h8 := readE_0 h0 h3 em hw0 (by omega)
       have hr4 := hr.ext he4
       refine J.skip ?_
       refine J.seq ?_
       refine J.draw (ℓ := 1000000) (S := Ext w4) mixed (fun w5 hS hS_h => ?_)
       refine D.va 0 rfl (by kernel_rfl) (fun _ _ _ h => h) rfl (fun w' hw => X.move (by conv => lhs; whnf)) hS ?_
       refine D.va 1 rfl (by kernel_rfl) (fun _ _ _ h => h) rfl (fun w' hw => X.index1n (j := 0) rfl rfl Tryz.underlying71 sz_5 (by first | exact Option.some_ne_none _ | exact hr4.some_ (by omega) | exact hA) (by omega)) hS ?_
       refine D.va 2 rfl (by kernel_rfl) (fun _ _ _ h => h) rfl (fun w' hw => X.load rfl sc_5 (by first | exact Ld.num (hr4.ext hw) (by omega) | exact hA)) hS ?_
       refine D.va 3 rfl (by kernel_rfl) (fun _ _ _ h => h) rfl (fun w' hw => X.andNot rfl rfl) hS ?_
       refine D.va 4 rfl (by kernel_rfl) (fun _ _ _ h => h) rfl (fun w' hw => X.move (by conv => lhs; whnf)) hS ?_
       refine D.va 5 rfl (by kernel_rfl) (fun _ _ _ h => h) rfl (fun w' hw => X.index1n (j := 0) rfl rfl Tryz.underlying71 sz_5 (by first | exact Option.some_ne_none _ | exact hr4.some_ (by omega) | exact hA) (by omega)) hS ?_
       refine D.va 6 rfl (by kernel_rfl) (fun _ _ _ h => h) rfl (fun w' hw => X.load rfl sc_5 (by first | exact Ld.num (hr4.ext hw) (by omega) | exact hA)) hS ?_
       refine D.va 7 rfl (by kernel_rfl) (fun _ _ _ h => h) rfl (fun w' hw => X.and rfl rfl) hS ?_
       refine D.va 8 rfl (by kernel_rfl) (fun _ _ _ h => h) rfl (fun w' hw => X.neq rfl rfl) hS ?_
       refine D.va 9 rfl (by kernel_rfl) (fun _ _ _ h => h) rfl (fun w' hw => X.move (by conv => lhs; whnf)) hS ?_
       refine D.va 10 rfl (by kernel_rfl) (fun _ _ _ h => h) rfl (fun w' hw => X.build (l := [_, _, _, _]) (Evs.cons (by conv => lhs; whnf) (Evs.cons (by conv => lhs; whnf) (Evs.cons (by conv => lhs; whnf) (Evs.cons (by conv => lhs; whnf) Evs.nil)))) (bld_run Tryz.underlying126 (bp_126 Tryz.underlying126) zr_126 rfl)) hS ?_
       refine D.one 11 (by kernel_rfl) rfl ?_
       refine L.boxA (l := [_, _, _, _]) rfl rfl ?_
       intro b6 w6 hb6 hs6 hk6 he6
       have hS1 := hS.trans he6
       refine L.nil ?_
       refine ⟨fun _ => hS1, ?_⟩
       refine D.va 12 rfl (by kernel_rfl) (fun _ _ _ h => h) rfl (fun w' hw => X.assign (by conv => lhs; whnf)) hS1 ?_
       refine D.va 13 rfl (by kernel_rfl) (fun _ _ _ h => h) rfl (fun w' hw => X.assign (by conv => lhs; whnf)) hS1 ?_
       refine D.done (by kernel_rfl) ?_
       replace hr4 := hr4.ext hS1
       refine J.ret ?_
       refine fin2 ?_
       have z6 := (he4.trans hS).le
       have eM : magOf b = mg b (lo + i) i := by unfold magOf; rw [elo, em]; rfl
       refine ⟨.pointer (some ⟨b6, 0, none⟩), by rw [h8]; rfl, he4.trans hS1, fun _ => ⟨b6, _, lo + i, lo + i, rfl, by omega, hk6, hq, ?_, ?_⟩⟩
       ·rw [eM]
        exact mg_len b (by omega)
       ·rw [eM]
        exact ho4.ext hS1
end Go.Proofs.YtpomklkfedpkfaaGreat
namespace Go.Proofs.YtpomklkfedpkfaaGreat
set_option maxRecDepth 100000
open Go.RowKit H
open Num Exa
set_option linter.unusedVariables false
theorem sum05 {f : Fr} {w : World} {d : Option Tmp} {ty : TypeId} {pos : String} {aft : Array Edge} {gd : Option (Nat × Bool)} {o0 o1 o2 o3 o4 o5 : Operand} {v0 v1 v2 v3 v4 g : Bool} {A : Option Addr} {n c : Nat} (h0 : ev f o0 = .bool v0) (h1 : ev f o1 = .bool v1) (h2 : ev f o2 = .bool v2) (h3 : ev f o3 = .bool v3) (h4 : ev f o4 = .bool v4) (h5 : ev f o5 = .agg #[.bool g, .slice A n c]) :
    (execOp (ev f) ⟨d, .build 113 #[(0, o0), (1, o1), (2, o2), (3, o3), (4, o4), (5, o5)], ty, pos, aft, gd⟩).run Tryz.prog w = .ok (.value (.agg #[.bool v0, .bool v1, .bool v2, .bool v3, .bool v4, .bool g, .slice A n c])) w :=
  X.build (l := [.bool v0, .bool v1, .bool v2, .bool v3, .bool v4, .bool g, .slice A n c]) (Evs.cons h0 (Evs.cons h1 (Evs.cons h2 (Evs.cons h3 (Evs.cons h4 (Evs.cons h5 Evs.nil)))))) (bld_run Tryz.underlying113 (bp_113 Tryz.underlying113) zr_113 (by simp [Instr.fill, Value.cells]))
theorem range_mid {w : World} {b t : Nat} {l1 l l2 : List Value} (h : Blk w b t (l1 ++ l ++ l2).toArray) : w.rangeAt b l1.length l := by
  intro j v hv
  rw [h.cell]
  have hj := (List.getElem?_eq_some_iff.1 hv).1
  simp only [List.getElem?_toArray]
  rw [List.append_assoc, List.getElem?_append_right (by omega), show l1.length + j - l1.length = j by omega, List.getElem?_append_left hj]
  exact hv
def RefR (b : List Int) (w : World) (e : Ending) (w' : World) : Prop :=
  ∃ v : Value, e = .returned (.tuple #[v, .int .i64 (readE b)]) ∧ Ext w w' ∧ (∃ vs : List Value, v = .agg vs.toArray ∧ vs.length = 7 ∧ (vs.all (·.oneCell')) = true) ∧ (readE b = 0 → ∃ t : Nu, v = .agg #[.bool (decide (b.getD 0 0 % 2 = 1)), .bool (decide (b.getD 0 0 / 2 % 2 = 1)), .bool (decide (b.getD 0 0 / 4 % 2 = 1)), .bool (decide (b.getD 0 0 / 8 % 2 = 1)), .bool (decide (b.getD 0 0 / 16 % 2 = 1)), .bool t.g, .slice t.A t.n t.c] ∧ t.At w'.heap.size w' ∧ t.g = (decide (b.getD 0 0 / 32 = 1) && decide (0 < t.n)) ∧ dv t.d = nv (magOf b) ∧ t.n ≤ 1000)
theorem RefR.bad {b : List Int} {w w' : World} {e : Ending} {z : Int} (hz : readE b = z) (h0 : z ≠ 0) (he : e = .returned (.tuple #[.agg #[.bool false, .bool false, .bool false, .bool false, .bool false, .bool false, .slice none 0 0], .int .i64 z])) (hx : Ext w w') : RefR b w e w' := ⟨_, by rw [he, hz], hx, ⟨[.bool false, .bool false, .bool false, .bool false, .bool false, .bool false, .slice none 0 0], rfl, rfl, rfl⟩, fun h => absurd (hz.symm.trans h) h0⟩
theorem rread05 (A : Option Addr) (n c : Nat) (b : List Int) (w : World) {N : Nat} (hN : N ≤ w.heap.size) (hr : Reads w N 1 A n (nums .u8 b)) (hb : InB 256 b) (hl : b.length = n) (hn : n ≤ 1000000) : Calls Tryz.prog 68 #[.slice A n c] w (RefR b w) := by
 have b0 := at_b hb 0
 have b1 := at_b hb 1
 have b2 := at_b hb 2
 refine enter Tryz.func68 rfl (by kernel_rfl) ?_
 refine J.seq ?_
 refine J.region ?_
 refine L.alloc rfl zr_113 ?_
 intro p1 w1 hp1 hs1 hq1 he1
 refine L.va rfl (X.assign (by conv => lhs; whnf)) ?_
 refine L.nil ?_
 refine J.seq ?_
 refine J.region ?_
 refine L.va rfl (X.build (l := [_, _, _, _, _, _, _]) Evs.nil (bld_run Tryz.underlying113 (bp_113 Tryz.underlying113) zr_113 rfl)) ?_
 refine L.alloc rfl zr_113 ?_
 intro p2 w2 hp2 hs2 hq2 he2
 have hq1 := hq1.ext he2
 have he02 := he1.trans he2
 refine L.storeAgg (vs := [_, _, _, _, _, _, _]) rfl rfl rfl rfl sz_113 (hq2) rfl ?_
 intro w3 hq3 hg3 hs3
 have hq13 := hq1.grown hg3 (fun e => by injection e with e; omega)
 have he3 : Ext w w3 := he02.grw hg3 (by intro g hg; injection hg with hg; omega)
 have z3 := he3.le
 have hr3 := hr.ext he3
 refine L.nil ?_
 iterate 2 refine J.seq ?_
 refine J.region ?_
 refine L.va rfl (X.move (by conv => lhs; whnf)) ?_
 refine L.va rfl (X.len rfl Tryz.underlying71) ?_
 refine L.va rfl (X.eql rfl rfl) ?_
 refine L.nil ?_
 refine J.dec rfl (fun h0 => ?_) (fun h0 => ?_)
 ·skip
  refine J.seq ?_
  refine J.region ?_
  refine L.va rfl ((by first | exact X.loadAgg rfl (range_l hq3) Tryz.underlying113 rfl (by kernel_rfl) | exact X.loadAgg rfl (range_blk hq3) Tryz.underlying113 rfl (by kernel_rfl))) ?_
  refine L.storeAgg (vs := [_, _, _, _, _, _, _]) rfl rfl rfl rfl sz_113 (hq13) rfl ?_
  intro we hke hge hse
  have hee : Ext w we := he3.grw hge (by intro g hg; injection hg with hg; omega)
  refine L.va rfl (X.assign (by conv => lhs; whnf)) ?_
  refine L.nil ?_
  refine J.ret ?_
  refine thn_ret <| ?_
  refine finCT rfl (run_cell hke Tryz.underlying113 rfl (by kernel_rfl)) ?_
  exact RefR.bad (readE_t (by omega) (fun h => by have := h.1; omega) (fun h => by have := h.1; omega)) (by decide) rfl hee
 ·have hA := hr3.some_ (by omega)
  refine J.skip ?_
  refine J.seq ?_
  refine J.region ?_
  refine L.va rfl (X.move (by conv => lhs; whnf)) ?_
  refine L.va rfl (X.index1n (j := 0) rfl rfl Tryz.underlying71 sz_5 (by first | exact Option.some_ne_none _ | exact hr3.some_ (by omega) | exact hA) (by omega)) ?_
  refine L.va rfl (X.load rfl sc_5 (by first | exact Ld.blk hq3 rfl | exact Ld.num hr3 (by omega) | exact hA)) ?_
  refine L.va rfl ((by first | exact X.convI rfl is_5 Tryz.underlying3 (by omega) | exact X.convw rfl is_5 Tryz.underlying3)) ?_
  refine L.va rfl (X.assign (by conv => lhs; whnf)) ?_
  refine L.nil ?_
  refine J.cut (X := Unit) [3, 23, 24, 25, 26, 27, 28, 29, 30, 31, 32, 33, 34, 35, 36] (fun _ => []) (fun _ w' => ¬ H1 b ∧ w3 = w') ?_ ?_
  ·refine J.seq ?_
   refine J.region ?_
   refine L.va rfl (X.move (by conv => lhs; whnf)) ?_
   refine L.va rfl (X.gtr rfl rfl) ?_
   refine L.va rfl (X.move (by conv => lhs; whnf)) ?_
   refine L.caseDec (k := 25) rfl (fun h1 => ?_) (fun h1 => ?_)
   ·refine L.no rfl ?_
    iterate 8 refine L.no rfl ?_
    refine L.va rfl (X.pickT rfl (by conv => lhs; whnf)) ?_
    refine L.nil ?_
    refine J.iteT rfl ?_
    refine J.seq ?_
    refine J.region ?_
    refine L.va rfl ((by first | exact X.loadAgg rfl (range_l hq3) Tryz.underlying113 rfl (by kernel_rfl) | exact X.loadAgg rfl (range_blk hq3) Tryz.underlying113 rfl (by kernel_rfl))) ?_
    refine L.storeAgg (vs := [_, _, _, _, _, _, _]) rfl rfl rfl rfl sz_113 (hq13) rfl ?_
    intro we hke hge hse
    have hee : Ext w we := he3.grw hge (by intro g hg; injection hg with hg; omega)
    refine L.va rfl (X.assign (by conv => lhs; whnf)) ?_
    refine L.nil ?_
    refine J.ret ?_
    refine thn_ret <| ?_
    refine finCT rfl (run_cell hke Tryz.underlying113 rfl (by kernel_rfl)) ?_
    exact RefR.bad (readE_H (.inl ⟨by omega, .inl h1⟩)) (by decide) rfl hee
   ·refine L.va rfl (X.move (by conv => lhs; whnf)) ?_
    refine L.va rfl (X.quo rfl rfl (by omega)) ?_
    refine L.va rfl (X.eql rfl rfl) ?_
    refine L.va rfl (X.move (by conv => lhs; whnf)) ?_
    refine L.caseDec (k := 29) rfl (fun h2 => ?_) (fun h2 => ?_)
    ·refine L.va rfl (X.move (by conv => lhs; whnf)) ?_
     refine L.va rfl (X.quo rfl rfl (by omega)) ?_
     refine L.va rfl (X.rem rfl rfl (by omega)) ?_
     refine L.va rfl (X.eql rfl rfl) ?_
     refine L.va rfl (X.pickT rfl (by conv => lhs; whnf)) ?_
     refine L.va rfl (X.pickF rfl (by conv => lhs; whnf)) ?_
     refine L.nil ?_
     refine J.dec rfl (fun h4 => ?_) (fun h4 => ?_)
     ·skip
      refine J.seq ?_
      refine J.region ?_
      refine L.va rfl ((by first | exact X.loadAgg rfl (range_l hq3) Tryz.underlying113 rfl (by kernel_rfl) | exact X.loadAgg rfl (range_blk hq3) Tryz.underlying113 rfl (by kernel_rfl))) ?_
      refine L.storeAgg (vs := [_, _, _, _, _, _, _]) rfl rfl rfl rfl sz_113 (hq13) rfl ?_
      intro we hke hge hse
      have hee : Ext w we := he3.grw hge (by intro g hg; injection hg with hg; omega)
      refine L.va rfl (X.assign (by conv => lhs; whnf)) ?_
      refine L.nil ?_
      refine J.ret ?_
      refine thn_ret <| ?_
      refine finCT rfl (run_cell hke Tryz.underlying113 rfl (by kernel_rfl)) ?_
      exact RefR.bad (readE_H (.inl ⟨by omega, .inr ⟨by omega, h4⟩⟩)) (by decide) rfl hee
     ·refine J.skip ?_
      refine ⟨(), At0 , (by (iterate 15 refine Agr.lk rfl ?_); exact Agr.rfl'), ?_⟩
      refine ⟨?_, rfl⟩
      rintro ⟨_, h | ⟨_, h⟩⟩ <;> omega
    ·refine L.no rfl ?_
     iterate 3 refine L.no rfl ?_
     iterate 2 refine L.va rfl (X.pickF rfl (by conv => lhs; whnf)) ?_
     refine L.nil ?_
     refine J.iteF rfl ?_
     refine J.skip ?_
     refine ⟨(), At0 , (by (iterate 15 refine Agr.lk rfl ?_); exact Agr.rfl'), ?_⟩
     refine ⟨?_, rfl⟩
     rintro ⟨_, h | ⟨h, _⟩⟩ <;> omega
  ·rintro ⟨⟩ g w4 ⟨n1, rfl⟩
   have b63 : b.getD 0 0 ≤ 63 := by
    apply Decidable.byContradiction
    intro h
    exact n1 ⟨by omega, .inl (by omega)⟩
   refine J.seq ?_
   refine J.region ?_
   refine L.va rfl (X.move (by conv => lhs; whnf)) ?_
   refine L.va rfl (X.quo rfl rfl (by omega)) ?_
   refine L.va rfl (X.rem rfl rfl (by omega)) ?_
   refine L.va rfl (X.eql rfl rfl) ?_
   refine L.va rfl (X.move (by conv => lhs; whnf)) ?_
   refine L.va rfl (X.quo rfl rfl (by omega)) ?_
   refine L.va rfl (X.eql rfl rfl) ?_
   iterate 2 refine L.va rfl (X.assign (by conv => lhs; whnf)) ?_
   refine L.nil ?_
   iterate 2 refine J.seq ?_
   refine J.region ?_
   refine L.va rfl (X.move (by conv => lhs; whnf)) ?_
   refine L.va rfl (X.len rfl Tryz.underlying71) ?_
   refine L.va rfl (X.eql rfl rfl) ?_
   refine L.nil ?_
   refine J.dec rfl (fun h1 => ?_) (fun h1 => ?_)
   ·skip
    refine J.seq ?_
    refine J.region ?_
    refine L.va rfl ((by first | exact X.loadAgg rfl (range_l hq3) Tryz.underlying113 rfl (by kernel_rfl) | exact X.loadAgg rfl (range_blk hq3) Tryz.underlying113 rfl (by kernel_rfl))) ?_
    refine L.storeAgg (vs := [_, _, _, _, _, _, _]) rfl rfl rfl rfl sz_113 (hq13) rfl ?_
    intro we hke hge hse
    have hee : Ext w we := he3.grw hge (by intro g hg; injection hg with hg; omega)
    refine L.va rfl (X.assign (by conv => lhs; whnf)) ?_
    refine L.nil ?_
    refine J.ret ?_
    refine thn_ret <| ?_
    refine finCT rfl (run_cell hke Tryz.underlying113 rfl (by kernel_rfl)) ?_
    exact RefR.bad (readE_t (by omega) n1 (fun h => by have := h.1; omega)) (by decide) rfl hee
   ·refine J.skip ?_
    refine J.seq ?_
    refine J.region ?_
    refine L.va rfl (X.move (by conv => lhs; whnf)) ?_
    refine L.va rfl (X.index1n (j := 1) rfl rfl Tryz.underlying71 sz_5 (by first | exact Option.some_ne_none _ | exact hr3.some_ (by omega) | exact hA) (by omega)) ?_
    refine L.va rfl (X.load rfl sc_5 (by first | exact Ld.blk hq3 rfl | exact Ld.num hr3 (by omega) | exact hA)) ?_
    refine L.va rfl ((by first | exact X.convI rfl is_5 Tryz.underlying3 (by omega) | exact X.convw rfl is_5 Tryz.underlying3)) ?_
    refine L.va rfl (X.assign (by conv => lhs; whnf)) ?_
    refine L.nil ?_
    refine J.cut (X := Unit) [3, 52, 53, 54, 55, 56, 57, 58, 59, 60, 61, 62] (fun _ => []) (fun _ w' => ¬ H2 b ∧ w3 = w') ?_ ?_
    ·refine J.seq ?_
     refine J.region ?_
     refine L.va rfl (X.move (by conv => lhs; whnf)) ?_
     refine L.va rfl (X.gtr rfl rfl) ?_
     refine L.va rfl (X.move (by conv => lhs; whnf)) ?_
     refine L.caseDec (k := 54) rfl (fun h2 => ?_) (fun h2 => ?_)
     ·refine L.no rfl ?_
      iterate 5 refine L.no rfl ?_
      refine L.va rfl (X.pickT rfl (by conv => lhs; whnf)) ?_
      refine L.nil ?_
      refine J.iteT rfl ?_
      refine J.seq ?_
      refine J.region ?_
      refine L.va rfl ((by first | exact X.loadAgg rfl (range_l hq3) Tryz.underlying113 rfl (by kernel_rfl) | exact X.loadAgg rfl (range_blk hq3) Tryz.underlying113 rfl (by kernel_rfl))) ?_
      refine L.storeAgg (vs := [_, _, _, _, _, _, _]) rfl rfl rfl rfl sz_113 (hq13) rfl ?_
      intro we hke hge hse
      have hee : Ext w we := he3.grw hge (by intro g hg; injection hg with hg; omega)
      refine L.va rfl (X.assign (by conv => lhs; whnf)) ?_
      refine L.nil ?_
      refine J.ret ?_
      refine thn_ret <| ?_
      refine finCT rfl (run_cell hke Tryz.underlying113 rfl (by kernel_rfl)) ?_
      exact RefR.bad (readE_H (.inr (.inl ⟨by omega, .inl h2⟩))) (by decide) rfl hee
     ·refine L.va rfl (X.move (by conv => lhs; whnf)) ?_
      refine L.va rfl (X.gtr rfl rfl) ?_
      refine L.va rfl (X.move (by conv => lhs; whnf)) ?_
      refine L.caseDec (k := 57) rfl (fun h3 => ?_) (fun h3 => ?_)
      ·refine L.va rfl (X.move (by conv => lhs; whnf)) ?_
       refine L.va rfl (X.not rfl) ?_
       refine L.va rfl (X.pickT rfl (by conv => lhs; whnf)) ?_
       refine L.va rfl (X.pickF rfl (by conv => lhs; whnf)) ?_
       refine L.nil ?_
       refine J.ite rfl (fun h4 => ?_) (fun h4 => ?_)
       ·have h4 : ¬ b.getD 0 0 / 16 % 2 = 1 := by simpa using h4
        refine J.seq ?_
        refine J.region ?_
        refine L.va rfl ((by first | exact X.loadAgg rfl (range_l hq3) Tryz.underlying113 rfl (by kernel_rfl) | exact X.loadAgg rfl (range_blk hq3) Tryz.underlying113 rfl (by kernel_rfl))) ?_
        refine L.storeAgg (vs := [_, _, _, _, _, _, _]) rfl rfl rfl rfl sz_113 (hq13) rfl ?_
        intro we hke hge hse
        have hee : Ext w we := he3.grw hge (by intro g hg; injection hg with hg; omega)
        refine L.va rfl (X.assign (by conv => lhs; whnf)) ?_
        refine L.nil ?_
        refine J.ret ?_
        refine thn_ret <| ?_
        refine finCT rfl (run_cell hke Tryz.underlying113 rfl (by kernel_rfl)) ?_
        exact RefR.bad (readE_H (.inr (.inl ⟨by omega, .inr ⟨h3, by omega⟩⟩))) (by decide) rfl hee
       ·have h4 : b.getD 0 0 / 16 % 2 = 1 := by simpa using h4
        refine J.skip ?_
        refine ⟨(), At0 , (by (iterate 12 refine Agr.lk rfl ?_); exact Agr.rfl'), ?_⟩
        refine ⟨?_, rfl⟩
        rintro ⟨_, h | ⟨_, h⟩⟩ <;> omega
      ·refine L.no rfl ?_
       refine L.no rfl ?_
       iterate 2 refine L.va rfl (X.pickF rfl (by conv => lhs; whnf)) ?_
       refine L.nil ?_
       refine J.iteF rfl ?_
       refine J.skip ?_
       refine ⟨(), At0 , (by (iterate 12 refine Agr.lk rfl ?_); exact Agr.rfl'), ?_⟩
       refine ⟨?_, rfl⟩
       rintro ⟨_, h | ⟨h, _⟩⟩ <;> omega
    ·rintro ⟨⟩ g w4 ⟨n2, rfl⟩
     iterate 2 refine J.seq ?_
     refine J.region ?_
     refine L.va rfl (X.move (by conv => lhs; whnf)) ?_
     refine L.va rfl (X.len rfl Tryz.underlying71) ?_
     refine L.va rfl (X.eql rfl rfl) ?_
     refine L.nil ?_
     refine J.dec rfl (fun h2 => ?_) (fun h2 => ?_)
     ·skip
      refine J.seq ?_
      refine J.region ?_
      refine L.va rfl ((by first | exact X.loadAgg rfl (range_l hq3) Tryz.underlying113 rfl (by kernel_rfl) | exact X.loadAgg rfl (range_blk hq3) Tryz.underlying113 rfl (by kernel_rfl))) ?_
      refine L.storeAgg (vs := [_, _, _, _, _, _, _]) rfl rfl rfl rfl sz_113 (hq13) rfl ?_
      intro we hke hge hse
      have hee : Ext w we := he3.grw hge (by intro g hg; injection hg with hg; omega)
      refine L.va rfl (X.assign (by conv => lhs; whnf)) ?_
      refine L.nil ?_
      refine J.ret ?_
      refine thn_ret <| ?_
      refine finCT rfl (run_cell hke Tryz.underlying113 rfl (by kernel_rfl)) ?_
      exact RefR.bad (readE_t (by omega) n1 n2) (by decide) rfl hee
     ·refine J.skip ?_
      refine J.seq ?_
      refine J.region ?_
      refine L.va rfl (X.move (by conv => lhs; whnf)) ?_
      refine L.va rfl (X.index1n (j := 2) rfl rfl Tryz.underlying71 sz_5 (by first | exact Option.some_ne_none _ | exact hr3.some_ (by omega) | exact hA) (by omega)) ?_
      refine L.va rfl (X.load rfl sc_5 (by first | exact Ld.blk hq3 rfl | exact Ld.num hr3 (by omega) | exact hA)) ?_
      refine L.va rfl ((by first | exact X.convI rfl is_5 Tryz.underlying3 (by omega) | exact X.convw rfl is_5 Tryz.underlying3)) ?_
      refine L.va rfl (X.assign (by conv => lhs; whnf)) ?_
      refine L.nil ?_
      refine J.cut (X := Unit) [3, 71, 72, 73, 74, 75, 76, 77, 78, 79, 80, 81, 82, 83, 84, 85, 86, 87, 88, 89, 90, 91, 92, 93, 94] (fun _ => []) (fun _ w' => ¬ H3 b ∧ w3 = w') ?_ ?_
      ·refine J.seq ?_
       refine J.region ?_
       iterate 2 refine L.va rfl (X.move (by conv => lhs; whnf)) ?_
       refine L.va rfl (X.add rfl rfl (by omega)) ?_
       refine L.va rfl (X.gtr rfl rfl) ?_
       refine L.va rfl (X.move (by conv => lhs; whnf)) ?_
       refine L.caseDec (k := 75) rfl (fun h4 => ?_) (fun h4 => ?_)
       ·refine L.no rfl ?_
        iterate 5 refine L.no rfl ?_
        refine L.va rfl (X.pickT rfl (by conv => lhs; whnf)) ?_
        refine L.va rfl (X.move (by conv => lhs; whnf)) ?_
        iterate 9 refine L.no rfl ?_
        refine L.va rfl (X.pickT rfl (by conv => lhs; whnf)) ?_
        refine L.nil ?_
        refine J.iteT rfl ?_
        refine J.seq ?_
        refine J.region ?_
        refine L.va rfl ((by first | exact X.loadAgg rfl (range_l hq3) Tryz.underlying113 rfl (by kernel_rfl) | exact X.loadAgg rfl (range_blk hq3) Tryz.underlying113 rfl (by kernel_rfl))) ?_
        refine L.storeAgg (vs := [_, _, _, _, _, _, _]) rfl rfl rfl rfl sz_113 (hq13) rfl ?_
        intro we hke hge hse
        have hee : Ext w we := he3.grw hge (by intro g hg; injection hg with hg; omega)
        refine L.va rfl (X.assign (by conv => lhs; whnf)) ?_
        refine L.nil ?_
        refine J.ret ?_
        refine thn_ret <| ?_
        refine finCT rfl (run_cell hke Tryz.underlying113 rfl (by kernel_rfl)) ?_
        exact RefR.bad (readE_H (.inr (.inr ⟨by omega, .inl (by omega)⟩))) (by decide) rfl hee
       ·refine L.va rfl (X.move (by conv => lhs; whnf)) ?_
        refine L.va rfl (X.gtr rfl rfl) ?_
        refine L.va rfl (X.move (by conv => lhs; whnf)) ?_
        refine L.caseDec (k := 78) rfl (fun h5 => ?_) (fun h5 => ?_)
        ·refine L.va rfl (X.move (by conv => lhs; whnf)) ?_
         refine L.va rfl (X.not rfl) ?_
         refine L.va rfl (X.pickT rfl (by conv => lhs; whnf)) ?_
         refine L.va rfl (X.pickF rfl (by conv => lhs; whnf)) ?_
         refine L.va rfl (X.move (by conv => lhs; whnf)) ?_
         refine L.caseB (k := 83) rfl (fun h6 => ?_) (fun h6 => ?_)
         ·have h6 : ¬ b.getD 0 0 / 16 % 2 = 1 := by simpa using h6
          iterate 9 refine L.no rfl ?_
          refine L.va rfl (X.pickT rfl (by conv => lhs; whnf)) ?_
          refine L.nil ?_
          refine J.iteT rfl ?_
          refine J.seq ?_
          refine J.region ?_
          refine L.va rfl ((by first | exact X.loadAgg rfl (range_l hq3) Tryz.underlying113 rfl (by kernel_rfl) | exact X.loadAgg rfl (range_blk hq3) Tryz.underlying113 rfl (by kernel_rfl))) ?_
          refine L.storeAgg (vs := [_, _, _, _, _, _, _]) rfl rfl rfl rfl sz_113 (hq13) rfl ?_
          intro we hke hge hse
          have hee : Ext w we := he3.grw hge (by intro g hg; injection hg with hg; omega)
          refine L.va rfl (X.assign (by conv => lhs; whnf)) ?_
          refine L.nil ?_
          refine J.ret ?_
          refine thn_ret <| ?_
          refine finCT rfl (run_cell hke Tryz.underlying113 rfl (by kernel_rfl)) ?_
          exact RefR.bad (readE_H (.inr (.inr ⟨by omega, .inr (.inl ⟨h5, by omega⟩)⟩))) (by decide) rfl hee
         ·have h6 : b.getD 0 0 / 16 % 2 = 1 := by simpa using h6
          refine L.va rfl (X.move (by conv => lhs; whnf)) ?_
          refine L.va rfl (X.eql rfl rfl) ?_
          refine L.va rfl (X.move (by conv => lhs; whnf)) ?_
          refine L.caseDecF (k := 86) rfl (by omega) ?_
          iterate 5 refine L.no rfl ?_
          iterate 2 refine L.va rfl (X.pickF rfl (by conv => lhs; whnf)) ?_
          refine L.nil ?_
          refine J.iteF rfl ?_
          refine J.skip ?_
          refine ⟨(), At0 , (by (iterate 27 refine Agr.lk rfl ?_); exact Agr.rfl'), ?_⟩
          refine ⟨?_, rfl⟩
          rintro ⟨_, h | ⟨_, h⟩ | ⟨h, _⟩⟩ <;> omega
        ·refine L.no rfl ?_
         refine L.no rfl ?_
         iterate 2 refine L.va rfl (X.pickF rfl (by conv => lhs; whnf)) ?_
         iterate 2 refine L.va rfl (X.move (by conv => lhs; whnf)) ?_
         refine L.va rfl (X.eql rfl rfl) ?_
         refine L.va rfl (X.move (by conv => lhs; whnf)) ?_
         refine L.caseDecT (k := 86) rfl (by omega) ?_
         refine L.va rfl (X.move (by conv => lhs; whnf)) ?_
         refine L.va rfl (X.gtr rfl rfl) ?_
         refine L.va rfl (X.move (by conv => lhs; whnf)) ?_
         refine L.caseDec (k := 89) rfl (fun h6 => ?_) (fun h6 => ?_)
         ·refine L.no rfl ?_
          iterate 2 refine L.va rfl (X.pickT rfl (by conv => lhs; whnf)) ?_
          refine L.va rfl (X.pickF rfl (by conv => lhs; whnf)) ?_
          refine L.nil ?_
          refine J.iteT rfl ?_
          refine J.seq ?_
          refine J.region ?_
          refine L.va rfl ((by first | exact X.loadAgg rfl (range_l hq3) Tryz.underlying113 rfl (by kernel_rfl) | exact X.loadAgg rfl (range_blk hq3) Tryz.underlying113 rfl (by kernel_rfl))) ?_
          refine L.storeAgg (vs := [_, _, _, _, _, _, _]) rfl rfl rfl rfl sz_113 (hq13) rfl ?_
          intro we hke hge hse
          have hee : Ext w we := he3.grw hge (by intro g hg; injection hg with hg; omega)
          refine L.va rfl (X.assign (by conv => lhs; whnf)) ?_
          refine L.nil ?_
          refine J.ret ?_
          refine thn_ret <| ?_
          refine finCT rfl (run_cell hke Tryz.underlying113 rfl (by kernel_rfl)) ?_
          exact RefR.bad (readE_H (.inr (.inr ⟨by omega, .inr (.inr ⟨by omega, .inl h6⟩)⟩))) (by decide) rfl hee
         ·refine L.va rfl (X.move (by conv => lhs; whnf)) ?_
          refine L.va rfl (X.pickF rfl (by conv => lhs; whnf)) ?_
          refine L.va rfl (X.pickT rfl (by conv => lhs; whnf)) ?_
          refine L.va rfl (X.pickF rfl (by conv => lhs; whnf)) ?_
          refine L.nil ?_
          refine J.dec rfl (fun h7 => ?_) (fun h7 => ?_)
          ·have h7 : b.getD 0 0 / 32 = 1 := by simpa using h7
           refine J.seq ?_
           refine J.region ?_
           refine L.va rfl ((by first | exact X.loadAgg rfl (range_l hq3) Tryz.underlying113 rfl (by kernel_rfl) | exact X.loadAgg rfl (range_blk hq3) Tryz.underlying113 rfl (by kernel_rfl))) ?_
           refine L.storeAgg (vs := [_, _, _, _, _, _, _]) rfl rfl rfl rfl sz_113 (hq13) rfl ?_
           intro we hke hge hse
           have hee : Ext w we := he3.grw hge (by intro g hg; injection hg with hg; omega)
           refine L.va rfl (X.assign (by conv => lhs; whnf)) ?_
           refine L.nil ?_
           refine J.ret ?_
           refine thn_ret <| ?_
           refine finCT rfl (run_cell hke Tryz.underlying113 rfl (by kernel_rfl)) ?_
           exact RefR.bad (readE_H (.inr (.inr ⟨by omega, .inr (.inr ⟨by omega, .inr (by omega)⟩)⟩))) (by decide) rfl hee
          ·have h7 : ¬ b.getD 0 0 / 32 = 1 := by simpa using h7
           refine J.skip ?_
           refine ⟨(), At0 , (by (iterate 27 refine Agr.lk rfl ?_); exact Agr.rfl'), ?_⟩
           refine ⟨?_, rfl⟩
           rintro ⟨_, h | ⟨h, _⟩ | ⟨_, h⟩⟩ <;> omega
      ·rintro ⟨⟩ g w4 ⟨n3, rfl⟩
       obtain ⟨lo, elo⟩ := Int.eq_ofNat_of_zero_le b1.1
       obtain ⟨m, em⟩ := Int.eq_ofNat_of_zero_le b2.1
       have H0 := head_0 n1 n2 n3
       have h3 : ¬ b.length < 3 := by omega
       have hq : lo + m ≤ 70 := by
        apply Decidable.byContradiction
        intro h
        exact n3 ⟨by omega, .inl (by omega)⟩
       refine J.seq ?_
       refine J.region ?_
       iterate 2 refine L.va rfl (X.move (by conv => lhs; whnf)) ?_
       refine L.va rfl (X.add rfl rfl (by omega)) ?_
       rw [elo, em]
       refine L.make (q := lo + m) (c := lo + m) rfl rfl rfl Tryz.underlying24 el_27 (by omega) ?_
       intro b4 w4 hb4 hs4 hk4 he4
       rw [made_one rfl] at hk4
       have he04 := he3.trans he4
       have hq14 := hq13.ext he4
       have hq4 := hq3.ext he4
       have ho4 : w4.ownsRow w.heap.size 27 1 (.slice (some ⟨b4, 0, none⟩) (lo + m) (lo + m)) (lo + m) (nums .u32 (mg b (lo + m) 0)) := by
        have := blk_own1 (base := w.heap.size) (q := lo + m) (l := List.replicate (lo + m) (Value.int .u32 0)) hk4 (by omega) (by unfold maxLen; omega) (by simp)
        have e : nums .u32 (mg b (lo + m) 0) = List.replicate (lo + m) (Value.int .u32 0) := by unfold mg nums; simp
        rw [e]
        exact this
       refine L.va rfl (X.assign (by conv => lhs; whnf)) ?_
       refine L.nil ?_
       iterate 2 refine J.seq ?_
       refine J.region ?_
       refine L.va rfl (X.assign (by conv => lhs; whnf)) ?_
       refine L.nil ?_
       refine J.block ?_
       refine J.loop (X := Nat) [3, 11, 12, 13, 99, 100, 101, 102, 103, 104, 105, 106, 107, 108, 109, 110, 111, 112, 113, 114, 115, 116, 117, 118, 119, 120, 121, 122, 123, 124, 125, 126, 127, 128, 129, 130, 131, 132, 133, 134, 135, 136, 137, 138, 139, 140, 141, 142, 143, 144, 145, 146, 147, 148, 149, 150, 151, 152, 153, 154, 155, 156, 157, 158, 159, 160, 161, 162] (fun i => [(11, .int .i64 (i : Int))]) (fun i w' => i ≤ m ∧ (∀ j, j < i → stepE b m j = 0) ∧ w'.ownsRow w.heap.size 27 1 (.slice (some ⟨b4, 0, none⟩) (lo + m) (lo + m)) (lo + m) (nums .u32 (mg b (lo + m) i)) ∧ Blk w' p1 113 #[.bool false, .bool false, .bool false, .bool false, .bool false, .bool false, .slice none 0 0] ∧ Blk w' p2 113 #[.bool false, .bool false, .bool false, .bool false, .bool false, .bool false, .slice none 0 0] ∧ Ext w w') (fun i => m - i) (0) (At1 (by first | rfl | exact at_int rfl (by omega) | exact at_slice rfl (by omega) | exact at_int rfl (by simp))) ?_ ?_
       ·exact ⟨Nat.zero_le _, fun j hj => absurd hj (by omega), ho4, hq14, hq4, he04⟩
       ·rintro i g w5 ⟨hi, hs, ho5, k1, k2, he5⟩
        have z5 := he5.le
        have bad : ∀ z : Int, z ≠ 0 → i < m → stepE b m i = z → readE b = z := fun z hz him e => by
         have := wordsE_at him hs (by rw [e]; exact hz)
         rw [readE_w H0 h3 em (by rw [this, e]; exact hz), this, e]
        iterate 2 refine J.seq ?_
        refine J.region ?_
        iterate 2 refine L.va rfl (X.move (by conv => lhs; whnf)) ?_
        refine L.va rfl (X.lss rfl rfl) ?_
        refine L.nil ?_
        refine J.dec rfl (fun hlt => ?_) (fun hlt => ?_)
        ·have him : i < m := by omega
         have hml := mg_len b (show i ≤ lo + m by omega)
         refine J.skip ?_
         refine J.seq ?_
         refine J.block ?_
         refine J.cut (X := Unit) [3, 12, 13, 104, 105, 106, 107, 108, 109, 110, 111, 112, 113, 114, 115, 116, 117, 118, 119, 120, 121, 122, 123, 124, 125, 126, 127, 128, 129, 130, 131, 132, 133, 134, 135, 136, 137, 138, 139, 140, 141] (fun _ => []) (fun _ w' => 3 + 4 * i + 4 ≤ b.length ∧ w'.ownsRow w.heap.size 27 1 (.slice (some ⟨b4, 0, none⟩) (lo + m) (lo + m)) (lo + m) (nums .u32 (mg b (lo + m) (i + 1))) ∧ Blk w' p1 113 #[.bool false, .bool false, .bool false, .bool false, .bool false, .bool false, .slice none 0 0] ∧ Blk w' p2 113 #[.bool false, .bool false, .bool false, .bool false, .bool false, .bool false, .slice none 0 0] ∧ Ext w w') ?_ ?_
         ·refine J.seq ?_
          refine J.region ?_
          refine L.va rfl (X.assign (by conv => lhs; whnf)) ?_
          refine L.nil ?_
          refine J.block ?_
          refine J.loop (X := Nat) [3, 12, 13, 104, 105, 106, 107, 108, 109, 110, 111, 112, 113, 114, 115, 116, 117, 118, 119, 120, 121, 122, 123, 124, 125, 126, 127, 128, 129, 130, 131, 132, 133, 134, 135, 136, 137, 138, 139, 140, 141] (fun k => [(12, .int .i64 (k : Int))]) (fun k w' => k ≤ 4 ∧ 3 + 4 * i + k ≤ b.length ∧ w'.ownsRow w.heap.size 27 1 (.slice (some ⟨b4, 0, none⟩) (lo + m) (lo + m)) (lo + m) (nums .u32 ((mg b (lo + m) i).set (lo + m - 1 - i) (pw b i k))) ∧ Blk w' p1 113 #[.bool false, .bool false, .bool false, .bool false, .bool false, .bool false, .slice none 0 0] ∧ Blk w' p2 113 #[.bool false, .bool false, .bool false, .bool false, .bool false, .bool false, .slice none 0 0] ∧ Ext w w') (fun k => 4 - k) (0) (At1 (by first | rfl | exact at_int rfl (by omega) | exact at_slice rfl (by omega) | exact at_int rfl (by simp))) ?_ ?_
          ·refine ⟨by omega, ?_, ?_, k1, k2, he5⟩
           ·rcases i with _ | i
            ·omega
            ·have := hs i (by omega)
             unfold stepE at this
             split at this
             ·cases this
             ·omega
           ·rw [show pw b i 0 = 0 from rfl, set_self (mg_at b (by omega)) (by omega)]
            exact ho5
          ·rintro k g w6 ⟨hk, hkl, ho6, k61, k62, he6⟩
           have z6 := he6.le
           iterate 2 refine J.seq ?_
           refine J.region ?_
           refine L.va rfl (X.move (by conv => lhs; whnf)) ?_
           refine L.va rfl (X.lss rfl rfl) ?_
           refine L.nil ?_
           refine J.dec rfl (fun hk4 => ?_) (fun hk4 => ?_)
           ·have hbk := at_b hb (3 + 4 * i + k)
            refine J.skip ?_
            refine J.seq ?_
            refine J.block ?_
            refine J.seq ?_
            refine J.region ?_
            refine L.va rfl (X.move (by conv => lhs; whnf)) ?_
            refine L.va rfl (X.mul rfl rfl (by omega)) ?_
            refine L.va rfl (X.add rfl rfl (by omega)) ?_
            refine L.va rfl (X.move (by conv => lhs; whnf)) ?_
            refine L.va rfl (X.add rfl rfl (by omega)) ?_
            refine L.va rfl (X.assign (by conv => lhs; whnf)) ?_
            refine L.nil ?_
            iterate 2 refine J.seq ?_
            refine J.region ?_
            iterate 2 refine L.va rfl (X.move (by conv => lhs; whnf)) ?_
            refine L.va rfl (X.len rfl Tryz.underlying71) ?_
            refine L.va rfl (X.geq rfl rfl) ?_
            refine L.nil ?_
            refine J.dec rfl (fun h5 => ?_) (fun h5 => ?_)
            ·skip
             refine J.seq ?_
             refine J.region ?_
             refine L.va rfl ((by first | exact X.loadAgg rfl (range_l k62) Tryz.underlying113 rfl (by kernel_rfl) | exact X.loadAgg rfl (range_blk k62) Tryz.underlying113 rfl (by kernel_rfl))) ?_
             refine L.storeAgg (vs := [_, _, _, _, _, _, _]) rfl rfl rfl rfl sz_113 (k61) rfl ?_
             intro we hke hge hse
             have hee : Ext w we := he6.grw hge (by intro g hg; injection hg with hg; omega)
             refine L.va rfl (X.assign (by conv => lhs; whnf)) ?_
             refine L.nil ?_
             refine J.ret ?_
             refine thn_ret <|  inB_ret <|  thn_ret <|  thn_ret <|  inB_ret <|  thn_ret <|  inB_ret <|  thn_ret <|  thn_ret <|  inB_ret <|  thn_ret <| ?_
             refine finCT rfl (run_cell hke Tryz.underlying113 rfl (by kernel_rfl)) ?_
             exact RefR.bad (bad 5 (by decide) him (by unfold stepE; rw [if_pos (by omega)])) (by decide) rfl hee
            ·have hr6 := hr.ext he6
             have hpb := pw_b hb i k
             have hpk : pw b i k ≤ 16777215 := by
              have h2 : (256 : Int) ^ k ≤ 16777216 := by
               have : k = 0 ∨ k = 1 ∨ k = 2 ∨ k = 3 := by omega
               rcases this with rfl | rfl | rfl | rfl <;> decide
              omega
             have hgs : ((mg b (lo + m) i).set (lo + m - 1 - i) (pw b i k)).getD (lo + m - 1 - i) 0 = pw b i k := getD_set (by omega)
             have hld : ∀ w', Ext w6 w' → Ld w' (pA (some ⟨b4, 0, none⟩) (lo + m - 1 - i)) (.int .u32 (pw b i k)) := fun w' hw => by
              have := Ld.own (ho6.ext hw) (j := lo + m - 1 - i) (by omega)
              rwa [hgs] at this
             refine J.skip ?_
             refine J.draw (ℓ := 24) (S := Ext w6) mixed (fun w7 hS hS_h => ?_)
             refine D.va 0 rfl (by kernel_rfl) (fun _ _ _ h => h) rfl (fun w' hw => X.move (by conv => lhs; whnf)) hS ?_
             refine D.va 1 rfl (by kernel_rfl) (fun _ _ _ h => h) rfl (fun w' hw => X.move (by conv => lhs; whnf)) hS ?_
             refine D.va 2 rfl (by kernel_rfl) (fun _ _ _ h => h) rfl (fun w' hw => X.move (by conv => lhs; whnf)) hS ?_
             refine D.va 3 rfl (by kernel_rfl) (fun _ _ _ h => h) rfl (fun w' hw => X.add rfl rfl (by omega)) hS ?_
             refine D.va 4 rfl (by kernel_rfl) (fun _ _ _ h => h) rfl (fun w' hw => X.sub rfl rfl (by omega)) hS ?_
             refine D.va 5 rfl (by kernel_rfl) (fun _ _ _ h => h) rfl (fun w' hw => X.move (by conv => lhs; whnf)) hS ?_
             refine D.va 6 rfl (by kernel_rfl) (fun _ _ _ h => h) rfl (fun w' hw => X.sub rfl rfl (by omega)) hS ?_
             refine D.va 7 rfl (by kernel_rfl) (fun _ _ _ h => h) rfl (fun w' hw => X.move (by conv => lhs; whnf)) hS ?_
             refine D.va 8 rfl (by kernel_rfl) (fun _ _ _ h => h) rfl (fun w' hw => X.move (by conv => lhs; whnf)) hS ?_
             refine D.va 9 rfl (by kernel_rfl) (fun _ _ _ h => h) rfl (fun w' hw => X.move (by conv => lhs; whnf)) hS ?_
             refine D.va 10 rfl (by kernel_rfl) (fun _ _ _ h => h) rfl (fun w' hw => X.add rfl rfl (by omega)) hS ?_
             refine D.va 11 rfl (by kernel_rfl) (fun _ _ _ h => h) rfl (fun w' hw => X.sub rfl rfl (by omega)) hS ?_
             refine D.va 12 rfl (by kernel_rfl) (fun _ _ _ h => h) rfl (fun w' hw => X.move (by conv => lhs; whnf)) hS ?_
             refine D.va 13 rfl (by kernel_rfl) (fun _ _ _ h => h) rfl (fun w' hw => X.sub rfl rfl (by omega)) hS ?_
             refine D.va 14 rfl (by kernel_rfl) (fun _ _ _ h => h) rfl (fun w' hw => X.index1e (j := lo + m - 1 - i) rfl rfl (by omega) Tryz.underlying24 sz_27 (Option.some_ne_none _) (by omega)) hS ?_
             refine D.va 15 rfl (by kernel_rfl) (fun _ _ _ h => h) rfl (fun w' hw => X.load rfl sc_27 (hld w' hw)) hS ?_
             refine D.va 16 rfl (by kernel_rfl) (fun _ _ _ h => h) rfl (fun w' hw => X.mulw rfl rfl) hS ?_
             refine D.va 17 rfl (by kernel_rfl) (fun _ _ _ h => h) rfl (fun w' hw => X.move (by conv => lhs; whnf)) hS ?_
             refine D.va 18 rfl (by kernel_rfl) (fun _ _ _ h => h) rfl (fun w' hw => X.move (by conv => lhs; whnf)) hS ?_
             refine D.va 19 rfl (by kernel_rfl) (fun _ _ _ h => h) rfl (fun w' hw => X.index1e (j := 3 + 4 * i + k) rfl rfl (by omega) Tryz.underlying71 sz_5 hA (by omega)) hS ?_
             refine D.va 20 rfl (by kernel_rfl) (fun _ _ _ h => h) rfl (fun w' hw => X.load rfl sc_5 (by first | exact Ld.num (hr6.ext hw) (by omega) | exact Ld.own (ho6.ext hw) (by omega) | exact hA)) hS ?_
             refine D.va 21 rfl (by kernel_rfl) (fun _ _ _ h => h) rfl (fun w' hw => (by first | exact X.conv32 rfl is_5 Tryz.underlying27 (by omega) | exact X.convw rfl is_5 Tryz.underlying27)) hS ?_
             refine D.va 22 rfl (by kernel_rfl) (fun _ _ _ h => h) rfl (fun w' hw => X.addw rfl rfl) hS ?_
             refine D.va 23 rfl (by kernel_rfl) (fun _ _ _ h => h) rfl (fun w' hw => X.index1e (j := lo + m - 1 - i) rfl rfl (by omega) Tryz.underlying24 sz_27 (Option.some_ne_none _) (by omega)) hS ?_
             have ho7 := ho6.ext hS
             have k71 := k61.ext hS
             have k72 := k62.ext hS
             refine D.one 24 (by kernel_rfl) rfl ?_
             refine L.storeON rfl rfl (by conv => lhs; whnf) sz_27 (ho7) (by omega) ?_
             intro w8 ho8 hg8 hb8 hs8
             refine L.nil ?_
             refine ⟨fun h => absurd rfl h, ?_⟩
             have ev : IntKind.u32.wrap (IntKind.u32.wrap (pw b i k * 256) + b.getD (3 + 4 * i + k) 0) = pw b i (k + 1) := by
              rw [w32 (m := pw b i k * 256) (by omega), w32 (by omega)]
              rfl
             rw [List.set_set, ev] at ho8
             have k81 := k71.grown hg8 (fun e => own_blk_ne ho7 k71 (by decide) e.symm)
             have k82 := k72.grown hg8 (fun e => own_blk_ne ho7 k72 (by decide) e.symm)
             refine D.done (by kernel_rfl) ?_
             replace hr6 := hr6.ext hS
             replace ho6 := ho6.ext hS
             refine J.region ?_
             refine L.va rfl (X.move (by conv => lhs; whnf)) ?_
             refine L.va rfl (X.add rfl rfl (by omega)) ?_
             refine L.va rfl (X.assign (by conv => lhs; whnf)) ?_
             refine L.nil ?_
             refine ⟨k + 1, At1 (by first | rfl | exact at_int rfl (by omega) | exact at_slice rfl (by omega) | exact at_int rfl (by simp)), (by (iterate 39 refine Agr.lk rfl ?_); exact Agr.lk rfl (Agr.hav rfl Agr.rfl')), ?_⟩
             exact ⟨⟨by omega, by omega, ho8, k81, k82, (he6.trans hS).grw hg8 (fun g hg => (ho7.lt g hg).1)⟩, by omega⟩
           ·obtain rfl : k = 4 := by omega
            refine J.exit ?_
            refine ⟨(), At0 , (by (iterate 2 refine Agr.lk rfl ?_); refine Agr.lk rfl ?_; refine Agr.hav rfl ?_; (iterate 1 refine Agr.lk rfl ?_); exact Agr.rfl'), ?_⟩
            refine ⟨by omega, ?_, k61, k62, he6⟩
            rw [← mg_set b (show i < lo + m by omega)]
            exact ho6
         ·rintro ⟨⟩ g w6 ⟨hl6, ho6, k61, k62, he6⟩
          have z6 := he6.le
          have v0 := mg_put b (show i + 1 ≤ lo + m by omega) (j := lo + m - 1 - i) (by omega) (by omega)
          rw [show lo + m - 1 - (lo + m - 1 - i) = i by omega] at v0
          have g6 : (i = 0 ∨ i + 1 = m) ∧ wd b i = 0 → readE b = 6 := fun h => bad 6 (by decide) him (by unfold stepE; rw [if_neg (by omega), if_pos h])
          have ok : ¬ ((i = 0 ∨ i + 1 = m) ∧ wd b i = 0) → ∀ j, j < i + 1 → stepE b m j = 0 := fun h j hj => by
           rcases Nat.lt_or_ge j i with k | k
           ·exact hs j k
           ·obtain rfl : j = i := by omega
            unfold stepE
            rw [if_neg (by omega), if_neg h]
          have hld : Ld w6 (pA (some ⟨b4, 0, none⟩) (lo + m - 1 - i)) (.int .u32 (wd b i)) := by
           have := Ld.own ho6 (j := lo + m - 1 - i) (by omega)
           rwa [v0] at this
          refine J.seq ?_
          refine J.region ?_
          refine L.va rfl (X.move (by conv => lhs; whnf)) ?_
          refine L.va rfl (X.eql rfl rfl) ?_
          refine L.va rfl (X.move (by conv => lhs; whnf)) ?_
          refine L.caseDec (k := 144) rfl (fun h6 => ?_) (fun h6 => ?_)
          ·refine L.no rfl ?_
           iterate 3 refine L.no rfl ?_
           refine L.va rfl (X.pickT rfl (by conv => lhs; whnf)) ?_
           iterate 4 refine L.va rfl (X.move (by conv => lhs; whnf)) ?_
           refine L.va rfl (X.add rfl rfl (by omega)) ?_
           refine L.va rfl (X.sub rfl rfl (by omega)) ?_
           refine L.va rfl (X.move (by conv => lhs; whnf)) ?_
           refine L.va rfl (X.sub rfl rfl (by omega)) ?_
           refine L.va rfl (X.index1e (j := lo + m - 1 - i) rfl rfl (by omega) Tryz.underlying24 sz_27 (Option.some_ne_none _) (by omega)) ?_
           refine L.va rfl (X.load rfl sc_27 hld) ?_
           refine L.va rfl (X.eql rfl rfl) ?_
           refine L.va rfl (X.pickT rfl (by conv => lhs; whnf)) ?_
           refine L.nil ?_
           refine J.dec rfl (fun h9 => ?_) (fun h9 => ?_)
           ·skip
            refine J.seq ?_
            refine J.region ?_
            refine L.va rfl ((by first | exact X.loadAgg rfl (range_l k62) Tryz.underlying113 rfl (by kernel_rfl) | exact X.loadAgg rfl (range_blk k62) Tryz.underlying113 rfl (by kernel_rfl))) ?_
            refine L.storeAgg (vs := [_, _, _, _, _, _, _]) rfl rfl rfl rfl sz_113 (k61) rfl ?_
            intro we hke hge hse
            have hee : Ext w we := he6.grw hge (by intro g hg; injection hg with hg; omega)
            refine L.va rfl (X.assign (by conv => lhs; whnf)) ?_
            refine L.nil ?_
            refine J.ret ?_
            refine inB_ret <|  thn_ret <|  thn_ret <|  inB_ret <|  thn_ret <| ?_
            refine finCT rfl (run_cell hke Tryz.underlying113 rfl (by kernel_rfl)) ?_
            exact RefR.bad (g6 ⟨.inl (by omega), h9⟩) (by decide) rfl hee
           ·skip
            refine J.skip ?_
            refine J.region ?_
            refine L.va rfl (X.move (by conv => lhs; whnf)) ?_
            refine L.va rfl (X.add rfl rfl (by omega)) ?_
            refine L.va rfl (X.assign (by conv => lhs; whnf)) ?_
            refine L.nil ?_
            refine ⟨i + 1, At1 (by first | rfl | exact at_int rfl (by omega) | exact at_slice rfl (by omega) | exact at_int rfl (by simp)), (by (iterate 24 refine Agr.lk rfl ?_); refine Agr.lk rfl ?_; refine Agr.hav rfl ?_; (iterate 3 refine Agr.lk rfl ?_); exact Agr.lk rfl (Agr.hav rfl Agr.rfl')), ?_⟩
            exact ⟨⟨by omega, ok (fun h => h9 h.2), ho6, k61, k62, he6⟩, by omega⟩
          ·refine L.va rfl (X.move (by conv => lhs; whnf)) ?_
           refine L.va rfl (X.move (by conv => lhs; whnf)) ?_
           refine L.va rfl (X.sub rfl rfl (by omega)) ?_
           refine L.va rfl (X.eql rfl rfl) ?_
           refine L.va rfl (X.pickF rfl (by conv => lhs; whnf)) ?_
           refine L.va rfl (X.move (by conv => lhs; whnf)) ?_
           refine L.caseDec (k := 150) rfl (fun h8 => ?_) (fun h8 => ?_)
           ·refine L.va rfl (X.move (by conv => lhs; whnf)) ?_
            iterate 2 refine L.va rfl (X.move (by conv => lhs; whnf)) ?_
            refine L.va rfl (X.add rfl rfl (by omega)) ?_
            refine L.va rfl (X.sub rfl rfl (by omega)) ?_
            refine L.va rfl (X.move (by conv => lhs; whnf)) ?_
            refine L.va rfl (X.sub rfl rfl (by omega)) ?_
            refine L.va rfl (X.index1e (j := lo + m - 1 - i) rfl rfl (by omega) Tryz.underlying24 sz_27 (Option.some_ne_none _) (by omega)) ?_
            refine L.va rfl (X.load rfl sc_27 hld) ?_
            refine L.va rfl (X.eql rfl rfl) ?_
            refine L.va rfl (X.pickT rfl (by conv => lhs; whnf)) ?_
            refine L.nil ?_
            refine J.dec rfl (fun h9 => ?_) (fun h9 => ?_)
            ·skip
             refine J.seq ?_
             refine J.region ?_
             refine L.va rfl ((by first | exact X.loadAgg rfl (range_l k62) Tryz.underlying113 rfl (by kernel_rfl) | exact X.loadAgg rfl (range_blk k62) Tryz.underlying113 rfl (by kernel_rfl))) ?_
             refine L.storeAgg (vs := [_, _, _, _, _, _, _]) rfl rfl rfl rfl sz_113 (k61) rfl ?_
             intro we hke hge hse
             have hee : Ext w we := he6.grw hge (by intro g hg; injection hg with hg; omega)
             refine L.va rfl (X.assign (by conv => lhs; whnf)) ?_
             refine L.nil ?_
             refine J.ret ?_
             refine inB_ret <|  thn_ret <|  thn_ret <|  inB_ret <|  thn_ret <| ?_
             refine finCT rfl (run_cell hke Tryz.underlying113 rfl (by kernel_rfl)) ?_
             exact RefR.bad (g6 ⟨.inr (by omega), h9⟩) (by decide) rfl hee
            ·skip
             refine J.skip ?_
             refine J.region ?_
             refine L.va rfl (X.move (by conv => lhs; whnf)) ?_
             refine L.va rfl (X.add rfl rfl (by omega)) ?_
             refine L.va rfl (X.assign (by conv => lhs; whnf)) ?_
             refine L.nil ?_
             refine ⟨i + 1, At1 (by first | rfl | exact at_int rfl (by omega) | exact at_slice rfl (by omega) | exact at_int rfl (by simp)), (by (iterate 25 refine Agr.lk rfl ?_); refine Agr.lk rfl ?_; refine Agr.hav rfl ?_; (iterate 3 refine Agr.lk rfl ?_); exact Agr.lk rfl (Agr.hav rfl Agr.rfl')), ?_⟩
             exact ⟨⟨by omega, ok (fun h => h9 h.2), ho6, k61, k62, he6⟩, by omega⟩
           ·refine L.no rfl ?_
            iterate 9 refine L.no rfl ?_
            refine L.va rfl (X.pickF rfl (by conv => lhs; whnf)) ?_
            refine L.nil ?_
            refine J.iteF rfl ?_
            refine J.skip ?_
            refine J.region ?_
            refine L.va rfl (X.move (by conv => lhs; whnf)) ?_
            refine L.va rfl (X.add rfl rfl (by omega)) ?_
            refine L.va rfl (X.assign (by conv => lhs; whnf)) ?_
            refine L.nil ?_
            refine ⟨i + 1, At1 (by first | rfl | exact at_int rfl (by omega) | exact at_slice rfl (by omega) | exact at_int rfl (by simp)), (by (iterate 25 refine Agr.lk rfl ?_); refine Agr.lk rfl ?_; refine Agr.hav rfl ?_; (iterate 3 refine Agr.lk rfl ?_); exact Agr.lk rfl (Agr.hav rfl Agr.rfl')), ?_⟩
            exact ⟨⟨by omega, ok (fun h => by omega), ho6, k61, k62, he6⟩, by omega⟩
        ·obtain rfl : i = m := by omega
         have hw0 := wordsE_0 hs
         refine J.exit ?_
         iterate 2 refine J.seq ?_
         refine J.region ?_
         refine L.va rfl (X.move (by conv => lhs; whnf)) ?_
         refine L.va rfl (X.len rfl Tryz.underlying71) ?_
         refine L.va rfl (X.move (by conv => lhs; whnf)) ?_
         refine L.va rfl (X.mul rfl rfl (by omega)) ?_
         refine L.va rfl (X.add rfl rfl (by omega)) ?_
         refine L.va rfl (X.gtr rfl rfl) ?_
         refine L.nil ?_
         refine J.dec rfl (fun h7 => ?_) (fun h7 => ?_)
         ·skip
          refine J.seq ?_
          refine J.region ?_
          refine L.va rfl ((by first | exact X.loadAgg rfl (range_l k2) Tryz.underlying113 rfl (by kernel_rfl) | exact X.loadAgg rfl (range_blk k2) Tryz.underlying113 rfl (by kernel_rfl))) ?_
          refine L.storeAgg (vs := [_, _, _, _, _, _, _]) rfl rfl rfl rfl sz_113 (k1) rfl ?_
          intro we hke hge hse
          have hee : Ext w we := he5.grw hge (by intro g hg; injection hg with hg; omega)
          refine L.va rfl (X.assign (by conv => lhs; whnf)) ?_
          refine L.nil ?_
          refine J.ret ?_
          refine thn_ret <| ?_
          refine finCT rfl (run_cell hke Tryz.underlying113 rfl (by kernel_rfl)) ?_
          exact RefR.bad (readE_m H0 h3 em hw0 (by omega)) (by decide) rfl hee
         ·have h8 := readE_0 H0 h3 em hw0 (by omega)
          have eM : magOf b = mg b (lo + i) i := by unfold magOf; rw [elo, em]; rfl
          have mB := mg_b hb (lo + i) i
          have c6 := rnum (some ⟨b4, 0, none⟩) (lo + i) (lo + i) (mg b (lo + i) i) w5 (N := w5.heap.size) (Nat.le_refl _) (Reads.of_own ho5) (mg_len b (by omega)) mB (by omega)
          refine J.skip ?_
          refine J.seq ?_
          refine J.region ?_
          refine L.va rfl (X.move (by conv => lhs; whnf)) ?_
          refine L.va rfl (X.rem rfl rfl (by omega)) ?_
          refine L.va rfl (X.eql rfl rfl) ?_
          refine L.va rfl (X.move (by conv => lhs; whnf)) ?_
          refine L.va rfl (X.quo rfl rfl (by omega)) ?_
          refine L.va rfl (X.rem rfl rfl (by omega)) ?_
          refine L.va rfl (X.eql rfl rfl) ?_
          refine L.va rfl (X.move (by conv => lhs; whnf)) ?_
          refine L.va rfl (X.quo rfl rfl (by omega)) ?_
          refine L.va rfl (X.rem rfl rfl (by omega)) ?_
          refine L.va rfl (X.eql rfl rfl) ?_
          refine L.va rfl (X.move (by conv => lhs; whnf)) ?_
          refine L.va rfl (X.quo rfl rfl (by omega)) ?_
          refine L.va rfl (X.rem rfl rfl (by omega)) ?_
          refine L.va rfl (X.eql rfl rfl) ?_
          iterate 2 refine L.va rfl (X.move (by conv => lhs; whnf)) ?_
          refine L.call rfl en_85 rfl (c6) ?_
          rintro e w6 ⟨u, rfl, huA, hug, huv, hun, huO, he6⟩
          refine ⟨_, rfl, ?_⟩
          have he6 : Ext w5 w6 := he6
          have he06 := he5.trans he6
          have z6 := he06.le
          have k61 := k1.ext he6
          have k62 := k2.ext he6
          refine L.va rfl (sum05 (by conv => lhs; whnf) (by conv => lhs; whnf) (by conv => lhs; whnf) (by conv => lhs; whnf) (by conv => lhs; whnf) (by conv => lhs; whnf)) ?_
          refine L.storeAgg (vs := [_, _, _, _, _, _, _]) rfl rfl rfl rfl sz_113 (k62) rfl ?_
          intro w7 k72 hg7 hs7
          have k71 := k61.grown hg7 (fun e => by injection e with e; omega)
          have he7 : Ext w w7 := he06.grw hg7 (by intro g hg; injection hg with hg; omega)
          have z7 := he7.le
          have uO : u.Own w5.heap.size w7 := huO.kept hg7 (.inr (own_blk_ne huO k62 (by decide)))
          have uA : u.At w7.heap.size w7 := ⟨Reads.of_own uO, huA.dg, huA.cn, huA.sg, huA.cp, huA.sm⟩
          have uM : dv u.d = nv (magOf b) := by rw [huv, eM]
          have b32 : (decide (b.getD 0 0 / 32 = 1)) = decide (b.getD 0 0 / 32 = 1) := rfl
          refine L.nil ?_
          iterate 2 refine J.seq ?_
          refine J.region ?_
          refine L.va rfl (X.move (by conv => lhs; whnf)) ?_
          refine L.nil ?_
          refine J.dec rfl (fun hneg => ?_) (fun hneg => ?_)
          ·have hneg : b.getD 0 0 / 32 = 1 := by simpa using hneg
           obtain ⟨fl, hfl⟩ : ∃ fl : List Value, fl = [.bool (decide (b.getD 0 0 % 2 = 1)), .bool (decide (b.getD 0 0 / 2 % 2 = 1)), .bool (decide (b.getD 0 0 / 4 % 2 = 1)), .bool (decide (b.getD 0 0 / 8 % 2 = 1)), .bool (decide (b.getD 0 0 / 16 % 2 = 1))] := ⟨_, rfl⟩
           have k72' : Blk w7 p2 113 (fl ++ u.vs ++ []).toArray := by
            rw [hfl]
            exact k72
           have r5 : w7.rangeAt p2 5 u.vs := by
            have := range_mid k72'
            rw [hfl] at this
            exact this
           have c8 := rneg (x := u) (w := w7) (Nat.le_refl _) uA
           refine J.region ?_
           refine L.va rfl (X.fieldAddr rfl Tryz.underlying113 rfl sz_111 (by decide)) ?_
           refine L.va rfl (X.loadAgg rfl r5 Tryz.underlying111 rfl (by kernel_rfl)) ?_
           refine L.call rfl en_86 rfl (c8) ?_
           rintro e w8 ⟨rfl, tA, he8⟩
           refine ⟨_, rfl, ?_⟩
           have he8 : Ext w7 w8 := he8
           have k81 := k71.ext he8
           have k82 := k72.ext he8
           have uO8 := uO.ext he8
           refine L.va rfl (X.fieldAddr rfl Tryz.underlying113 rfl sz_111 (by decide)) ?_
           refine L.storeC (vs := [.bool (!u.g && decide (0 < u.n)), .slice u.A u.n u.c]) rfl rfl rfl rfl rfl sz_111 k82 (Nat.le_of_ble_eq_true rfl) ?_
           intro w9 k92 hg9 hs9
           have k91 := k81.grown hg9 (fun e => by injection e with e; omega)
           have he9 : Ext w w9 := (he7.trans he8).grw hg9 (by intro g hg; injection hg with hg; omega)
           have uO9 : u.Own w5.heap.size w9 := uO8.kept hg9 (.inr (own_blk_ne uO8 k82 (by decide)))
           have k92 : Blk w9 p2 113 #[.bool (decide (b.getD 0 0 % 2 = 1)), .bool (decide (b.getD 0 0 / 2 % 2 = 1)), .bool (decide (b.getD 0 0 / 4 % 2 = 1)), .bool (decide (b.getD 0 0 / 8 % 2 = 1)), .bool (decide (b.getD 0 0 / 16 % 2 = 1)), .bool (!u.g && decide (0 < u.n)), .slice u.A u.n u.c] := k92
           refine L.nil ?_
           refine J.seq ?_
           refine J.region ?_
           refine L.va rfl ((by first | exact X.loadAgg rfl (range_l k92) Tryz.underlying113 rfl (by kernel_rfl) | exact X.loadAgg rfl (range_blk k92) Tryz.underlying113 rfl (by kernel_rfl))) ?_
           refine L.storeAgg (vs := [_, _, _, _, _, _, _]) rfl rfl rfl rfl sz_113 (k91) rfl ?_
           intro w10 k101 hg10 hs10
           have he10 : Ext w w10 := he9.grw hg10 (by intro g hg; injection hg with hg; omega)
           have uO10 : u.Own w5.heap.size w10 := uO9.kept hg10 (.inr (own_blk_ne uO9 k91 (by decide)))
           refine L.va rfl (X.assign (by conv => lhs; whnf)) ?_
           refine L.nil ?_
           refine J.ret ?_
           refine finCT rfl (run_cell k101 Tryz.underlying113 rfl (by kernel_rfl)) ?_
           refine ⟨_, by rw [h8]; rfl, he10, ⟨_, rfl, rfl, rfl⟩, fun _ => ⟨Nu.mk (!u.g && decide (0 < u.n)) u.A u.n u.c u.d, rfl, ⟨Reads.of_own uO10, tA.dg, tA.cn, tA.sg, tA.cp, tA.sm⟩, ?_, uM, by show u.n ≤ 1000; omega⟩⟩
           show (!u.g && decide (0 < u.n)) = (decide (b.getD 0 0 / 32 = 1) && decide (0 < u.n))
           rw [hug, decide_eq_true hneg]
           rfl
          ·have hneg : ¬ b.getD 0 0 / 32 = 1 := by simpa using hneg
           refine J.skip ?_
           refine J.seq ?_
           refine J.region ?_
           refine L.va rfl ((by first | exact X.loadAgg rfl (range_l k72) Tryz.underlying113 rfl (by kernel_rfl) | exact X.loadAgg rfl (range_blk k72) Tryz.underlying113 rfl (by kernel_rfl))) ?_
           refine L.storeAgg (vs := [_, _, _, _, _, _, _]) rfl rfl rfl rfl sz_113 (k71) rfl ?_
           intro w8 k81 hg8 hs8
           have he8 : Ext w w8 := he7.grw hg8 (by intro g hg; injection hg with hg; omega)
           have uO8 : u.Own w5.heap.size w8 := uO.kept hg8 (.inr (own_blk_ne uO k71 (by decide)))
           refine L.va rfl (X.assign (by conv => lhs; whnf)) ?_
           refine L.nil ?_
           refine J.ret ?_
           refine finCT rfl (run_cell k81 Tryz.underlying113 rfl (by kernel_rfl)) ?_
           refine ⟨_, by rw [h8]; rfl, he8, ⟨_, rfl, rfl, rfl⟩, fun _ => ⟨u, rfl, ⟨Reads.of_own uO8, huA.dg, huA.cn, huA.sg, huA.cp, huA.sm⟩, ?_, uM, by omega⟩⟩
           rw [hug, decide_eq_false hneg]
           rfl
end Go.Proofs.YtpomklkfedpkfaaGreat
namespace Go.Proofs.YtpomklkfedpkfaaGreat
set_option maxRecDepth 100000
open Go.RowKit H
open Flo
set_option linter.unusedVariables false
theorem rg_inf {x : Nat} (h : ¬ nanF x) : rg x ≤ inf := by
  unfold nanF at h
  omega
theorem key_nan {x y : Nat} (h : nanF x ∨ nanF y) : decide (keyF x < keyF y) = !decide (kindF x = 3) := by
  by_cases hx : nanF x
  · rw [decide_eq_true ((kind3 x).2 hx), decide_eq_false]
    · rfl
    · have := (keyF_bd y).2
      unfold keyF at *
      rw [if_pos hx]
      omega
  · have hy : nanF y := h.resolve_left hx
    rw [decide_eq_false (fun k => hx ((kind3 x).1 k)), decide_eq_true]
    · rfl
    · have := rg_inf hx
      unfold keyF
      rw [if_neg hx, if_pos hy]
      unfold inf at this
      split <;> omega
theorem key_num {x y : Nat} (hx : ¬ nanF x) (hy : ¬ nanF y) : keyF x < keyF y ↔ ltF x y ∨ (eqF x y ∧ belowF x = true ∧ belowF y = false) := by
  unfold keyF ltF eqF belowF od
  rw [if_neg hx, if_neg hy]
  simp only [hx, hy, not_false_eq_true, true_and, decide_true, Bool.true_and]
  cases sg x <;> cases sg y <;> simp <;> omega
theorem rless03 (x y : Nat) (w : World) (hx : x < 18446744073709551616) (hy : y < 18446744073709551616) : Calls Tryz.prog 69 #[.float .f64 x, .float .f64 y] w fun e w' => e = .returned (.bool (decide (keyF x < keyF y))) ∧ Ext w w' := by
 have c1 := kind03 x w
 refine enter Tryz.func69 rfl (by kernel_rfl) ?_
 refine J.seq ?_
 refine J.region ?_
 refine L.va rfl (X.assign (by conv => lhs; whnf)) ?_
 refine L.nil ?_
 iterate 2 refine J.seq ?_
 refine J.region ?_
 refine L.va rfl (X.move (by conv => lhs; whnf)) ?_
 refine L.call rfl en_70 rfl (c1) ?_
 rintro e w1 ⟨rfl, he1⟩
 refine ⟨_, rfl, ?_⟩
 have he1 : Ext w w1 := he1
 have c2 := kind03 y w1
 refine L.va rfl (X.eql rfl rfl) ?_
 refine L.va rfl (X.move (by conv => lhs; whnf)) ?_
 refine L.caseDec (k := 8) rfl (fun h1 => ?_) (fun h1 => ?_)
 ·have hnx : nanF x := (kind3 x).1 h1
  have c3 := kind03 x w1
  iterate 3 refine L.no rfl ?_
  refine L.va rfl (X.pickT rfl (by conv => lhs; whnf)) ?_
  refine L.nil ?_
  refine J.iteT rfl ?_
  refine J.seq ?_
  refine J.region ?_
  refine L.va rfl (X.move (by conv => lhs; whnf)) ?_
  refine L.call rfl en_70 rfl (c3) ?_
  rintro e w2 ⟨rfl, he2⟩
  refine ⟨_, rfl, ?_⟩
  refine L.va rfl (X.neq rfl rfl) ?_
  refine L.va rfl (X.assign (by conv => lhs; whnf)) ?_
  refine L.nil ?_
  refine J.ret ?_
  refine thn_ret <| ?_
  refine fin1 ?_
  exact ⟨by rw [key_nan (.inl hnx)]; rfl, he1.trans he2⟩
 ·have hnx : ¬ nanF x := fun h => h1 ((kind3 x).2 h)
  refine L.va rfl (X.move (by conv => lhs; whnf)) ?_
  refine L.call rfl en_70 rfl (c2) ?_
  rintro e w2 ⟨rfl, he2⟩
  refine ⟨_, rfl, ?_⟩
  have he2 : Ext w1 w2 := he2
  have he02 := he1.trans he2
  refine L.va rfl (X.eql rfl rfl) ?_
  refine L.va rfl (X.pickF rfl (by conv => lhs; whnf)) ?_
  refine L.nil ?_
  refine J.dec rfl (fun h2 => ?_) (fun h2 => ?_)
  ·have hny : nanF y := (kind3 y).1 h2
   have c3 := kind03 x w2
   refine J.seq ?_
   refine J.region ?_
   refine L.va rfl (X.move (by conv => lhs; whnf)) ?_
   refine L.call rfl en_70 rfl (c3) ?_
   rintro e w3 ⟨rfl, he3⟩
   refine ⟨_, rfl, ?_⟩
   refine L.va rfl (X.neq rfl rfl) ?_
   refine L.va rfl (X.assign (by conv => lhs; whnf)) ?_
   refine L.nil ?_
   refine J.ret ?_
   refine thn_ret <| ?_
   refine fin1 ?_
   exact ⟨by rw [key_nan (.inr hny)]; rfl, he02.trans he3⟩
  ·have hny : ¬ nanF y := fun h => h2 ((kind3 y).2 h)
   have hk := key_num hnx hny
   have c3 := below03 x w2 hx
   have c4 := below03 y w2 hy
   refine J.skip ?_
   refine J.seq ?_
   refine J.region ?_
   iterate 2 refine L.va rfl (X.move (by conv => lhs; whnf)) ?_
   refine L.va rfl (X.lssF rfl rfl) ?_
   refine L.va rfl (X.move (by conv => lhs; whnf)) ?_
   refine L.caseDec (k := 19) rfl (fun h3 => ?_) (fun h3 => ?_)
   ·refine L.no rfl ?_
    iterate 11 refine L.no rfl ?_
    refine L.va rfl (X.pickT rfl (by conv => lhs; whnf)) ?_
    refine L.va rfl (X.assign (by conv => lhs; whnf)) ?_
    refine L.nil ?_
    refine J.ret ?_
    refine fin1 ?_
    exact ⟨by rw [decide_eq_true (hk.2 (.inl h3))]; rfl, he02⟩
   ·refine L.va rfl (X.move (by conv => lhs; whnf)) ?_
    refine L.va rfl (X.move (by conv => lhs; whnf)) ?_
    refine L.va rfl (X.eqlF rfl rfl) ?_
    refine L.va rfl (X.move (by conv => lhs; whnf)) ?_
    refine L.caseDec (k := 23) rfl (fun h4 => ?_) (fun h4 => ?_)
    ·refine L.va rfl (X.move (by conv => lhs; whnf)) ?_
     refine L.call rfl en_71 rfl (c3) ?_
     rintro e _ ⟨rfl, rfl⟩
     refine ⟨_, rfl, ?_⟩
     refine L.va rfl (X.pickT rfl (by conv => lhs; whnf)) ?_
     refine L.va rfl (X.move (by conv => lhs; whnf)) ?_
     cases hb : belowF x
     ·refine L.caseBF (k := 27) rfl (by rfl) ?_
      iterate 3 refine L.no rfl ?_
      iterate 2 refine L.va rfl (X.pickF rfl (by conv => lhs; whnf)) ?_
      refine L.va rfl (X.assign (by conv => lhs; whnf)) ?_
      refine L.nil ?_
      refine J.ret ?_
      refine fin1 ?_
      refine ⟨?_, he02⟩
      have e : decide (keyF x < keyF y) = false := decide_eq_false (fun h => by
       rcases hk.1 h with h | ⟨_, h, _⟩
       ·exact h3 h
       ·rw [hb] at h; cases h)
      rw [e]
      rfl
     ·refine L.caseBT (k := 27) rfl (by rfl) ?_
      refine L.va rfl (X.move (by conv => lhs; whnf)) ?_
      refine L.call rfl en_71 rfl (c4) ?_
      rintro e _ ⟨rfl, rfl⟩
      refine ⟨_, rfl, ?_⟩
      refine L.va rfl (X.not rfl) ?_
      refine L.va rfl (X.pickT rfl (by conv => lhs; whnf)) ?_
      refine L.va rfl (X.pickF rfl (by conv => lhs; whnf)) ?_
      refine L.va rfl (X.assign (by conv => lhs; whnf)) ?_
      refine L.nil ?_
      refine J.ret ?_
      refine fin1 ?_
      refine ⟨?_, he02⟩
      cases hb2 : belowF y
      ·rw [decide_eq_true (hk.2 (.inr ⟨h4, hb, hb2⟩))]
       rfl
      ·have e : decide (keyF x < keyF y) = false := decide_eq_false (fun h => by
        rcases hk.1 h with h | ⟨_, _, h⟩
        ·exact h3 h
        ·rw [hb2] at h; cases h)
       rw [e]
       rfl
    ·refine L.no rfl ?_
     refine L.no rfl ?_
     refine L.va rfl (X.pickF rfl (by conv => lhs; whnf)) ?_
     refine L.va rfl (X.move (by conv => lhs; whnf)) ?_
     iterate 3 refine L.no rfl ?_
     iterate 2 refine L.va rfl (X.pickF rfl (by conv => lhs; whnf)) ?_
     refine L.va rfl (X.assign (by conv => lhs; whnf)) ?_
     refine L.nil ?_
     refine J.ret ?_
     refine fin1 ?_
     refine ⟨?_, he02⟩
     have e : decide (keyF x < keyF y) = false := decide_eq_false (fun h => by
      rcases hk.1 h with h | ⟨h, _⟩
      ·exact h3 h
      ·exact h4 h)
     rw [e]
     rfl
end Go.Proofs.YtpomklkfedpkfaaGreat
namespace Go.Proofs.YtpomklkfedpkfaaGreat
set_option maxRecDepth 100000
open Go.RowKit H
set_option linter.unusedVariables false
namespace H
theorem X.eqlNil {P : Program} {w : World} {f : Fr} {x y : Operand} {d : Option Tmp} {tx tz ty : TypeId} {pos : String} {aft : Array Edge} {g : Option (Nat × Bool)} {A : Option Addr} {n c e : Nat} (hx : ev f x = .slice A n c) (hy : ev f y = .slice none 0 0) (ht : P.underlying tx = some (.slice e)) : (execOp (ev f) ⟨d, .binOp .eql tx x y tz, ty, pos, aft, g⟩).run P w = .ok (.value (.bool A.isNone)) w :=
  X.bin hx hy (by simp [go_sem]) (by simp [binOp, show (Op.equal tx (.slice A n c) (.slice none 0 0)).run P w = .ok A.isNone w from run_equalIn_slice_nil w 9999 tx e A n c ht])
end H
theorem cloneI (A : Option Addr) (n c : Nat) (l : List Int) (w : World) (hr : Reads w w.heap.size 1 A n (nums .i64 l)) (hn : n ≤ 5000) : Calls Tryz.prog 47 #[.slice A n c] w fun e w' => ∃ A' c', e = .returned (.slice A' n c') ∧ w'.ownsRow w.heap.size 3 1 (.slice A' n c') n (nums .i64 l) ∧ Ext w w' := by
 have hl : l.length = n := by have := hr.1; simpa [nums] using this
 refine enter Tryz.func47 rfl (by kernel_rfl) ?_
 refine J.seq ?_
 refine J.region ?_
 refine L.va rfl (X.assign (by conv => lhs; whnf)) ?_
 refine L.nil ?_
 iterate 2 refine J.seq ?_
 refine J.region ?_
 refine L.va rfl (X.move (by conv => lhs; whnf)) ?_
 refine L.va rfl (X.eqlNil rfl rfl Tryz.underlying44) ?_
 refine L.nil ?_
 rcases A with _ | a
 ·obtain rfl : n = 0 := by
   apply Decidable.byContradiction
   intro h
   exact hr.some_ (by omega) rfl
  obtain rfl : l = [] := List.length_eq_zero_iff.1 hl
  refine J.iteT rfl ?_
  refine J.seq ?_
  refine J.region ?_
  refine L.va rfl (X.assign (by conv => lhs; whnf)) ?_
  refine L.nil ?_
  refine J.ret ?_
  refine thn_ret <| ?_
  refine fin1 ?_
  exact ⟨none, 0, rfl, own_nil _ _ _ _, Ext.refl _⟩
 ·refine J.iteF rfl ?_
  refine J.skip ?_
  refine J.seq ?_
  refine J.region ?_
  refine L.bslice (vs := []) rfl Evs.nil rfl rfl rfl rfl Tryz.underlying44 sz_3 zr_3 (by decide) ?_
  intro b1 w1 hb1 hs1 hk1 he1
  have ho1 : w1.ownsRow w.heap.size 3 1 (.slice (some ⟨b1, 0, none⟩) 0 0) 0 (nums .i64 []) := blk_own1 (q := 0) (l := []) hk1 (by omega) (Nat.zero_le _) rfl
  have z1 := he1.le
  refine L.va rfl (X.move (by conv => lhs; whnf)) ?_
  refine L.appendQ (q := n) (ys := l) rfl rfl rfl Tryz.underlying44 el_3 (ho1) (hr.ext he1) (by omega) (by simp) (by unfold maxLen; omega) (by omega) ?_
  intro A2 c2 w2 ho2 hg2 hb2 hor2
  refine L.va rfl (X.assign (by conv => lhs; whnf)) ?_
  refine L.nil ?_
  refine J.ret ?_
  refine fin1 ?_
  exact ⟨A2, c2, rfl, ho2, he1.grw hg2 (by intro g hg; injection hg with hg; subst hg; show w.heap.size ≤ b1; omega)⟩
theorem own_max {w : World} {base e sz n : Nat} {v : Value} {xs : List Value} (h : w.ownsRow base e sz v n xs) : n ≤ maxLen := by
  rcases h.2 with ⟨_, rfl⟩ | ⟨b, cap, cur, rfl, _, _, h1, h2, _⟩
  · exact Nat.zero_le _
  · exact Nat.le_trans h1 h2
theorem own_lower {w : World} {base base' e sz n : Nat} {v : Value} {xs : List Value} (h : w.ownsRow base e sz v n xs) (hb : base' ≤ base) : w.ownsRow base' e sz v n xs := by
  refine ⟨h.1, ?_⟩
  rcases h.2 with h1 | ⟨b, cap, cur, h1, h2, h3⟩
  · exact .inl h1
  · exact .inr ⟨b, cap, cur, h1, Nat.le_trans hb h2, h3⟩
end Go.Proofs.YtpomklkfedpkfaaGreat
namespace Go.Proofs.YtpomklkfedpkfaaGreat
set_option maxRecDepth 100000
open Go.RowKit H
set_option linter.unusedVariables false
theorem cloneWh (A : Option Addr) (n c : Nat) (l : List Wh) (w : World) (hr : Reads w w.heap.size 5 A n (l.flatMap Wh.vs)) (hn : n ≤ 1000) (hl : l.length = n) : Calls Tryz.prog 58 #[.slice A n c] w fun e w' => ∃ A' c', e = .returned (.slice A' n c') ∧ w'.ownsRow w.heap.size 70 5 (.slice A' n c') n (l.flatMap Wh.vs) ∧ Ext w w' := by
 refine enter Tryz.func58 rfl (by kernel_rfl) ?_
 refine J.seq ?_
 refine J.region ?_
 refine L.va rfl (X.assign (by conv => lhs; whnf)) ?_
 refine L.nil ?_
 iterate 2 refine J.seq ?_
 refine J.region ?_
 refine L.va rfl (X.move (by conv => lhs; whnf)) ?_
 refine L.va rfl (X.eqlNil rfl rfl Tryz.underlying49) ?_
 refine L.nil ?_
 rcases A with _ | a
 ·obtain rfl : n = 0 := by
   apply Decidable.byContradiction
   intro h
   exact hr.some_ (by omega) rfl
  obtain rfl : l = [] := List.length_eq_zero_iff.1 hl
  refine J.iteT rfl ?_
  refine J.seq ?_
  refine J.region ?_
  refine L.va rfl (X.assign (by conv => lhs; whnf)) ?_
  refine L.nil ?_
  refine J.ret ?_
  refine thn_ret <| ?_
  refine fin1 ?_
  exact ⟨none, 0, rfl, own_nil _ _ _ _, Ext.refl _⟩
 ·refine J.iteF rfl ?_
  refine J.skip ?_
  refine J.seq ?_
  refine J.region ?_
  refine L.bsliceR (ls := []) rfl Evs.nil rfl rfl rfl rfl Tryz.underlying49 sz_70 zr_70 (by decide) ?_
  intro b1 w1 hb1 hs1 hk1 he1
  have ho1 : w1.ownsRow w.heap.size 70 5 (.slice (some ⟨b1, 0, none⟩) 0 0) 0 (([] : List Wh).flatMap Wh.vs) := blk_own (size := 5) (q := 0) (c := 0) (l := []) hk1 (by omega) (Nat.le_refl _) (Nat.zero_le _) rfl
  have z1 := he1.le
  have hones : ((l.flatMap Wh.vs).all (·.oneCell')) = true := by
   rw [List.all_eq_true]
   intro v hv
   obtain ⟨x, _, hx⟩ := List.mem_flatMap.1 hv
   simp only [Wh.vs, List.mem_cons, List.not_mem_nil, or_false] at hx
   rcases hx with rfl | rfl | rfl | rfl | rfl <;> rfl
  refine L.va rfl (X.move (by conv => lhs; whnf)) ?_
  refine L.appendV (q := n) (ys := l.flatMap Wh.vs) rfl rfl rfl Tryz.underlying49 el_70 (ho1) (hr.ext he1) (by first | rfl | exact strs_ones _ | assumption) (by omega) (by simp) (by unfold maxLen; omega) (by omega) ?_
  intro A2 c2 w2 ho2 hg2 hb2 hor2
  refine L.va rfl (X.assign (by conv => lhs; whnf)) ?_
  refine L.nil ?_
  refine J.ret ?_
  refine fin1 ?_
  exact ⟨A2, c2, rfl, ho2, he1.grw hg2 (by intro g hg; injection hg with hg; subst hg; show w.heap.size ≤ b1; omega)⟩
theorem cloneRe (A : Option Addr) (n c : Nat) (l : List Re) (w : World) (hr : Reads w w.heap.size 3 A n (l.flatMap Re.vs)) (hn : n ≤ 1000) (hl : l.length = n) : Calls Tryz.prog 60 #[.slice A n c] w fun e w' => ∃ A' c', e = .returned (.slice A' n c') ∧ w'.ownsRow w.heap.size 74 3 (.slice A' n c') n (l.flatMap Re.vs) ∧ Ext w w' := by
 refine enter Tryz.func60 rfl (by kernel_rfl) ?_
 refine J.seq ?_
 refine J.region ?_
 refine L.va rfl (X.assign (by conv => lhs; whnf)) ?_
 refine L.nil ?_
 iterate 2 refine J.seq ?_
 refine J.region ?_
 refine L.va rfl (X.move (by conv => lhs; whnf)) ?_
 refine L.va rfl (X.eqlNil rfl rfl Tryz.underlying50) ?_
 refine L.nil ?_
 rcases A with _ | a
 ·obtain rfl : n = 0 := by
   apply Decidable.byContradiction
   intro h
   exact hr.some_ (by omega) rfl
  obtain rfl : l = [] := List.length_eq_zero_iff.1 hl
  refine J.iteT rfl ?_
  refine J.seq ?_
  refine J.region ?_
  refine L.va rfl (X.assign (by conv => lhs; whnf)) ?_
  refine L.nil ?_
  refine J.ret ?_
  refine thn_ret <| ?_
  refine fin1 ?_
  exact ⟨none, 0, rfl, own_nil _ _ _ _, Ext.refl _⟩
 ·refine J.iteF rfl ?_
  refine J.skip ?_
  refine J.seq ?_
  refine J.region ?_
  refine L.bsliceR (ls := []) rfl Evs.nil rfl rfl rfl rfl Tryz.underlying50 sz_74 zr_74 (by decide) ?_
  intro b1 w1 hb1 hs1 hk1 he1
  have ho1 : w1.ownsRow w.heap.size 74 3 (.slice (some ⟨b1, 0, none⟩) 0 0) 0 (([] : List Re).flatMap Re.vs) := blk_own (size := 3) (q := 0) (c := 0) (l := []) hk1 (by omega) (Nat.le_refl _) (Nat.zero_le _) rfl
  have z1 := he1.le
  have hones : ((l.flatMap Re.vs).all (·.oneCell')) = true := by
   rw [List.all_eq_true]
   intro v hv
   obtain ⟨x, _, hx⟩ := List.mem_flatMap.1 hv
   simp only [Re.vs, List.mem_cons, List.not_mem_nil, or_false] at hx
   rcases hx with rfl | rfl | rfl <;> rfl
  refine L.va rfl (X.move (by conv => lhs; whnf)) ?_
  refine L.appendV (q := n) (ys := l.flatMap Re.vs) rfl rfl rfl Tryz.underlying50 el_74 (ho1) (hr.ext he1) (by first | rfl | exact strs_ones _ | assumption) (by omega) (by simp) (by unfold maxLen; omega) (by omega) ?_
  intro A2 c2 w2 ho2 hg2 hb2 hor2
  refine L.va rfl (X.assign (by conv => lhs; whnf)) ?_
  refine L.nil ?_
  refine J.ret ?_
  refine fin1 ?_
  exact ⟨A2, c2, rfl, ho2, he1.grw hg2 (by intro g hg; injection hg with hg; subst hg; show w.heap.size ≤ b1; omega)⟩
theorem cloneBy (A : Option Addr) (n c : Nat) (l : List Int) (w : World) (hr : Reads w w.heap.size 1 A n (nums .u8 l)) (hn : n ≤ 5000) : Calls Tryz.prog 61 #[.slice A n c] w fun e w' => ∃ A' c', e = .returned (.slice A' n c') ∧ w'.ownsRow w.heap.size 5 1 (.slice A' n c') n (nums .u8 l) ∧ Ext w w' := by
 have hl : l.length = n := by have := hr.1; simpa [nums] using this
 refine enter Tryz.func61 rfl (by kernel_rfl) ?_
 refine J.seq ?_
 refine J.region ?_
 refine L.va rfl (X.assign (by conv => lhs; whnf)) ?_
 refine L.nil ?_
 iterate 2 refine J.seq ?_
 refine J.region ?_
 refine L.va rfl (X.move (by conv => lhs; whnf)) ?_
 refine L.va rfl (X.eqlNil rfl rfl Tryz.underlying71) ?_
 refine L.nil ?_
 rcases A with _ | a
 ·obtain rfl : n = 0 := by
   apply Decidable.byContradiction
   intro h
   exact hr.some_ (by omega) rfl
  obtain rfl : l = [] := List.length_eq_zero_iff.1 hl
  refine J.iteT rfl ?_
  refine J.seq ?_
  refine J.region ?_
  refine L.va rfl (X.assign (by conv => lhs; whnf)) ?_
  refine L.nil ?_
  refine J.ret ?_
  refine thn_ret <| ?_
  refine fin1 ?_
  exact ⟨none, 0, rfl, own_nil _ _ _ _, Ext.refl _⟩
 ·refine J.iteF rfl ?_
  refine J.skip ?_
  refine J.seq ?_
  refine J.region ?_
  refine L.bslice (vs := []) rfl Evs.nil rfl rfl rfl rfl Tryz.underlying71 sz_5 zr_5 (by decide) ?_
  intro b1 w1 hb1 hs1 hk1 he1
  have ho1 : w1.ownsRow w.heap.size 5 1 (.slice (some ⟨b1, 0, none⟩) 0 0) 0 (nums .u8 []) := blk_own1 (q := 0) (l := []) hk1 (by omega) (Nat.zero_le _) rfl
  have z1 := he1.le
  refine L.va rfl (X.move (by conv => lhs; whnf)) ?_
  refine L.appendQ (q := n) (ys := l) rfl rfl rfl Tryz.underlying71 el_5 (ho1) (hr.ext he1) (by omega) (by simp) (by unfold maxLen; omega) (by omega) ?_
  intro A2 c2 w2 ho2 hg2 hb2 hor2
  refine L.va rfl (X.assign (by conv => lhs; whnf)) ?_
  refine L.nil ?_
  refine J.ret ?_
  refine fin1 ?_
  exact ⟨A2, c2, rfl, ho2, he1.grw hg2 (by intro g hg; injection hg with hg; subst hg; show w.heap.size ≤ b1; omega)⟩
end Go.Proofs.YtpomklkfedpkfaaGreat
namespace Go.Proofs.YtpomklkfedpkfaaGreat
open Go.RowKit H
set_option linter.unusedVariables false
theorem flat_set {X : Type} {f : X → List Value} {sz r : Nat} {v : Value} (h : ∀ x, (f x).length = sz) {y : X} : ∀ (l : List X) (i : Nat) (hi : i < l.length), r < sz → f y = (f (l[i])).set r v → (l.flatMap f).set (i * sz + r) v = (l.set i y).flatMap f
  | x :: t, 0, hi, hr, e => by
    have hx := h x
    have e : f y = (f x).set r v := e
    rw [List.set_cons_zero, List.flatMap_cons, List.flatMap_cons, Nat.zero_mul, Nat.zero_add, List.set_append_left _ _ (by omega), e]
  | x :: t, i + 1, hi, hr, e => by
    have hx := h x
    have e : f y = (f (t[i]'(by simpa using hi))).set r v := e
    rw [List.set_cons_succ, List.flatMap_cons, List.flatMap_cons, List.set_append_right _ _ (by rw [hx, Nat.succ_mul]; omega), hx, show (i + 1) * sz + r - sz = i * sz + r by rw [Nat.succ_mul]; omega, flat_set h t i (by simpa using hi) hr e]
end Go.Proofs.YtpomklkfedpkfaaGreat
namespace Go.Proofs.YtpomklkfedpkfaaGreat
open Go.RowKit H
set_option linter.unusedVariables false
def OfT (w : World) (t g : Nat) : Prop := ∃ cs, Blk w g t cs
theorem Blk.ofT {w : World} {g t : Nat} {cs : Array Value} (h : Blk w g t cs) : OfT w t g := ⟨cs, h⟩
theorem OfT.one {w : World} {g t t' : Nat} (h : OfT w t g) (h' : OfT w t' g) : t = t' := by
  obtain ⟨cs, h⟩ := h
  obtain ⟨cs', h'⟩ := h'
  unfold Blk at h h'
  rw [h] at h'
  injection h' with h'
  injection h'
theorem own_ofT {w : World} {base e size n : Nat} {v : Value} {xs : List Value} (h : w.ownsRow base e size v n xs) {g : Nat} (hg : v.ownBlock = some g) : OfT w e g ∧ base ≤ g := by
  rcases h.2 with ⟨rfl, _⟩ | ⟨b, cap, cur, rfl, hb, hh, _⟩
  · cases hg
  · obtain rfl : b = g := by injection hg
    exact ⟨⟨cur, hh⟩, hb⟩
def TCh (t : Nat) (w w' : World) : Prop := Chg (OfT w t) w w'
namespace TCh
variable {w w' : World} {t : Nat} {rw0 : Option Nat}
theorem grown (hg : w.grownBy w' rw0) (h : ∀ g, rw0 = some g → OfT w t g) : TCh t w w' := Chg.of_grown hg h
theorem row {base size n : Nat} {v : Value} {xs : List Value} (ho : w.ownsRow base t size v n xs) (hg : w.grownBy w' v.ownBlock) : TCh t w w' := grown hg fun g e => (own_ofT ho e).1
theorem put {b : Nat} {cs : Array Value} (hk : Blk w b t cs) (hg : w.grownBy w' (some b)) : TCh t w w' := grown hg fun g e => by injection e with e; subst e; exact hk.ofT
theorem ext (he : Ext w w') : TCh t w w' := Chg.of_ext he
theorem own {base e size n : Nat} {v : Value} {xs : List Value} (hC : TCh t w w') (ho : w.ownsRow base e size v n xs) (hne : e ≠ t) : w'.ownsRow base e size v n xs :=
  Chg.own hC ho fun g hg hS => hne ((own_ofT ho hg).1.one hS)
theorem blk {g e : Nat} {cs : Array Value} (hC : TCh t w w') (hb : Blk w g e cs) (hne : e ≠ t) : Blk w' g e cs := Chg.blk hC hb fun hS => hne (hb.ofT.one hS)
theorem size (hC : TCh t w w') : w.heap.size ≤ w'.heap.size := Chg.size hC
end TCh
end Go.Proofs.YtpomklkfedpkfaaGreat
namespace Go.Proofs.YtpomklkfedpkfaaGreat
open Go.RowKit H
set_option linter.unusedVariables false
def strs (l : List ByteArray) : List Value := l.map Value.string
theorem strs_length (l : List ByteArray) : (strs l).length = l.length := by simp [strs]
def be0 : ByteArray := ⟨#[]⟩
namespace H
theorem Ld.str {w : World} {B n : Nat} {A : Option Addr} {l : List ByteArray} (h : Reads w B 1 A n (strs l)) {j : Nat} (hj : j < n) : Ld w (pA A j) (.string (l.getD j be0)) := by
  have h1 := Ld.rd h (j := j) (by omega)
  have hl : j < l.length := by have := h.1; rw [strs_length] at this; omega
  have : (strs l).getD j undef = .string (l.getD j be0) := by simp [strs, List.getD, hl]
  rwa [this] at h1
theorem Ld.ostr {w : World} {base n c : Nat} {e : TypeId} {A : Option Addr} {l : List ByteArray} (h : w.ownsRow base e 1 (.slice A n c) n (strs l)) {j : Nat} (hj : j < n) : Ld w (pA A j) (.string (l.getD j be0)) := Ld.str (Reads.of_own h) hj
theorem X.lssS {P : Program} {w : World} {f : Operand → Value} {x y : Operand} {d : Option Tmp} {tx tz ty : TypeId} {pos : String} {aft : Array Edge} {g : Option (Nat × Bool)} {a b : ByteArray} (hx : f x = .string a) (hy : f y = .string b) : (execOp f ⟨d, .binOp .lss tx x y tz, ty, pos, aft, g⟩).run P w = .ok (.value (.bool (decide (Op.bytesLess a.toList b.toList = true)))) w :=
  X.bin hx hy (by simp [go_sem]) (by simp [binOp, Op.stringOp])
end H
def Ws : List ByteArray := [⟨#[97, 110, 100]⟩, ⟨#[97, 115, 99]⟩, ⟨#[98, 121]⟩, ⟨#[99, 111, 117, 110, 116]⟩, ⟨#[100, 101, 115, 99]⟩, ⟨#[100, 101, 118]⟩, ⟨#[105, 110]⟩, ⟨#[108, 105, 109, 105, 116]⟩, ⟨#[109, 97, 120]⟩, ⟨#[109, 101, 97, 110]⟩, ⟨#[109, 105, 110]⟩, ⟨#[111, 114, 100, 101, 114]⟩, ⟨#[115, 101, 108, 101, 99, 116]⟩, ⟨#[115, 104, 97, 114, 101]⟩, ⟨#[115, 117, 109]⟩, ⟨#[119, 104, 101, 114, 101]⟩]
theorem words_any (w : World) : Calls Tryz.prog 98 #[] w fun e w' => ∃ b, e = .returned (.slice (some ⟨b, 0, none⟩) 16 16) ∧ Reads w' w'.heap.size 1 (some ⟨b, 0, none⟩) 16 (strs Ws) ∧ Ext w w' := by
  refine enter Tryz.func98 rfl (by kernel_rfl) ?_
  refine J.seq ?_
  refine J.region ?_
  refine L.va rfl (X.assign (by conv => lhs; whnf)) ?_
  refine L.nil ?_
  refine J.seq ?_
  refine J.region ?_
  refine L.bslice (vs := [_, _, _, _, _, _, _, _, _, _, _, _, _, _, _, _]) rfl (Evs.cons (by conv => lhs; whnf) (Evs.cons (by conv => lhs; whnf) (Evs.cons (by conv => lhs; whnf) (Evs.cons (by conv => lhs; whnf) (Evs.cons (by conv => lhs; whnf) (Evs.cons (by conv => lhs; whnf) (Evs.cons (by conv => lhs; whnf) (Evs.cons (by conv => lhs; whnf) (Evs.cons (by conv => lhs; whnf) (Evs.cons (by conv => lhs; whnf) (Evs.cons (by conv => lhs; whnf) (Evs.cons (by conv => lhs; whnf) (Evs.cons (by conv => lhs; whnf) (Evs.cons (by conv => lhs; whnf) (Evs.cons (by conv => lhs; whnf) (Evs.cons (by conv => lhs; whnf) Evs.nil)))))))))))))))) rfl rfl rfl rfl Tryz.underlying23 sz_9 zr_9 (by decide) ?_
  intro b w1 hb hs hk he
  refine L.va rfl (X.assign (by conv => lhs; whnf)) ?_
  refine L.nil ?_
  refine J.ret ?_
  refine fin1 ?_
  exact ⟨b, rfl, blk_reads (l := strs Ws) hk (by omega) rfl, he⟩
theorem rwords_any (w : World) : Calls Tryz.prog 84 #[] w fun e w' => ∃ b, e = .returned (.slice (some ⟨b, 0, none⟩) 16 16) ∧ Reads w' w'.heap.size 1 (some ⟨b, 0, none⟩) 16 (strs Ws) ∧ Ext w w' := by
  refine enter Tryz.func84 rfl (by kernel_rfl) ?_
  refine J.seq ?_
  refine J.region ?_
  refine L.va rfl (X.assign (by conv => lhs; whnf)) ?_
  refine L.nil ?_
  refine J.seq ?_
  refine J.region ?_
  refine L.bslice (vs := [_, _, _, _, _, _, _, _, _, _, _, _, _, _, _, _]) rfl (Evs.cons (by conv => lhs; whnf) (Evs.cons (by conv => lhs; whnf) (Evs.cons (by conv => lhs; whnf) (Evs.cons (by conv => lhs; whnf) (Evs.cons (by conv => lhs; whnf) (Evs.cons (by conv => lhs; whnf) (Evs.cons (by conv => lhs; whnf) (Evs.cons (by conv => lhs; whnf) (Evs.cons (by conv => lhs; whnf) (Evs.cons (by conv => lhs; whnf) (Evs.cons (by conv => lhs; whnf) (Evs.cons (by conv => lhs; whnf) (Evs.cons (by conv => lhs; whnf) (Evs.cons (by conv => lhs; whnf) (Evs.cons (by conv => lhs; whnf) (Evs.cons (by conv => lhs; whnf) Evs.nil)))))))))))))))) rfl rfl rfl rfl Tryz.underlying23 sz_9 zr_9 (by decide) ?_
  intro b w1 hb hs hk he
  refine L.va rfl (X.assign (by conv => lhs; whnf)) ?_
  refine L.nil ?_
  refine J.ret ?_
  refine fin1 ?_
  exact ⟨b, rfl, blk_reads (l := strs Ws) hk (by omega) rfl, he⟩
theorem ws_less : ∀ m : Fin 16, ∀ j : Fin 16, Op.bytesLess (Ws.getD m.1 be0).data.toList (Ws.getD j.1 be0).data.toList = decide (m.1 < j.1) := by decide
theorem ba_toList (a : ByteArray) : a.toList = a.data.toList := Lib.toList_data a
def among (l : List ByteArray) (s : ByteArray) : Bool := l.any fun x => decide (x = s)
theorem among_iff {l : List ByteArray} {s : ByteArray} : among l s = true ↔ s ∈ l := by
  unfold among
  rw [List.any_eq_true]
  constructor
  · rintro ⟨x, hx, h⟩; rw [← of_decide_eq_true h]; exact hx
  · exact fun h => ⟨s, h, decide_eq_true rfl⟩
theorem ws_lt (m j : Nat) (hm : m < 16) (hj : j < 16) : Op.bytesLess (Ws.getD m be0).toList (Ws.getD j be0).toList = decide (m < j) := by
  rw [ba_toList, ba_toList]; exact ws_less ⟨m, hm⟩ ⟨j, hj⟩
theorem ws_mem {s : ByteArray} (h : s ∈ Ws) : ∃ j, j < 16 ∧ Ws.getD j be0 = s := by
  obtain ⟨i, hi, rfl⟩ := List.mem_iff_getElem.1 h
  exact ⟨i, hi, by simp only [List.getD, List.getElem?_eq_getElem hi, Option.getD_some]⟩
theorem ws_at {j : Nat} (h : j < 16) : Ws.getD j be0 ∈ Ws := by
  have hl : j < Ws.length := h
  simp only [List.getD, List.getElem?_eq_getElem hl, Option.getD_some]
  exact List.getElem_mem hl
theorem word_any (s : ByteArray) (w : World) : Calls Tryz.prog 74 #[.string s] w fun e w' => e = .returned (.bool (among Ws s)) ∧ Ext w w' := by
 refine enter Tryz.func74 rfl (by kernel_rfl) ?_
 refine J.seq ?_
 refine J.region ?_
 refine L.va rfl (X.assign (by conv => lhs; whnf)) ?_
 refine L.nil ?_
 refine J.seq ?_
 refine J.region ?_
 refine L.call rfl en_98 rfl (words_any _) ?_
 rintro e w1 ⟨b, rfl, hr, he⟩
 refine ⟨_, rfl, ?_⟩
 have he : Ext w w1 := he
 refine L.va rfl (X.assign (by conv => lhs; whnf)) ?_
 refine L.nil ?_
 refine J.seq ?_
 refine J.region ?_
 refine L.va rfl (X.move (by conv => lhs; whnf)) ?_
 refine L.va rfl (X.len rfl Tryz.underlying23) ?_
 iterate 2 refine L.va rfl (X.assign (by conv => lhs; whnf)) ?_
 refine L.nil ?_
 refine J.seq ?_
 refine J.block ?_
 refine J.loop (X := Nat × Nat) [2, 4, 5, 6, 10, 11, 12, 13, 14, 15, 16, 17, 18, 19, 20, 21, 22, 23, 24, 25, 26, 27, 28, 29, 30, 31, 32, 33] (fun x => [(4, .int .i64 (x.1 : Int)), (5, .int .i64 (x.2 : Int))]) (fun x w' => w' = w1 ∧ x.1 ≤ x.2 ∧ x.2 ≤ 16 ∧ (∀ j, j < 16 → j < x.1 → Ws.getD j be0 ≠ s) ∧ (∀ j, j < 16 → x.2 ≤ j → Ws.getD j be0 ≠ s)) (fun x => x.2 - x.1) ((0, 16)) (At2 (by first | rfl | exact at_int rfl (by omega) | exact at_slice rfl (by omega) | exact at_int rfl (by simp)) (by first | rfl | exact at_int rfl (by omega) | exact at_slice rfl (by omega) | exact at_int rfl (by simp))) ?_ ?_
 ·exact ⟨rfl, by decide, by decide, fun j _ h => absurd h (Nat.not_lt_zero _), fun j h1 h2 => absurd h1 (Nat.not_lt.2 h2)⟩
 ·rintro ⟨lo, hi⟩ g w2 ⟨rfl, h1, h2, h3, h4⟩
  dsimp only at h1 h2 h3 h4
  have q1 : ((lo, hi) : Nat × Nat).1 = lo := rfl
  have q2 : ((lo, hi) : Nat × Nat).2 = hi := rfl
  iterate 2 refine J.seq ?_
  refine J.region ?_
  iterate 2 refine L.va rfl (X.move (by conv => lhs; whnf)) ?_
  refine L.va rfl (X.lss rfl rfl) ?_
  refine L.nil ?_
  refine J.dec rfl (fun hlt => ?_) (fun hlt => ?_)
  ·refine J.skip ?_
   refine J.block ?_
   refine J.seq ?_
   refine J.region ?_
   iterate 2 refine L.va rfl (X.move (by conv => lhs; whnf)) ?_
   refine L.va rfl (X.add rfl rfl (by omega)) ?_
   refine L.va rfl (X.quo rfl rfl (by omega)) ?_
   refine L.va rfl (X.assign (by conv => lhs; whnf)) ?_
   refine L.nil ?_
   refine J.block ?_
   have e : (((lo, hi) : Nat × Nat).1 + (((lo, hi) : Nat × Nat).2 : Int) : Int) / 2 = (((lo + hi) / 2 : Nat) : Int) := by dsimp only; omega
   rw [e]
   have hmid : lo ≤ (lo + hi) / 2 ∧ (lo + hi) / 2 < hi := by dsimp only at hlt; omega
   generalize (lo + hi) / 2 = m at hmid
   refine J.seq ?_
   refine J.region ?_
   iterate 2 refine L.va rfl (X.move (by conv => lhs; whnf)) ?_
   refine L.va rfl ((by first | exact X.index1n rfl rfl Tryz.underlying23 sz_9 (by first | exact Option.some_ne_none _ | exact hr.some_ (by omega)) (by omega) | exact X.index1 rfl rfl Tryz.underlying23 sz_9 (by first | exact Option.some_ne_none _ | exact hr.some_ (by omega)) (by omega))) ?_
   refine L.va rfl (X.load rfl sc_9 (by first | exact Ld.str hr (by omega))) ?_
   refine L.va rfl (X.move (by conv => lhs; whnf)) ?_
   refine L.va rfl (X.eqlS rfl rfl) ?_
   refine L.va rfl (X.assign (by conv => lhs; whnf)) ?_
   refine L.nil ?_
   refine J.dec rfl (fun heq => ?_) (fun heq => ?_)
   ·have hE : among Ws s = true := by rw [← heq]; exact among_iff.2 (ws_at (by omega))
    rw [hE]
    refine J.seq ?_
    refine J.region ?_
    refine L.va rfl (X.assign (by conv => lhs; whnf)) ?_
    refine L.nil ?_
    refine J.ret ?_
    refine inB_ret <|  inB_ret <|  thn_ret <|  inB_ret <|  thn_ret <| ?_
    refine fin1 ?_
    exact ⟨rfl, he⟩
   ·refine J.seq ?_
    refine J.region ?_
    iterate 2 refine L.va rfl (X.move (by conv => lhs; whnf)) ?_
    refine L.va rfl ((by first | exact X.index1n rfl rfl Tryz.underlying23 sz_9 (by first | exact Option.some_ne_none _ | exact hr.some_ (by omega)) (by omega) | exact X.index1 rfl rfl Tryz.underlying23 sz_9 (by first | exact Option.some_ne_none _ | exact hr.some_ (by omega)) (by omega))) ?_
    refine L.va rfl (X.load rfl sc_9 (by first | exact Ld.str hr (by omega))) ?_
    refine L.va rfl (X.move (by conv => lhs; whnf)) ?_
    refine L.va rfl (X.lssS rfl rfl) ?_
    refine L.va rfl (X.assign (by conv => lhs; whnf)) ?_
    refine L.nil ?_
    refine J.dec rfl (fun hless => ?_) (fun hless => ?_)
    ·refine J.region ?_
     refine L.va rfl (X.move (by conv => lhs; whnf)) ?_
     refine L.va rfl (X.add rfl rfl (by omega)) ?_
     refine L.va rfl (X.assign (by conv => lhs; whnf)) ?_
     refine L.nil ?_
     refine ⟨(m + 1, hi), At2 (by first | rfl | exact at_int rfl (by omega) | exact at_slice rfl (by omega) | exact at_int rfl (by simp)) (by first | rfl | exact at_int rfl (by omega) | exact at_slice rfl (by omega) | exact at_int rfl (by simp)), (by (iterate 25 refine Agr.lk rfl ?_); exact Agr.lk rfl (Agr.hav rfl Agr.rfl')), ?_⟩
     refine ⟨⟨rfl, by dsimp only; omega, h2, fun j hj hjm hjs => ?_, h4⟩, by dsimp only; omega⟩
     dsimp only at hjm
     rw [← hjs, ws_lt m j (by omega) hj] at hless
     have := of_decide_eq_true hless
     omega
    ·refine J.region ?_
     refine L.va rfl (X.move (by conv => lhs; whnf)) ?_
     refine L.va rfl (X.assign (by conv => lhs; whnf)) ?_
     refine L.nil ?_
     refine ⟨(lo, m), At2 (by first | rfl | exact at_int rfl (by omega) | exact at_slice rfl (by omega) | exact at_int rfl (by simp)) (by first | rfl | exact at_int rfl (by omega) | exact at_slice rfl (by omega) | exact at_int rfl (by simp)), (by (iterate 24 refine Agr.lk rfl ?_); exact Agr.lk rfl (Agr.hav rfl Agr.rfl')), ?_⟩
     refine ⟨⟨rfl, by dsimp only; omega, by dsimp only; omega, h3, fun j hj hjm hjs => ?_⟩, by dsimp only; omega⟩
     dsimp only at hjm
     by_cases hjm' : j = m
     ·subst hjm'; exact heq hjs
     ·rw [← hjs, ws_lt m j (by omega) hj] at hless
      exact hless (decide_eq_true (by omega))
  ·have hE : among Ws s = false := by
    rw [← Bool.not_eq_true]
    intro hm
    replace hm := among_iff.1 hm
    obtain ⟨j, hj, hjs⟩ := ws_mem hm
    dsimp only at hlt
    rcases Nat.lt_or_ge j lo with h | h
    ·exact h3 j hj h hjs
    ·exact h4 j hj (by omega) hjs
   rw [hE]
   refine J.exit ?_
   refine J.seq ?_
   refine J.region ?_
   refine L.va rfl (X.assign (by conv => lhs; whnf)) ?_
   refine L.nil ?_
   refine J.ret ?_
   refine fin1 ?_
   exact ⟨rfl, he⟩
end Go.Proofs.YtpomklkfedpkfaaGreat
namespace Go.Proofs.YtpomklkfedpkfaaGreat
open Go.RowKit H
set_option linter.unusedVariables false
def ch (s : ByteArray) (i : Nat) : Int := ((s.data.toList.getD i 0).toNat : Int)
theorem ch_bd (s : ByteArray) (i : Nat) : 0 ≤ ch s i ∧ ch s i ≤ 255 := by
  unfold ch
  have := (s.data.toList.getD i 0).toNat_lt
  omega
abbrev letC (c : Int) : Prop := 97 ≤ c ∧ c ≤ 122
abbrev digC (c : Int) : Prop := (48 ≤ c ∧ c ≤ 57) ∨ c = 95
def isS (s : ByteArray) : Bool := decide (1 ≤ s.size ∧ s.size ≤ 16 ∧ letC (ch s 0) ∧ (∀ j, j < s.size → letC (ch s j) ∨ digC (ch s j)) ∧ among Ws s = false)
theorem size_ne {s : ByteArray} (h : ¬ s = ⟨#[]⟩) : 1 ≤ s.size := by
  rcases Nat.eq_zero_or_pos s.size with h0 | h0
  · exfalso
    apply h
    cases s with
    | mk a => exact congrArg ByteArray.mk (Array.eq_empty_of_size_eq_zero h0)
  · exact h0
theorem isS_no {s : ByteArray} (h : ¬ (1 ≤ s.size ∧ s.size ≤ 16 ∧ letC (ch s 0) ∧ (∀ j, j < s.size → letC (ch s j) ∨ digC (ch s j)) ∧ among Ws s = false)) : isS s = false := decide_eq_false h
theorem is_any (s : ByteArray) (w : World) : Calls Tryz.prog 51 #[.string s] w fun e w' => e = .returned (.bool (isS s)) ∧ Ext w w' := by
 refine enter Tryz.func51 rfl (by kernel_rfl) ?_
 refine J.seq ?_
 refine J.region ?_
 refine L.va rfl (X.assign (by conv => lhs; whnf)) ?_
 refine L.nil ?_
 iterate 2 refine J.seq ?_
 refine J.region ?_
 refine L.va rfl (X.move (by conv => lhs; whnf)) ?_
 refine L.va rfl (X.eqlS rfl rfl) ?_
 refine L.va rfl (X.move (by conv => lhs; whnf)) ?_
 refine L.caseDec (k := 7) rfl (fun h1 => ?_) (fun h1 => ?_)
 ·have hE : isS s = false := isS_no (by rw [h1]; rintro ⟨h, _⟩; exact absurd h (by decide))
  rw [hE]
  iterate 3 refine L.no rfl ?_
  refine L.va rfl (X.pickT rfl (by conv => lhs; whnf)) ?_
  refine L.va rfl (X.move (by conv => lhs; whnf)) ?_
  iterate 3 refine L.no rfl ?_
  refine L.va rfl (X.pickT rfl (by conv => lhs; whnf)) ?_
  refine L.va rfl (X.move (by conv => lhs; whnf)) ?_
  iterate 3 refine L.no rfl ?_
  refine L.va rfl (X.pickT rfl (by conv => lhs; whnf)) ?_
  refine L.nil ?_
  refine J.iteT rfl ?_
  refine J.seq ?_
  refine J.region ?_
  refine L.va rfl (X.assign (by conv => lhs; whnf)) ?_
  refine L.nil ?_
  refine J.ret ?_
  refine thn_ret <| ?_
  refine fin1 ?_
  exact ⟨rfl, Ext.refl _⟩
 ·have hsz := size_ne h1
  refine L.va rfl (X.move (by conv => lhs; whnf)) ?_
  refine L.va rfl (X.lens rfl Tryz.underlying9) ?_
  refine L.va rfl (X.gtr rfl rfl) ?_
  refine L.va rfl (X.pickF rfl (by conv => lhs; whnf)) ?_
  refine L.va rfl (X.move (by conv => lhs; whnf)) ?_
  refine L.caseDec (k := 12) rfl (fun h2 => ?_) (fun h2 => ?_)
  ·have hE : isS s = false := isS_no (by rintro ⟨_, h, _⟩; omega)
   rw [hE]
   iterate 3 refine L.no rfl ?_
   refine L.va rfl (X.pickT rfl (by conv => lhs; whnf)) ?_
   refine L.va rfl (X.move (by conv => lhs; whnf)) ?_
   iterate 3 refine L.no rfl ?_
   refine L.va rfl (X.pickT rfl (by conv => lhs; whnf)) ?_
   refine L.nil ?_
   refine J.iteT rfl ?_
   refine J.seq ?_
   refine J.region ?_
   refine L.va rfl (X.assign (by conv => lhs; whnf)) ?_
   refine L.nil ?_
   refine J.ret ?_
   refine thn_ret <| ?_
   refine fin1 ?_
   exact ⟨rfl, Ext.refl _⟩
  ·refine L.va rfl (X.move (by conv => lhs; whnf)) ?_
   refine L.va rfl (X.indexStr rfl rfl Tryz.underlying9 (by omega)) ?_
   refine L.va rfl (X.lss rfl rfl) ?_
   refine L.va rfl (X.pickF rfl (by conv => lhs; whnf)) ?_
   refine L.va rfl (X.move (by conv => lhs; whnf)) ?_
   refine L.caseDec (k := 17) rfl (fun h3 => ?_) (fun h3 => ?_)
   ·have h3' : ch s 0 < 97 := h3
    have hE : isS s = false := isS_no (by rintro ⟨_, _, h, _⟩; omega)
    rw [hE]
    iterate 3 refine L.no rfl ?_
    refine L.va rfl (X.pickT rfl (by conv => lhs; whnf)) ?_
    refine L.nil ?_
    refine J.iteT rfl ?_
    refine J.seq ?_
    refine J.region ?_
    refine L.va rfl (X.assign (by conv => lhs; whnf)) ?_
    refine L.nil ?_
    refine J.ret ?_
    refine thn_ret <| ?_
    refine fin1 ?_
    exact ⟨rfl, Ext.refl _⟩
   ·have h3' : ¬ ch s 0 < 97 := h3
    refine L.va rfl (X.move (by conv => lhs; whnf)) ?_
    refine L.va rfl (X.indexStr rfl rfl Tryz.underlying9 (by omega)) ?_
    refine L.va rfl (X.gtr rfl rfl) ?_
    refine L.va rfl (X.pickF rfl (by conv => lhs; whnf)) ?_
    refine L.nil ?_
    refine J.dec rfl (fun h4 => ?_) (fun h4 => ?_)
    ·have h4' : 122 < ch s 0 := h4
     have hE : isS s = false := isS_no (by rintro ⟨_, _, h, _⟩; omega)
     rw [hE]
     refine J.seq ?_
     refine J.region ?_
     refine L.va rfl (X.assign (by conv => lhs; whnf)) ?_
     refine L.nil ?_
     refine J.ret ?_
     refine thn_ret <| ?_
     refine fin1 ?_
     exact ⟨rfl, Ext.refl _⟩
    ·have h4' : ¬ 122 < ch s 0 := h4
     refine J.skip ?_
     iterate 2 refine J.seq ?_
     refine J.region ?_
     refine L.va rfl (X.move (by conv => lhs; whnf)) ?_
     refine L.va rfl (X.lens rfl Tryz.underlying9) ?_
     refine L.va rfl (X.move (by conv => lhs; whnf)) ?_
     refine L.nil ?_
     refine J.block ?_
     refine J.loop (X := Nat) [2, 3, 4, 24, 25, 26, 27, 28, 29, 30, 31, 32, 33, 34, 35, 36, 37, 38, 39, 40, 41, 42, 43, 44, 45, 46, 47, 48] (fun i => [(24, .int .i64 (i : Int))]) (fun i w' => w' = w ∧ i ≤ s.size ∧ ∀ j, j < i → letC (ch s j) ∨ digC (ch s j)) (fun i => s.size - i) (0) (At1 (by first | rfl | exact at_int rfl (by omega) | exact at_slice rfl (by omega) | exact at_int rfl (by simp))) ?_ ?_
     ·exact ⟨rfl, by omega, fun j hj => absurd hj (by omega)⟩
     ·rintro i g w2 ⟨rfl, hi, hP⟩
      have hc := ch_bd s i
      have hnext : letC (ch s i) ∨ digC (ch s i) → ∀ j, j < i + 1 → letC (ch s j) ∨ digC (ch s j) := by
       intro h j hj
       rcases Nat.lt_or_ge j i with h' | h'
       ·exact hP j h'
       ·obtain rfl : j = i := by omega
        exact h
      have hbad : i < s.size → ¬ (letC (ch s i) ∨ digC (ch s i)) → isS s = false := fun hl h => isS_no (by rintro ⟨_, _, _, h', _⟩; exact h (h' i hl))
      refine J.seq ?_
      refine J.region ?_
      refine L.va rfl (X.lss rfl rfl) ?_
      refine L.nil ?_
      refine J.seq ?_
      refine J.dec rfl (fun hlt => ?_) (fun hlt => ?_)
      ·have hl : i < s.size := by omega
       replace hbad := hbad hl
       refine J.skip ?_
       refine J.seq ?_
       refine J.block ?_
       refine J.seq ?_
       refine J.region ?_
       refine L.va rfl (X.move (by conv => lhs; whnf)) ?_
       refine L.va rfl (X.assign (by conv => lhs; whnf)) ?_
       refine L.nil ?_
       refine J.seq ?_
       refine J.region ?_
       iterate 2 refine L.va rfl (X.move (by conv => lhs; whnf)) ?_
       refine L.va rfl (X.indexStr rfl rfl Tryz.underlying9 (by omega)) ?_
       refine L.va rfl (X.assign (by conv => lhs; whnf)) ?_
       refine L.nil ?_
       rw [show ((s.data.toList.getD ((i : Int)).toNat 0).toNat : Int) = ch s i from rfl]
       generalize ch s i = c at hc hnext hbad
       refine J.seq ?_
       refine J.region ?_
       refine L.va rfl (X.move (by conv => lhs; whnf)) ?_
       refine L.va rfl (X.lss rfl rfl) ?_
       refine L.va rfl (X.move (by conv => lhs; whnf)) ?_
       refine L.caseDec (k := 32) rfl (fun a1 => ?_) (fun a1 => ?_)
       ·refine L.no rfl ?_
        refine L.no rfl ?_
        refine L.va rfl (X.pickT rfl (by conv => lhs; whnf)) ?_
        iterate 2 refine L.va rfl (X.move (by conv => lhs; whnf)) ?_
        refine L.va rfl (X.lss rfl rfl) ?_
        refine L.va rfl (X.move (by conv => lhs; whnf)) ?_
        refine L.caseDec (k := 39) rfl (fun a2 => ?_) (fun a2 => ?_)
        ·refine L.no rfl ?_
         refine L.no rfl ?_
         iterate 2 refine L.va rfl (X.pickT rfl (by conv => lhs; whnf)) ?_
         iterate 2 refine L.va rfl (X.move (by conv => lhs; whnf)) ?_
         refine L.va rfl (X.neq rfl rfl) ?_
         refine L.va rfl (X.pickT rfl (by conv => lhs; whnf)) ?_
         refine L.nil ?_
         refine J.ndecT rfl (by omega) ?_
         have hE := hbad (by omega)
         rw [hE]
         refine J.seq ?_
         refine J.region ?_
         refine L.va rfl (X.assign (by conv => lhs; whnf)) ?_
         refine L.nil ?_
         refine J.ret ?_
         refine inB_ret <|  thn_ret <|  thn_ret <|  inB_ret <|  thn_ret <| ?_
         refine fin1 ?_
         exact ⟨rfl, Ext.refl _⟩
        ·refine L.va rfl (X.move (by conv => lhs; whnf)) ?_
         refine L.va rfl (X.gtr rfl rfl) ?_
         refine L.va rfl (X.pickF rfl (by conv => lhs; whnf)) ?_
         refine L.va rfl (X.pickT rfl (by conv => lhs; whnf)) ?_
         refine L.va rfl (X.move (by conv => lhs; whnf)) ?_
         refine L.caseDec (k := 44) rfl (fun a3 => ?_) (fun a3 => ?_)
         ·refine L.va rfl (X.move (by conv => lhs; whnf)) ?_
          refine L.va rfl (X.neq rfl rfl) ?_
          refine L.va rfl (X.pickT rfl (by conv => lhs; whnf)) ?_
          refine L.nil ?_
          refine J.ndec rfl (fun a4 => ?_) (fun a4 => ?_)
          ·have hE := hbad (by omega)
           rw [hE]
           refine J.seq ?_
           refine J.region ?_
           refine L.va rfl (X.assign (by conv => lhs; whnf)) ?_
           refine L.nil ?_
           refine J.ret ?_
           refine inB_ret <|  thn_ret <|  thn_ret <|  inB_ret <|  thn_ret <| ?_
           refine fin1 ?_
           exact ⟨rfl, Ext.refl _⟩
          ·refine J.skip ?_
           refine J.region ?_
           refine L.va rfl (X.add rfl rfl (by omega)) ?_
           refine L.va rfl (X.move (by conv => lhs; whnf)) ?_
           refine L.nil ?_
           refine ⟨i + 1, At1 (by first | rfl | exact at_int rfl (by omega) | exact at_slice rfl (by omega) | exact at_int rfl (by simp)), (by (iterate 30 refine Agr.lk rfl ?_); exact Agr.lk rfl (Agr.hav rfl Agr.rfl')), ?_⟩
           exact ⟨⟨rfl, by omega, hnext (by omega)⟩, by omega⟩
         ·refine L.no rfl ?_
          refine L.no rfl ?_
          refine L.va rfl (X.pickF rfl (by conv => lhs; whnf)) ?_
          refine L.nil ?_
          refine J.iteF rfl ?_
          refine J.skip ?_
          refine J.region ?_
          refine L.va rfl (X.add rfl rfl (by omega)) ?_
          refine L.va rfl (X.move (by conv => lhs; whnf)) ?_
          refine L.nil ?_
          refine ⟨i + 1, At1 (by first | rfl | exact at_int rfl (by omega) | exact at_slice rfl (by omega) | exact at_int rfl (by simp)), (by (iterate 30 refine Agr.lk rfl ?_); exact Agr.lk rfl (Agr.hav rfl Agr.rfl')), ?_⟩
          exact ⟨⟨rfl, by omega, hnext (by omega)⟩, by omega⟩
       ·refine L.va rfl (X.move (by conv => lhs; whnf)) ?_
        refine L.va rfl (X.gtr rfl rfl) ?_
        refine L.va rfl (X.pickF rfl (by conv => lhs; whnf)) ?_
        refine L.va rfl (X.move (by conv => lhs; whnf)) ?_
        refine L.caseDec (k := 36) rfl (fun a5 => ?_) (fun a5 => ?_)
        ·refine L.va rfl (X.move (by conv => lhs; whnf)) ?_
         refine L.va rfl (X.lss rfl rfl) ?_
         refine L.va rfl (X.move (by conv => lhs; whnf)) ?_
         refine L.caseDecF (k := 39) rfl (by omega) ?_
         refine L.va rfl (X.move (by conv => lhs; whnf)) ?_
         refine L.va rfl (X.gtr rfl rfl) ?_
         refine L.va rfl (X.pickF rfl (by conv => lhs; whnf)) ?_
         refine L.va rfl (X.pickT rfl (by conv => lhs; whnf)) ?_
         refine L.va rfl (X.move (by conv => lhs; whnf)) ?_
         refine L.caseDecT (k := 44) rfl (by omega) ?_
         refine L.va rfl (X.move (by conv => lhs; whnf)) ?_
         refine L.va rfl (X.neq rfl rfl) ?_
         refine L.va rfl (X.pickT rfl (by conv => lhs; whnf)) ?_
         refine L.nil ?_
         refine J.ndecT rfl (by omega) ?_
         have hE := hbad (by omega)
         rw [hE]
         refine J.seq ?_
         refine J.region ?_
         refine L.va rfl (X.assign (by conv => lhs; whnf)) ?_
         refine L.nil ?_
         refine J.ret ?_
         refine inB_ret <|  thn_ret <|  thn_ret <|  inB_ret <|  thn_ret <| ?_
         refine fin1 ?_
         exact ⟨rfl, Ext.refl _⟩
        ·refine L.no rfl ?_
         iterate 5 refine L.no rfl ?_
         refine L.va rfl (X.pickF rfl (by conv => lhs; whnf)) ?_
         refine L.va rfl (X.move (by conv => lhs; whnf)) ?_
         iterate 2 refine L.no rfl ?_
         refine L.va rfl (X.pickF rfl (by conv => lhs; whnf)) ?_
         refine L.nil ?_
         refine J.iteF rfl ?_
         refine J.skip ?_
         refine J.region ?_
         refine L.va rfl (X.add rfl rfl (by omega)) ?_
         refine L.va rfl (X.move (by conv => lhs; whnf)) ?_
         refine L.nil ?_
         refine ⟨i + 1, At1 (by first | rfl | exact at_int rfl (by omega) | exact at_slice rfl (by omega) | exact at_int rfl (by simp)), (by (iterate 29 refine Agr.lk rfl ?_); exact Agr.lk rfl (Agr.hav rfl Agr.rfl')), ?_⟩
         exact ⟨⟨rfl, by omega, hnext (by omega)⟩, by omega⟩
      ·obtain rfl : i = s.size := by omega
       have hE : isS s = !among Ws s := by
        cases hw : among Ws s with
        | true => exact isS_no (by rintro ⟨_, _, _, _, h⟩; rw [hw] at h; cases h)
        | false => exact decide_eq_true ⟨hsz, by omega, by omega, hP, hw⟩
       rw [hE]
       refine J.exit ?_
       refine J.seq ?_
       refine J.region ?_
       refine L.va rfl (X.move (by conv => lhs; whnf)) ?_
       refine L.call rfl en_74 rfl (word_any s _) ?_
       rintro e w3 ⟨rfl, he⟩
       refine ⟨_, rfl, ?_⟩
       refine L.va rfl (X.not rfl) ?_
       refine L.va rfl (X.assign (by conv => lhs; whnf)) ?_
       refine L.nil ?_
       refine J.ret ?_
       refine fin1 ?_
       exact ⟨rfl, he⟩
def plc (l : List ByteArray) (s : ByteArray) : Int := match l.findIdx? (fun x => decide (x = s)) with
  | some i => (i : Int)
  | none => -1
theorem plc_none {l : List ByteArray} {s : ByteArray} (h : ∀ j, j < l.length → l.getD j be0 ≠ s) : plc l s = -1 := by
  have : l.findIdx? (fun x => decide (x = s)) = none := by
    rw [List.findIdx?_eq_none_iff]
    intro x hx
    obtain ⟨i, hi, rfl⟩ := List.mem_iff_getElem.1 hx
    have := h i hi
    simp only [List.getD, List.getElem?_eq_getElem hi, Option.getD_some] at this
    exact decide_eq_false this
  unfold plc
  rw [this]
theorem plc_some {l : List ByteArray} {s : ByteArray} {i : Nat} (hi : i < l.length) (he : l.getD i be0 = s) (h : ∀ j, j < i → l.getD j be0 ≠ s) : plc l s = (i : Int) := by
  have : l.findIdx? (fun x => decide (x = s)) = some i := by
    rw [List.findIdx?_eq_some_iff_getElem]
    refine ⟨hi, ?_, fun j hj => ?_⟩
    · simp only [List.getD, List.getElem?_eq_getElem hi, Option.getD_some] at he
      exact decide_eq_true he
    · have := h j hj
      have hj' : j < l.length := by omega
      simp only [List.getD, List.getElem?_eq_getElem hj', Option.getD_some] at this
      simpa using this
  unfold plc
  rw [this]
theorem plc_iff {l : List ByteArray} {s : ByteArray} : 0 ≤ plc l s ↔ s ∈ l := by
  unfold plc
  cases h : l.findIdx? (fun x => decide (x = s)) with
  | none =>
    rw [List.findIdx?_eq_none_iff] at h
    constructor
    · intro h'; simp at h'
    · intro hm
      have := h s hm
      simp at this
  | some i =>
    rw [List.findIdx?_eq_some_iff_getElem] at h
    obtain ⟨hi, he, _⟩ := h
    constructor
    · intro _
      rw [← of_decide_eq_true he]
      exact List.getElem_mem hi
    · intro _; simp
theorem place_any (A : Option Addr) (n c : Nat) (l : List ByteArray) (s : ByteArray) (w : World) (hr : Reads w w.heap.size 1 A n (strs l)) (hn : n ≤ 9223372036854775807) :
  Calls Tryz.prog 83 #[.slice A n c, .string s] w fun e w' => e = .returned (.int .i64 (plc l s)) ∧ w = w' := by
 have hl : l.length = n := by have := hr.1; simpa [strs] using this
 refine enter Tryz.func83 rfl (by kernel_rfl) ?_
 refine J.seq ?_
 refine J.region ?_
 refine L.va rfl (X.assign (by conv => lhs; whnf)) ?_
 refine L.nil ?_
 iterate 2 refine J.seq ?_
 refine J.region ?_
 refine L.va rfl (X.assign (by conv => lhs; whnf)) ?_
 refine L.nil ?_
 refine J.block ?_
 refine J.loop (X := Nat) [4, 5, 6, 7, 8, 9, 10, 11, 12, 13, 14, 15, 16, 17, 18] (fun i => [(5, .int .i64 (i : Int))]) (fun i w' => w' = w ∧ i ≤ n ∧ ∀ j, j < i → l.getD j be0 ≠ s) (fun i => n - i) (0) (At1 (by first | rfl | exact at_int rfl (by omega) | exact at_slice rfl (by omega) | exact at_int rfl (by simp))) ?_ ?_
 ·exact ⟨rfl, by omega, fun j hj => absurd hj (by omega)⟩
 ·rintro i g w2 ⟨rfl, hi, hP⟩
  iterate 2 refine J.seq ?_
  refine J.region ?_
  iterate 2 refine L.va rfl (X.move (by conv => lhs; whnf)) ?_
  refine L.va rfl (X.len rfl Tryz.underlying23) ?_
  refine L.va rfl (X.lss rfl rfl) ?_
  refine L.nil ?_
  refine J.dec rfl (fun hlt => ?_) (fun hlt => ?_)
  ·refine J.skip ?_
   refine J.seq ?_
   refine J.block ?_
   refine J.seq ?_
   refine J.region ?_
   iterate 2 refine L.va rfl (X.move (by conv => lhs; whnf)) ?_
   refine L.va rfl ((by first | exact X.index1n rfl rfl Tryz.underlying23 sz_9 (by first | exact Option.some_ne_none _ | exact hr.some_ (by omega)) (by omega) | exact X.index1 rfl rfl Tryz.underlying23 sz_9 (by first | exact Option.some_ne_none _ | exact hr.some_ (by omega)) (by omega))) ?_
   refine L.va rfl (X.load rfl sc_9 (by first | exact Ld.str hr (by omega))) ?_
   refine L.va rfl (X.move (by conv => lhs; whnf)) ?_
   refine L.va rfl (X.eqlS rfl rfl) ?_
   refine L.nil ?_
   refine J.dec rfl (fun heq => ?_) (fun heq => ?_)
   ·have hE : plc l s = (i : Int) := plc_some (by omega) heq hP
    rw [hE]
    refine J.seq ?_
    refine J.region ?_
    refine L.va rfl (X.move (by conv => lhs; whnf)) ?_
    refine L.va rfl (X.assign (by conv => lhs; whnf)) ?_
    refine L.nil ?_
    refine J.ret ?_
    refine inB_ret <|  thn_ret <|  thn_ret <|  inB_ret <|  thn_ret <| ?_
    refine fin1 ?_
    exact ⟨rfl, rfl⟩
   ·refine J.skip ?_
    refine J.region ?_
    refine L.va rfl (X.move (by conv => lhs; whnf)) ?_
    refine L.va rfl (X.add rfl rfl (by omega)) ?_
    refine L.va rfl (X.assign (by conv => lhs; whnf)) ?_
    refine L.nil ?_
    refine ⟨i + 1, At1 (by first | rfl | exact at_int rfl (by omega) | exact at_slice rfl (by omega) | exact at_int rfl (by simp)), (by (iterate 13 refine Agr.lk rfl ?_); exact Agr.lk rfl (Agr.hav rfl Agr.rfl')), ?_⟩
    refine ⟨⟨rfl, by omega, fun j hj => ?_⟩, by omega⟩
    rcases Nat.lt_or_ge j i with h' | h'
    ·exact hP j h'
    ·obtain rfl : j = i := by omega
     exact heq
  ·obtain rfl : i = n := by omega
   have hE : plc l s = -1 := plc_none (by rw [hl]; exact hP)
   rw [hE]
   refine J.exit ?_
   refine J.seq ?_
   refine J.region ?_
   refine L.va rfl (X.assign (by conv => lhs; whnf)) ?_
   refine L.nil ?_
   refine J.ret ?_
   refine fin1 ?_
   exact ⟨rfl, rfl⟩
end Go.Proofs.YtpomklkfedpkfaaGreat
namespace Go.Proofs.YtpomklkfedpkfaaGreat
open Go.RowKit H
set_option linter.unusedVariables false
theorem nd_t {p : Prop} [Decidable p] (h : (!decide p) = true) : ¬ p := by simpa using h
theorem nd_f {p : Prop} [Decidable p] (h : (!decide p) = false) : p := by simpa using h
theorem nd_mk {p : Prop} [Decidable p] (h : ¬ p) : (!decide p) = true := by simpa using h
theorem ris_any (s : ByteArray) (w : World) : Calls Tryz.prog 65 #[.string s] w fun e w' => e = .returned (.bool (isS s)) ∧ Ext w w' := by
 refine enter Tryz.func65 rfl (by kernel_rfl) ?_
 refine J.seq ?_
 refine J.region ?_
 refine L.va rfl (X.assign (by conv => lhs; whnf)) ?_
 refine L.nil ?_
 iterate 2 refine J.seq ?_
 refine J.region ?_
 refine L.va rfl (X.move (by conv => lhs; whnf)) ?_
 refine L.va rfl (X.lens rfl Tryz.underlying9) ?_
 refine L.va rfl (X.lss rfl rfl) ?_
 refine L.va rfl (X.move (by conv => lhs; whnf)) ?_
 refine L.caseDec (k := 9) rfl (fun h1 => ?_) (fun h1 => ?_)
 ·have hE : isS s = false := isS_no (by rintro ⟨h, _⟩; omega)
  rw [hE]
  iterate 3 refine L.no rfl ?_
  refine L.va rfl (X.pickT rfl (by conv => lhs; whnf)) ?_
  refine L.va rfl (X.move (by conv => lhs; whnf)) ?_
  iterate 4 refine L.no rfl ?_
  refine L.va rfl (X.pickT rfl (by conv => lhs; whnf)) ?_
  refine L.nil ?_
  refine J.iteT rfl ?_
  refine J.seq ?_
  refine J.region ?_
  refine L.va rfl (X.assign (by conv => lhs; whnf)) ?_
  refine L.nil ?_
  refine J.ret ?_
  refine thn_ret <| ?_
  refine fin1 ?_
  exact ⟨rfl, Ext.refl _⟩
 ·refine L.va rfl (X.move (by conv => lhs; whnf)) ?_
  refine L.va rfl (X.lens rfl Tryz.underlying9) ?_
  refine L.va rfl (X.gtr rfl rfl) ?_
  refine L.va rfl (X.pickF rfl (by conv => lhs; whnf)) ?_
  refine L.va rfl (X.move (by conv => lhs; whnf)) ?_
  refine L.caseDec (k := 14) rfl (fun h2 => ?_) (fun h2 => ?_)
  ·have hE : isS s = false := isS_no (by rintro ⟨_, h, _⟩; omega)
   rw [hE]
   iterate 4 refine L.no rfl ?_
   refine L.va rfl (X.pickT rfl (by conv => lhs; whnf)) ?_
   refine L.nil ?_
   refine J.iteT rfl ?_
   refine J.seq ?_
   refine J.region ?_
   refine L.va rfl (X.assign (by conv => lhs; whnf)) ?_
   refine L.nil ?_
   refine J.ret ?_
   refine thn_ret <| ?_
   refine fin1 ?_
   exact ⟨rfl, Ext.refl _⟩
  ·
   refine L.call rfl en_84 rfl (rwords_any _) ?_
   rintro e w1 ⟨b, rfl, hr, he⟩
   refine ⟨_, rfl, ?_⟩
   have he : Ext w w1 := he
   refine L.va rfl (X.move (by conv => lhs; whnf)) ?_
   refine L.call rfl en_83 rfl (place_any (some ⟨b, 0, none⟩) 16 16 Ws s _ hr (by decide)) ?_
   rintro e _ ⟨rfl, rfl⟩
   refine ⟨_, rfl, ?_⟩
   refine L.va rfl (X.geq rfl rfl) ?_
   refine L.va rfl (X.pickF rfl (by conv => lhs; whnf)) ?_
   refine L.nil ?_
   refine J.dec rfl (fun h3 => ?_) (fun h3 => ?_)
   ·have hE : isS s = false := isS_no (by
     rintro ⟨_, _, _, _, h⟩
     rw [among_iff.2 (plc_iff.1 h3)] at h
     cases h)
    rw [hE]
    refine J.seq ?_
    refine J.region ?_
    refine L.va rfl (X.assign (by conv => lhs; whnf)) ?_
    refine L.nil ?_
    refine J.ret ?_
    refine thn_ret <| ?_
    refine fin1 ?_
    exact ⟨rfl, he⟩
   ·have hw : among Ws s = false := by
     rw [← Bool.not_eq_true]
     intro h
     exact h3 (plc_iff.2 (among_iff.1 h))
    refine J.skip ?_
    iterate 2 refine J.seq ?_
    refine J.region ?_
    refine L.va rfl (X.assign (by conv => lhs; whnf)) ?_
    refine L.nil ?_
    refine J.block ?_
    refine J.loop (X := Nat) [2, 3, 4, 5, 20, 21, 22, 23, 24, 25, 26, 27, 28, 29, 30, 31, 32, 33, 34, 35, 36, 37, 38, 39, 40, 41, 42, 43, 44, 45, 46, 47, 48, 49, 50, 51, 52, 53, 54, 55, 56, 57, 58, 59, 60, 61] (fun i => [(3, .int .i64 (i : Int))]) (fun i w' => w' = w1 ∧ i ≤ s.size ∧ ∀ j, j < i → letC (ch s j) ∨ (digC (ch s j) ∧ j ≠ 0)) (fun i => s.size - i) (0) (At1 (by first | rfl | exact at_int rfl (by omega) | exact at_slice rfl (by omega) | exact at_int rfl (by simp))) ?_ ?_
    ·exact ⟨rfl, by omega, fun j hj => absurd hj (by omega)⟩
    ·rintro i g w2 ⟨rfl, hi, hP⟩
     have hc := ch_bd s i
     have hq : ((s.data.toList.getD ((i : Int)).toNat 0).toNat : Int) = ch s i := rfl
     have hnext : letC (ch s i) ∨ (digC (ch s i) ∧ i ≠ 0) → ∀ j, j < i + 1 → letC (ch s j) ∨ (digC (ch s j) ∧ j ≠ 0) := by
      intro h j hj
      rcases Nat.lt_or_ge j i with h' | h'
      ·exact hP j h'
      ·obtain rfl : j = i := by omega
       exact h
     have hbad : i < s.size → ¬ (letC (ch s i) ∨ (digC (ch s i) ∧ i ≠ 0)) → isS s = false := fun hl h => isS_no (by
      rintro ⟨_, _, h0, h', _⟩
      apply h
      rcases h' i hl with k | k
      ·exact .inl k
      ·by_cases hi0 : i = 0
       ·subst hi0; exact .inl h0
       ·exact .inr ⟨k, hi0⟩)
     iterate 2 refine J.seq ?_
     refine J.region ?_
     iterate 2 refine L.va rfl (X.move (by conv => lhs; whnf)) ?_
     refine L.va rfl (X.lens rfl Tryz.underlying9) ?_
     refine L.va rfl (X.lss rfl rfl) ?_
     refine L.nil ?_
     refine J.dec rfl (fun hlt => ?_) (fun hlt => ?_)
     ·have hl : i < s.size := by omega
      replace hbad := hbad hl
      refine J.skip ?_
      refine J.seq ?_
      refine J.block ?_
      refine J.seq ?_
      refine J.region ?_
      iterate 2 refine L.va rfl (X.move (by conv => lhs; whnf)) ?_
      refine L.va rfl (X.indexStr rfl rfl Tryz.underlying9 (by omega)) ?_
      refine L.va rfl (X.geq rfl rfl) ?_
      refine L.va rfl (X.move (by conv => lhs; whnf)) ?_
      refine L.caseDec (k := 30) rfl (fun a1 => ?_) (fun a1 => ?_)
      ·refine L.va rfl (X.move (by conv => lhs; whnf)) ?_
       refine L.va rfl (X.move (by conv => lhs; whnf)) ?_
       refine L.va rfl (X.indexStr rfl rfl Tryz.underlying9 (by omega)) ?_
       refine L.va rfl (X.leq rfl rfl) ?_
       refine L.va rfl (X.pickT rfl (by conv => lhs; whnf)) ?_
       refine L.va rfl (X.assign (by conv => lhs; whnf)) ?_
       refine L.nil ?_
       refine J.seq ?_
       refine J.region ?_
       iterate 2 refine L.va rfl (X.move (by conv => lhs; whnf)) ?_
       refine L.va rfl (X.indexStr rfl rfl Tryz.underlying9 (by omega)) ?_
       refine L.va rfl (X.geq rfl rfl) ?_
       refine L.va rfl (X.move (by conv => lhs; whnf)) ?_
       refine L.caseDecT (k := 40) rfl (by omega) ?_
       iterate 2 refine L.va rfl (X.move (by conv => lhs; whnf)) ?_
       refine L.va rfl (X.indexStr rfl rfl Tryz.underlying9 (by omega)) ?_
       refine L.va rfl (X.leq rfl rfl) ?_
       refine L.va rfl (X.pickT rfl (by conv => lhs; whnf)) ?_
       refine L.va rfl (X.move (by conv => lhs; whnf)) ?_
       refine L.caseDecF (k := 46) rfl (by omega) ?_
       iterate 2 refine L.va rfl (X.move (by conv => lhs; whnf)) ?_
       refine L.va rfl (X.indexStr rfl rfl Tryz.underlying9 (by omega)) ?_
       refine L.va rfl (X.eql rfl rfl) ?_
       refine L.va rfl (X.pickF rfl (by conv => lhs; whnf)) ?_
       refine L.va rfl (X.assign (by conv => lhs; whnf)) ?_
       refine L.nil ?_
       refine J.seq ?_
       refine J.region ?_
       refine L.va rfl (X.move (by conv => lhs; whnf)) ?_
       refine L.va rfl (X.not rfl) ?_
       refine L.va rfl (X.move (by conv => lhs; whnf)) ?_
       refine L.caseB (k := 54) rfl (fun a2 => ?_) (fun a2 => ?_)
       ·have a2' : ¬ ch s i ≤ 122 := nd_t a2
        refine L.va rfl (X.move (by conv => lhs; whnf)) ?_
        refine L.va rfl (X.not rfl) ?_
        refine L.va rfl (X.move (by conv => lhs; whnf)) ?_
        refine L.caseBT (k := 57) rfl (by exact nd_mk (p := ch s i = 95) (by omega)) ?_
        have hE := hbad (by omega)
        rw [hE]
        iterate 2 refine L.no rfl ?_
        iterate 2 refine L.va rfl (X.pickT rfl (by conv => lhs; whnf)) ?_
        refine L.nil ?_
        refine J.iteT rfl ?_
        refine J.seq ?_
        refine J.region ?_
        refine L.va rfl (X.assign (by conv => lhs; whnf)) ?_
        refine L.nil ?_
        refine J.ret ?_
        refine inB_ret <|  thn_ret <|  thn_ret <|  inB_ret <|  thn_ret <| ?_
        refine fin1 ?_
        exact ⟨rfl, he⟩
       ·have a2' : ch s i ≤ 122 := nd_f a2
        iterate 6 refine L.no rfl ?_
        refine L.va rfl (X.pickF rfl (by conv => lhs; whnf)) ?_
        refine L.nil ?_
        refine J.iteF rfl ?_
        refine J.skip ?_
        refine J.region ?_
        refine L.va rfl (X.move (by conv => lhs; whnf)) ?_
        refine L.va rfl (X.add rfl rfl (by omega)) ?_
        refine L.va rfl (X.assign (by conv => lhs; whnf)) ?_
        refine L.nil ?_
        refine ⟨i + 1, At1 (by first | rfl | exact at_int rfl (by omega) | exact at_slice rfl (by omega) | exact at_int rfl (by simp)), (by (iterate 49 refine Agr.lk rfl ?_); exact Agr.lk rfl (Agr.hav rfl Agr.rfl')), ?_⟩
        exact ⟨⟨rfl, by omega, hnext (by omega)⟩, by omega⟩
      ·refine L.no rfl ?_
       iterate 3 refine L.no rfl ?_
       refine L.va rfl (X.pickF rfl (by conv => lhs; whnf)) ?_
       refine L.va rfl (X.assign (by conv => lhs; whnf)) ?_
       refine L.nil ?_
       refine J.seq ?_
       refine J.region ?_
       iterate 2 refine L.va rfl (X.move (by conv => lhs; whnf)) ?_
       refine L.va rfl (X.indexStr rfl rfl Tryz.underlying9 (by omega)) ?_
       refine L.va rfl (X.geq rfl rfl) ?_
       refine L.va rfl (X.move (by conv => lhs; whnf)) ?_
       refine L.caseDec (k := 40) rfl (fun a3 => ?_) (fun a3 => ?_)
       ·refine L.va rfl (X.move (by conv => lhs; whnf)) ?_
        refine L.va rfl (X.move (by conv => lhs; whnf)) ?_
        refine L.va rfl (X.indexStr rfl rfl Tryz.underlying9 (by omega)) ?_
        refine L.va rfl (X.leq rfl rfl) ?_
        refine L.va rfl (X.pickT rfl (by conv => lhs; whnf)) ?_
        refine L.va rfl (X.move (by conv => lhs; whnf)) ?_
        refine L.caseDec (k := 46) rfl (fun a4 => ?_) (fun a4 => ?_)
        ·refine L.no rfl ?_
         iterate 3 refine L.no rfl ?_
         refine L.va rfl (X.pickT rfl (by conv => lhs; whnf)) ?_
         refine L.va rfl (X.assign (by conv => lhs; whnf)) ?_
         refine L.nil ?_
         refine J.seq ?_
         refine J.region ?_
         refine L.va rfl (X.move (by conv => lhs; whnf)) ?_
         refine L.va rfl (X.not rfl) ?_
         iterate 2 refine L.va rfl (X.move (by conv => lhs; whnf)) ?_
         refine L.va rfl (X.not rfl) ?_
         iterate 2 refine L.va rfl (X.move (by conv => lhs; whnf)) ?_
         refine L.va rfl (X.eql rfl rfl) ?_
         refine L.va rfl (X.pickF rfl (by conv => lhs; whnf)) ?_
         refine L.va rfl (X.pickT rfl (by conv => lhs; whnf)) ?_
         refine L.nil ?_
         refine J.dec rfl (fun a6 => ?_) (fun a6 => ?_)
         ·have hE := hbad (by omega)
          rw [hE]
          refine J.seq ?_
          refine J.region ?_
          refine L.va rfl (X.assign (by conv => lhs; whnf)) ?_
          refine L.nil ?_
          refine J.ret ?_
          refine inB_ret <|  thn_ret <|  thn_ret <|  inB_ret <|  thn_ret <| ?_
          refine fin1 ?_
          exact ⟨rfl, he⟩
         ·refine J.skip ?_
          refine J.region ?_
          refine L.va rfl (X.move (by conv => lhs; whnf)) ?_
          refine L.va rfl (X.add rfl rfl (by omega)) ?_
          refine L.va rfl (X.assign (by conv => lhs; whnf)) ?_
          refine L.nil ?_
          refine ⟨i + 1, At1 (by first | rfl | exact at_int rfl (by omega) | exact at_slice rfl (by omega) | exact at_int rfl (by simp)), (by (iterate 48 refine Agr.lk rfl ?_); exact Agr.lk rfl (Agr.hav rfl Agr.rfl')), ?_⟩
          exact ⟨⟨rfl, by omega, hnext (by omega)⟩, by omega⟩
        ·refine L.va rfl (X.move (by conv => lhs; whnf)) ?_
         refine L.va rfl (X.move (by conv => lhs; whnf)) ?_
         refine L.va rfl (X.indexStr rfl rfl Tryz.underlying9 (by omega)) ?_
         refine L.va rfl (X.eql rfl rfl) ?_
         refine L.va rfl (X.pickF rfl (by conv => lhs; whnf)) ?_
         refine L.va rfl (X.assign (by conv => lhs; whnf)) ?_
         refine L.nil ?_
         refine J.seq ?_
         refine J.region ?_
         refine L.va rfl (X.move (by conv => lhs; whnf)) ?_
         refine L.va rfl (X.not rfl) ?_
         iterate 2 refine L.va rfl (X.move (by conv => lhs; whnf)) ?_
         refine L.va rfl (X.not rfl) ?_
         refine L.va rfl (X.move (by conv => lhs; whnf)) ?_
         refine L.caseB (k := 57) rfl (fun a5 => ?_) (fun a5 => ?_)
         ·have a5' : ¬ ch s i = 95 := nd_t a5
          have hE := hbad (by omega)
          rw [hE]
          iterate 2 refine L.no rfl ?_
          iterate 2 refine L.va rfl (X.pickT rfl (by conv => lhs; whnf)) ?_
          refine L.nil ?_
          refine J.iteT rfl ?_
          refine J.seq ?_
          refine J.region ?_
          refine L.va rfl (X.assign (by conv => lhs; whnf)) ?_
          refine L.nil ?_
          refine J.ret ?_
          refine inB_ret <|  thn_ret <|  thn_ret <|  inB_ret <|  thn_ret <| ?_
          refine fin1 ?_
          exact ⟨rfl, he⟩
         ·have a5' : ch s i = 95 := nd_f a5
          refine L.va rfl (X.move (by conv => lhs; whnf)) ?_
          refine L.va rfl (X.eql rfl rfl) ?_
          refine L.va rfl (X.pickF rfl (by conv => lhs; whnf)) ?_
          refine L.va rfl (X.pickT rfl (by conv => lhs; whnf)) ?_
          refine L.nil ?_
          refine J.dec rfl (fun a6 => ?_) (fun a6 => ?_)
          ·have hE := hbad (by omega)
           rw [hE]
           refine J.seq ?_
           refine J.region ?_
           refine L.va rfl (X.assign (by conv => lhs; whnf)) ?_
           refine L.nil ?_
           refine J.ret ?_
           refine inB_ret <|  thn_ret <|  thn_ret <|  inB_ret <|  thn_ret <| ?_
           refine fin1 ?_
           exact ⟨rfl, he⟩
          ·refine J.skip ?_
           refine J.region ?_
           refine L.va rfl (X.move (by conv => lhs; whnf)) ?_
           refine L.va rfl (X.add rfl rfl (by omega)) ?_
           refine L.va rfl (X.assign (by conv => lhs; whnf)) ?_
           refine L.nil ?_
           refine ⟨i + 1, At1 (by first | rfl | exact at_int rfl (by omega) | exact at_slice rfl (by omega) | exact at_int rfl (by simp)), (by (iterate 49 refine Agr.lk rfl ?_); exact Agr.lk rfl (Agr.hav rfl Agr.rfl')), ?_⟩
           exact ⟨⟨rfl, by omega, hnext (by omega)⟩, by omega⟩
       ·refine L.no rfl ?_
        iterate 3 refine L.no rfl ?_
        refine L.va rfl (X.pickF rfl (by conv => lhs; whnf)) ?_
        iterate 3 refine L.va rfl (X.move (by conv => lhs; whnf)) ?_
        refine L.va rfl (X.indexStr rfl rfl Tryz.underlying9 (by omega)) ?_
        refine L.va rfl (X.eql rfl rfl) ?_
        refine L.va rfl (X.pickF rfl (by conv => lhs; whnf)) ?_
        refine L.va rfl (X.assign (by conv => lhs; whnf)) ?_
        refine L.nil ?_
        refine J.seq ?_
        refine J.region ?_
        refine L.va rfl (X.move (by conv => lhs; whnf)) ?_
        refine L.va rfl (X.not rfl) ?_
        iterate 2 refine L.va rfl (X.move (by conv => lhs; whnf)) ?_
        refine L.va rfl (X.not rfl) ?_
        refine L.va rfl (X.move (by conv => lhs; whnf)) ?_
        refine L.caseB (k := 57) rfl (fun a5 => ?_) (fun a5 => ?_)
        ·have a5' : ¬ ch s i = 95 := nd_t a5
         have hE := hbad (by omega)
         rw [hE]
         iterate 2 refine L.no rfl ?_
         iterate 2 refine L.va rfl (X.pickT rfl (by conv => lhs; whnf)) ?_
         refine L.nil ?_
         refine J.iteT rfl ?_
         refine J.seq ?_
         refine J.region ?_
         refine L.va rfl (X.assign (by conv => lhs; whnf)) ?_
         refine L.nil ?_
         refine J.ret ?_
         refine inB_ret <|  thn_ret <|  thn_ret <|  inB_ret <|  thn_ret <| ?_
         refine fin1 ?_
         exact ⟨rfl, he⟩
        ·have a5' : ch s i = 95 := nd_f a5
         refine L.va rfl (X.move (by conv => lhs; whnf)) ?_
         refine L.va rfl (X.eql rfl rfl) ?_
         refine L.va rfl (X.pickF rfl (by conv => lhs; whnf)) ?_
         refine L.va rfl (X.pickT rfl (by conv => lhs; whnf)) ?_
         refine L.nil ?_
         refine J.dec rfl (fun a6 => ?_) (fun a6 => ?_)
         ·have hE := hbad (by omega)
          rw [hE]
          refine J.seq ?_
          refine J.region ?_
          refine L.va rfl (X.assign (by conv => lhs; whnf)) ?_
          refine L.nil ?_
          refine J.ret ?_
          refine inB_ret <|  thn_ret <|  thn_ret <|  inB_ret <|  thn_ret <| ?_
          refine fin1 ?_
          exact ⟨rfl, he⟩
         ·refine J.skip ?_
          refine J.region ?_
          refine L.va rfl (X.move (by conv => lhs; whnf)) ?_
          refine L.va rfl (X.add rfl rfl (by omega)) ?_
          refine L.va rfl (X.assign (by conv => lhs; whnf)) ?_
          refine L.nil ?_
          refine ⟨i + 1, At1 (by first | rfl | exact at_int rfl (by omega) | exact at_slice rfl (by omega) | exact at_int rfl (by simp)), (by (iterate 48 refine Agr.lk rfl ?_); exact Agr.lk rfl (Agr.hav rfl Agr.rfl')), ?_⟩
          exact ⟨⟨rfl, by omega, hnext (by omega)⟩, by omega⟩
     ·obtain rfl : i = s.size := by omega
      have hE : isS s = true := decide_eq_true ⟨by omega, by omega, by have := hP 0 (by omega); omega, fun j hj => by have := hP j hj; omega, hw⟩
      rw [hE]
      refine J.exit ?_
      refine J.seq ?_
      refine J.region ?_
      refine L.va rfl (X.assign (by conv => lhs; whnf)) ?_
      refine L.nil ?_
      refine J.ret ?_
      refine fin1 ?_
      exact ⟨rfl, he⟩
end Go.Proofs.YtpomklkfedpkfaaGreat
namespace Go.Proofs.YtpomklkfedpkfaaGreat
open Go.RowKit H
set_option linter.unusedVariables false
def tw (l : List ByteArray) : Int := match (List.range l.length).find? (fun i => among (l.take i) (l.getD i be0)) with
  | some i => (i : Int)
  | none => -1
theorem tw_some {l : List ByteArray} {i : Nat} (hi : i < l.length) (h : among (l.take i) (l.getD i be0) = true) (hP : ∀ j, j < i → among (l.take j) (l.getD j be0) = false) : tw l = (i : Int) := by
  have : (List.range l.length).find? (fun i => among (l.take i) (l.getD i be0)) = some i := by
    rw [List.find?_range_eq_some]
    refine ⟨h, List.mem_range.2 hi, fun j hj => by rw [hP j hj]; rfl⟩
  unfold tw
  rw [this]
theorem tw_none {l : List ByteArray} (hP : ∀ j, j < l.length → among (l.take j) (l.getD j be0) = false) : tw l = -1 := by
  have : (List.range l.length).find? (fun i => among (l.take i) (l.getD i be0)) = none := by
    rw [List.find?_range_eq_none]
    exact fun j hj => by rw [hP j hj]; rfl
  unfold tw
  rw [this]
theorem strs_take (l : List ByteArray) (k : Nat) : (strs l).take k = strs (l.take k) := by simp [strs, List.map_take]
theorem rtwice_any (A : Option Addr) (n c : Nat) (l : List ByteArray) (w : World) (hr : Reads w w.heap.size 1 A n (strs l)) (hnc : n ≤ c) (hn : n ≤ 9223372036854775807) :
  Calls Tryz.prog 66 #[.slice A n c] w fun e w' => e = .returned (.int .i64 (tw l)) ∧ Ext w w' := by
 have hl : l.length = n := by have := hr.1; simpa [strs] using this
 refine enter Tryz.func66 rfl (by kernel_rfl) ?_
 refine J.seq ?_
 refine J.region ?_
 refine L.va rfl (X.assign (by conv => lhs; whnf)) ?_
 refine L.nil ?_
 iterate 2 refine J.seq ?_
 refine J.region ?_
 refine L.va rfl (X.assign (by conv => lhs; whnf)) ?_
 refine L.nil ?_
 refine J.block ?_
 refine J.loop (X := Nat) [2, 3, 4, 5, 6, 7, 8, 9, 10, 11, 12, 13, 14, 15, 16, 17, 18, 19] (fun i => [(3, .int .i64 (i : Int))]) (fun i w' => Ext w w' ∧ i ≤ n ∧ ∀ j, j < i → among (l.take j) (l.getD j be0) = false) (fun i => n - i) (0) (At1 (by first | rfl | exact at_int rfl (by omega) | exact at_slice rfl (by omega) | exact at_int rfl (by simp))) ?_ ?_
 ·exact ⟨Ext.refl _, by omega, fun j hj => absurd hj (by omega)⟩
 ·rintro i g w2 ⟨he, hi, hP⟩
  have hr2 := hr.ext he
  iterate 2 refine J.seq ?_
  refine J.region ?_
  iterate 2 refine L.va rfl (X.move (by conv => lhs; whnf)) ?_
  refine L.va rfl (X.len rfl Tryz.underlying23) ?_
  refine L.va rfl (X.lss rfl rfl) ?_
  refine L.nil ?_
  refine J.dec rfl (fun hlt => ?_) (fun hlt => ?_)
  ·have hrt : ∀ w', Ext w2 w' → Reads w' w'.heap.size 1 A i (strs (l.take i)) := by
    intro w' hw'
    have := ((hr2.ext hw').here (by decide)).first (k := i) (by omega)
    rw [Nat.mul_one, strs_take] at this
    exact this
   refine J.skip ?_
   refine J.seq ?_
   refine J.block ?_
   refine J.seq ?_
   refine J.quiet mixed (by kernel_rfl) ?_
   iterate 2 refine Qt.va rfl (fun w' hw => X.move (by conv => lhs; whnf)) ?_
   refine Qt.va rfl (fun w' hw => (by first | exact X.sliceTon rfl rfl Tryz.underlying23 sz_9 (by omega) | exact X.sliceTo rfl rfl Tryz.underlying23 sz_9 (by omega))) ?_
   iterate 2 refine Qt.va rfl (fun w' hw => X.move (by conv => lhs; whnf)) ?_
   refine Qt.va rfl (fun w' hw => (by first | exact X.index1n rfl rfl Tryz.underlying23 sz_9 (by first | exact Option.some_ne_none _ | exact hr2.some_ (by omega)) (by omega) | exact X.index1 rfl rfl Tryz.underlying23 sz_9 (by first | exact Option.some_ne_none _ | exact hr2.some_ (by omega)) (by omega))) ?_
   refine Qt.va rfl (fun w' hw => X.load rfl sc_9 (by first | exact Ld.str (hr2.ext hw) (by omega))) ?_
   refine Qt.call rfl en_83 rfl (fun w' hw => calls_same hw (place_any A i c (l.take i) (l.getD i be0) _ (hrt _ hw) (by omega))) ?_
   refine Qt.va rfl (fun w' hw => X.geq rfl rfl) ?_
   refine Qt.nil (fun w3 hq => ?_)
   replace hr2 := hr2.ext hq
   refine J.dec rfl (fun hin => ?_) (fun hin => ?_)
   ·have hE : tw l = (i : Int) := tw_some (by omega) (among_iff.2 (plc_iff.1 hin)) hP
    rw [hE]
    refine J.seq ?_
    refine J.region ?_
    refine L.va rfl (X.move (by conv => lhs; whnf)) ?_
    refine L.va rfl (X.assign (by conv => lhs; whnf)) ?_
    refine L.nil ?_
    refine J.ret ?_
    refine inB_ret <|  thn_ret <|  thn_ret <|  inB_ret <|  thn_ret <| ?_
    refine fin1 ?_
    exact ⟨rfl, he.trans hq⟩
   ·refine J.skip ?_
    refine J.region ?_
    refine L.va rfl (X.move (by conv => lhs; whnf)) ?_
    refine L.va rfl (X.add rfl rfl (by omega)) ?_
    refine L.va rfl (X.assign (by conv => lhs; whnf)) ?_
    refine L.nil ?_
    refine ⟨i + 1, At1 (by first | rfl | exact at_int rfl (by omega) | exact at_slice rfl (by omega) | exact at_int rfl (by simp)), (by (iterate 16 refine Agr.lk rfl ?_); exact Agr.lk rfl (Agr.hav rfl Agr.rfl')), ?_⟩
    refine ⟨⟨he.trans hq, by omega, fun j hj => ?_⟩, by omega⟩
    rcases Nat.lt_or_ge j i with h' | h'
    ·exact hP j h'
    ·obtain rfl : j = i := by omega
     rw [← Bool.not_eq_true]
     exact fun h => hin (plc_iff.2 (among_iff.1 h))
  ·obtain rfl : i = n := by omega
   have hE : tw l = -1 := tw_none (by rw [hl]; exact hP)
   rw [hE]
   refine J.exit ?_
   refine J.seq ?_
   refine J.region ?_
   refine L.va rfl (X.assign (by conv => lhs; whnf)) ?_
   refine L.nil ?_
   refine J.ret ?_
   refine fin1 ?_
   exact ⟨rfl, he⟩
end Go.Proofs.YtpomklkfedpkfaaGreat
namespace Go.Proofs.YtpomklkfedpkfaaGreat
open Go.RowKit H
set_option linter.unusedVariables false
theorem take_nextS {l : List ByteArray} {i : Nat} (h : i < l.length) : l.take (i + 1) = l.take i ++ [l.getD i be0] := by
  rw [List.take_add_one, List.getElem?_eq_getElem h]
  simp [List.getD, h]
theorem among_next {l : List ByteArray} {i : Nat} (h : i < l.length) (s : ByteArray) : among (l.take (i + 1)) s = (among (l.take i) s || decide (l.getD i be0 = s)) := by
  rw [take_nextS h]
  unfold among
  rw [List.any_append]
  simp
set_option maxRecDepth 100000 in
theorem twice_any (A : Option Addr) (n c : Nat) (l : List ByteArray) (w : World) (hr : Reads w w.heap.size 1 A n (strs l)) (hn : n ≤ maxLen) (hs : ∀ s ∈ l, s.size ≤ maxLen) :
  Calls Tryz.prog 52 #[.slice A n c] w fun e w' => e = .returned (.int .i64 (tw l)) ∧ Ext w w' := by
 have hl : l.length = n := by have := hr.1; simpa [strs] using this
 unfold maxLen at hn
 have hz : ∀ w' : World, (zeroValue 3).run Tryz.prog w' = .ok (.int .i64 0) w' := fun w' => rfl
 refine enter Tryz.func52 rfl (by kernel_rfl) ?_
 refine J.seq ?_
 refine J.region ?_
 refine L.va rfl (X.assign (by conv => lhs; whnf)) ?_
 refine L.nil ?_
 refine J.seq ?_
 refine J.region ?_
 refine L.va rfl (X.move (by conv => lhs; whnf)) ?_
 refine L.va rfl (X.len rfl Tryz.underlying23) ?_
 refine L.makeMap rfl rfl Tryz.underlying121 ?_
 intro b w1 hb hs1 hm he
 refine L.va rfl (X.assign (by conv => lhs; whnf)) ?_
 refine L.nil ?_
 iterate 2 refine J.seq ?_
 refine J.region ?_
 refine L.va rfl (X.move (by conv => lhs; whnf)) ?_
 refine L.va rfl (X.len rfl Tryz.underlying23) ?_
 refine L.va rfl (X.move (by conv => lhs; whnf)) ?_
 refine L.nil ?_
 refine J.block ?_
 refine J.loop (X := Nat × (ByteArray → Option Int)) [2, 4, 5, 6, 7, 13, 14, 15, 16, 17, 18, 19, 20, 21, 22, 23, 24, 25, 26, 27, 28, 29] (fun x => [(13, .int .i64 (x.1 : Int))]) (fun x w' => x.1 ≤ n ∧ MapSI Tryz.prog 9 3 w' b x.1 x.2 ∧ (∀ s, (x.2 s).isSome = among (l.take x.1) s) ∧ (∀ j, j < x.1 → among (l.take j) (l.getD j be0) = false) ∧ Ext w w') (fun x => n - x.1) ((0, fun _ => none)) (At1 (by first | rfl | exact at_int rfl (by omega) | exact at_slice rfl (by omega) | exact at_int rfl (by simp))) ?_ ?_
 ·exact ⟨by dsimp only; omega, hm, fun s => rfl, fun j hj => absurd hj (Nat.not_lt_zero _), he⟩
 ·rintro ⟨i, f⟩ g w2 ⟨hi, hm2, hf, hP, he2⟩
  dsimp only at hi hm2 hf hP
  have q1 : ((i, f) : Nat × (ByteArray → Option Int)).1 = i := rfl
  have hr2 := hr.ext he2
  refine J.seq ?_
  refine J.region ?_
  refine L.va rfl (X.lss rfl rfl) ?_
  refine L.nil ?_
  refine J.seq ?_
  refine J.dec rfl (fun hlt => ?_) (fun hlt => ?_)
  ·have hil : i < l.length := by rw [hl]; dsimp only at hlt; omega
   have hsz : (l.getD i be0).size ≤ maxLen := by
    apply hs
    simp only [List.getD, List.getElem?_eq_getElem hil, Option.getD_some]
    exact List.getElem_mem hil
   refine J.skip ?_
   refine J.seq ?_
   refine J.block ?_
   refine J.seq ?_
   refine J.region ?_
   refine L.va rfl (X.move (by conv => lhs; whnf)) ?_
   refine L.va rfl ((by first | exact X.index1n rfl rfl Tryz.underlying23 sz_9 (by first | exact Option.some_ne_none _ | exact hr2.some_ (by omega)) (by omega) | exact X.index1 rfl rfl Tryz.underlying23 sz_9 (by first | exact Option.some_ne_none _ | exact hr2.some_ (by omega)) (by omega))) ?_
   refine L.va rfl (X.load rfl sc_9 (by first | exact Ld.str hr2 (by omega))) ?_
   iterate 2 refine L.va rfl (X.assign (by conv => lhs; whnf)) ?_
   refine L.nil ?_
   iterate 2 refine J.seq ?_
   refine J.region ?_
   iterate 2 refine L.va rfl (X.move (by conv => lhs; whnf)) ?_
   refine L.va rfl (X.look rfl rfl hm2 Tryz.underlying121 (by kernel_rfl) (by kernel_rfl) (hz _) hsz) ?_
   refine L.va rfl (X.move (by conv => lhs; whnf)) ?_
   iterate 2 refine L.va rfl (X.extract rfl rfl) ?_
   iterate 2 refine L.va rfl (X.assign (by conv => lhs; whnf)) ?_
   refine L.nil ?_
   refine J.seq ?_
   refine J.region ?_
   refine L.va rfl (X.move (by conv => lhs; whnf)) ?_
   refine L.nil ?_
   refine J.ite rfl (fun hin => ?_) (fun hin => ?_)
   ·have hin' : among (l.take i) (l.getD i be0) = true := by rw [← hf]; exact hin
    have hE : tw l = (i : Int) := tw_some hil hin' hP
    rw [hE]
    refine J.seq ?_
    refine J.region ?_
    refine L.va rfl (X.move (by conv => lhs; whnf)) ?_
    refine L.va rfl (X.assign (by conv => lhs; whnf)) ?_
    refine L.nil ?_
    refine J.ret ?_
    refine thn_ret <|  inB_ret <|  thn_ret <|  thn_ret <|  inB_ret <|  thn_ret <| ?_
    refine fin1 ?_
    exact ⟨rfl, he2⟩
   ·have hin' : among (l.take i) (l.getD i be0) = false := by rw [← hf]; simpa using hin
    refine J.skip ?_
    refine J.region ?_
    iterate 3 refine L.va rfl (X.move (by conv => lhs; whnf)) ?_
    refine L.mapPut rfl rfl rfl rfl (hm2) Tryz.underlying121 (by kernel_rfl) (by kernel_rfl) (by unfold maxLen; omega) (hsz) (wf64 (by dsimp only; omega)) ?_
    intro w3 hm3 hg3
    have he3 : Ext w w3 := he2.grw hg3 (by intro g hg; injection hg with hg; omega)
    refine L.nil ?_
    refine J.region ?_
    refine L.va rfl (X.add rfl rfl (by omega)) ?_
    refine L.va rfl (X.move (by conv => lhs; whnf)) ?_
    refine L.nil ?_
    refine ⟨(i + 1, fun x => if x = l.getD i be0 then some (i : Int) else f x), At1 (by first | rfl | exact at_int rfl (by omega) | exact at_slice rfl (by omega) | exact at_int rfl (by simp)), (by (iterate 20 refine Agr.lk rfl ?_); exact Agr.lk rfl (Agr.hav rfl Agr.rfl')), ?_⟩
    refine ⟨⟨by dsimp only; omega, hm3, fun s => ?_, fun j hj => ?_, he3⟩, by dsimp only; omega⟩
    ·dsimp only
     rw [among_next hil, ← hf]
     by_cases hss : s = l.getD i be0
     ·subst hss; simp
     ·rw [if_neg hss, decide_eq_false (fun h => hss h.symm), Bool.or_false]
    ·dsimp only at hj
     rcases Nat.lt_or_ge j i with h' | h'
     ·exact hP j h'
     ·obtain rfl : j = i := by omega
      exact hin'
  ·obtain rfl : i = n := by dsimp only at hlt; omega
   have hE : tw l = -1 := tw_none (by rw [hl]; exact hP)
   rw [hE]
   refine J.exit ?_
   refine J.seq ?_
   refine J.region ?_
   refine L.va rfl (X.assign (by conv => lhs; whnf)) ?_
   refine L.nil ?_
   refine J.ret ?_
   refine fin1 ?_
   exact ⟨rfl, he2⟩
end Go.Proofs.YtpomklkfedpkfaaGreat
namespace Go.Proofs.YtpomklkfedpkfaaGreat
set_option maxRecDepth 100000
open Go.RowKit H
set_option linter.unusedVariables false
theorem LiesSlice.strs {w : World} {B n : Nat} {A : Option Addr} {xs : List Str} (h : LiesSlice w B A n xs) : Reads w B 1 A n (strs (xs.map (·.s))) := by
  refine ⟨by simp [strs_length, h.1], fun hn => ?_⟩
  obtain ⟨ad, e, hb, hc⟩ := h.2 hn
  refine ⟨ad, e, hb, fun j u hu => ?_⟩
  simp only [Go.Proofs.YtpomklkfedpkfaaGreat.strs, List.map_map, List.getElem?_map, Option.map_eq_some_iff] at hu
  obtain ⟨x, hx, rfl⟩ := hu
  obtain ⟨us, hus, hl⟩ := hc j x hx
  obtain rfl : us = [.string x.s] := hl
  have := hus 0 (show 0 < 1 by decide)
  simpa [show Lay.size Str = 1 from rfl] using this
def dimsV (l : List (ByteArray × Int)) : List Value := l.flatMap fun p => [.string p.1, .int .i64 p.2]
theorem dimsV_length (l : List (ByteArray × Int)) : (dimsV l).length = l.length * 2 := by
  induction l with
  | nil => rfl
  | cons a l ih => simp only [dimsV, List.flatMap_cons, List.length_append, List.length_cons, List.length_nil] at ih ⊢; omega
theorem dimsV_at : ∀ (l : List (ByteArray × Int)) (i : Nat), (dimsV l)[i * 2]? = (l[i]?).map (fun p => Value.string p.1) ∧ (dimsV l)[i * 2 + 1]? = (l[i]?).map (fun p => Value.int .i64 p.2)
  | [], i => by simp [dimsV]
  | a :: l, 0 => by simp [dimsV]
  | a :: l, i + 1 => by
    obtain ⟨h1, h2⟩ := dimsV_at l i
    have e : dimsV (a :: l) = .string a.1 :: .int .i64 a.2 :: dimsV l := rfl
    rw [e, show (i + 1) * 2 = i * 2 + 1 + 1 by omega]
    simp only [List.getElem?_cons_succ]
    exact ⟨h1, h2⟩
def d0 : ByteArray × Int := (be0, 0)
theorem LiesSlice.dims {w : World} {B n : Nat} {A : Option Addr} {xs : List (Str × Nm .i64)} (h : LiesSlice w B A n xs) : Reads w B 2 A n (dimsV (xs.map fun p => (p.1.s, p.2.z))) := by
  refine ⟨by rw [dimsV_length, List.length_map, h.1], fun hn => ?_⟩
  obtain ⟨ad, e, hb, hc⟩ := h.2 hn
  refine ⟨ad, e, hb, fun j u hu => ?_⟩
  have hj : j < n * 2 := by
    have := (List.getElem?_eq_some_iff.1 hu).1
    rw [dimsV_length, List.length_map, h.1] at this
    exact this
  obtain ⟨k1, k2⟩ := dimsV_at (xs.map fun p => (p.1.s, p.2.z)) (j / 2)
  have hi : j / 2 < xs.length := by rw [h.1]; omega
  have hx : xs[j / 2]? = some xs[j / 2] := List.getElem?_eq_getElem hi
  obtain ⟨us, hus, us1, ws1, rfl, hl1, hl2⟩ := hc (j / 2) _ hx
  obtain rfl : us1 = [.string xs[j / 2].1.s] := hl1
  obtain rfl : ws1 = [.int .i64 xs[j / 2].2.z] := hl2
  have c0 := hus 0 (show 0 < 2 by decide)
  have c1 := hus 1 (show 1 < 2 by decide)
  have hs2 : Lay.size (Str × Nm .i64) = 2 := rfl
  rw [hs2] at c0 c1
  rw [List.getElem?_map, hx] at k1 k2
  rcases Nat.mod_two_eq_zero_or_one j with h0 | h0
  · rw [show j / 2 * 2 = j by omega] at k1
    rw [k1] at hu
    rw [show j / 2 * 2 + 0 = j by omega] at c0
    rw [c0, ← hu]
    rfl
  · rw [show j / 2 * 2 + 1 = j by omega] at k2
    rw [k2] at hu
    rw [show j / 2 * 2 + 1 = j by omega] at c1
    rw [c1, ← hu]
    rfl
namespace H
theorem Ld.dimS {w : World} {B n : Nat} {A : Option Addr} {l : List (ByteArray × Int)} (h : Reads w B 2 A n (dimsV l)) {i : Nat} (hi : i < n) : Ld w (pA A (i * 2)) (.string (l.getD i d0).1) := by
  have h1 := Ld.rd h (j := i * 2) (by omega)
  have hl : i < l.length := by have := h.1; rw [dimsV_length] at this; omega
  have : (dimsV l).getD (i * 2) undef = .string (l.getD i d0).1 := by
    simp only [List.getD, (dimsV_at l i).1, List.getElem?_eq_getElem hl, Option.map_some, Option.getD_some]
  rwa [this] at h1
theorem Ld.dimN {w : World} {B n : Nat} {A : Option Addr} {l : List (ByteArray × Int)} (h : Reads w B 2 A n (dimsV l)) {i : Nat} (hi : i < n) : Ld w (pA A (i * 2 + 1)) (.int .i64 (l.getD i d0).2) := by
  have h1 := Ld.rd h (j := i * 2 + 1) (by omega)
  have hl : i < l.length := by have := h.1; rw [dimsV_length] at this; omega
  have : (dimsV l).getD (i * 2 + 1) undef = .int .i64 (l.getD i d0).2 := by
    simp only [List.getD, (dimsV_at l i).2, List.getElem?_eq_getElem hl, Option.map_some, Option.getD_some]
  rwa [this] at h1
end H
theorem schema4 {w : World} {B : Nat} {vs : List Value} {x : (List (Str × Nm .i64)) × List Str × List Str × List (Nm .u32)} (h : Lay.lies w B vs x) :
    ∃ Ad nd cd A1 n1 c1 A2 n2 c2 Av nv cv, vs = [.slice Ad nd cd, .slice A1 n1 c1, .slice A2 n2 c2, .slice Av nv cv] ∧ (nd ≤ cd ∧ cd ≤ maxLen) ∧ (n1 ≤ c1 ∧ c1 ≤ maxLen) ∧ (n2 ≤ c2 ∧ c2 ≤ maxLen) ∧ (nv ≤ cv ∧ cv ≤ maxLen) ∧
      Reads w B 2 Ad nd (dimsV (x.1.map fun p => (p.1.s, p.2.z))) ∧ Reads w B 1 A1 n1 (strs (x.2.1.map (·.s))) ∧ Reads w B 1 A2 n2 (strs (x.2.2.1.map (·.s))) ∧ Reads w B 1 Av nv (nums .u32 (zsOf x.2.2.2)) := by
  obtain ⟨us, ws, rfl, ⟨Ad, nd, cd, rfl, g1, g2, _, g3⟩, us2, ws2, rfl, ⟨A1, n1, c1, rfl, k1, k2, _, k3⟩, us3, ws3, rfl, ⟨A2, n2, c2, rfl, l1, l2, _, l3⟩, Av, nv, cv, rfl, m1, m2, _, m3⟩ := h
  exact ⟨Ad, nd, cd, A1, n1, c1, A2, n2, c2, Av, nv, cv, rfl, ⟨g1, g2⟩, ⟨k1, k2⟩, ⟨l1, l2⟩, ⟨m1, m2⟩, g3.dims, k3.strs, l3.strs, m3.reads⟩
end Go.Proofs.YtpomklkfedpkfaaGreat
namespace Go.Proofs.YtpomklkfedpkfaaGreat
set_option maxRecDepth 100000
open Go.RowKit H
set_option linter.unusedVariables false
theorem strs_ones (l : List ByteArray) : (strs l).all (·.oneCell') = true := by
  rw [List.all_eq_true]
  intro u hu
  simp only [strs, List.mem_map] at hu
  obtain ⟨x, _, rfl⟩ := hu
  rfl
theorem strs_append (a b : List ByteArray) : strs a ++ strs b = strs (a ++ b) := by simp [strs]
theorem dims_row {l : List (ByteArray × Int)} {i : Nat} (h : i < l.length) : ∀ (r : Nat) (v : Value), [Value.string (l.getD i d0).1, Value.int .i64 (l.getD i d0).2][r]? = some v → (dimsV l)[i * 2 + r]? = some v := by
  have e : l.getD i d0 = l[i] := by simp [List.getD, h]
  obtain ⟨h1, h2⟩ := dimsV_at l i
  rw [List.getElem?_eq_getElem h] at h1 h2
  rw [e]
  intro r v hv
  match r, hv with
  | 0, hv => rw [Nat.add_zero, h1]; exact hv
  | 1, hv => rw [h2]; exact hv
def nmL (ds : List (ByteArray × Int)) (s1 s2 : List ByteArray) : List ByteArray := ds.map (·.1) ++ s1 ++ s2
theorem names_take {ds : List (ByteArray × Int)} {i : Nat} (h : i < ds.length) : (ds.take (i + 1)).map (·.1) = (ds.take i).map (·.1) ++ [(ds.getD i d0).1] := by
  rw [List.take_add_one, List.getElem?_eq_getElem h, List.map_append]
  congr 1
  simp [List.getD, h]
theorem sall_any (Ad : Option Addr) (nd cd : Nat) (A1 : Option Addr) (n1 c1 : Nat) (A2 : Option Addr) (n2 c2 : Nat) (Av : Option Addr) (nv cv : Nat) (ds : List (ByteArray × Int)) (s1 s2 : List ByteArray) (w : World)
  (hd : Reads w w.heap.size 2 Ad nd (dimsV ds)) (h1 : Reads w w.heap.size 1 A1 n1 (strs s1)) (h2 : Reads w w.heap.size 1 A2 n2 (strs s2)) (hnd : nd ≤ 1000) (hn1 : n1 ≤ 1000) (hn2 : n2 ≤ 1000) :
  Calls Tryz.prog 50 #[.agg #[.slice Ad nd cd, .slice A1 n1 c1, .slice A2 n2 c2, .slice Av nv cv]] w fun e w' => ∃ A c, e = .returned (.slice A (nd + n1 + n2) c) ∧ w'.ownsRow w.heap.size 9 1 (.slice A (nd + n1 + n2) c) (nd + n1 + n2) (strs (nmL ds s1 s2)) ∧ Ext w w' := by
 have hl : ds.length = nd := by have := hd.1; rw [dimsV_length] at this; omega
 refine enter Tryz.func50 rfl (by kernel_rfl) ?_
 refine J.seq ?_
 refine J.region ?_
 refine L.boxA (l := [_, _, _, _]) rfl rfl ?_
 intro b1 w1 hb1 hs1 hk1 he1
 refine L.va rfl (X.assign (by conv => lhs; whnf)) ?_
 refine L.nil ?_
 refine J.seq ?_
 refine J.region ?_
 refine L.va rfl (X.assign (by conv => lhs; whnf)) ?_
 refine L.nil ?_
 iterate 2 refine J.seq ?_
 refine J.region ?_
 refine L.va rfl (X.fieldAddr rfl Tryz.underlying26 rfl sz_22 (by decide)) ?_
 refine L.va rfl (X.load rfl sc_22 (by first | exact Ld.blk hk1 rfl)) ?_
 refine L.va rfl (X.len rfl Tryz.underlying22) ?_
 refine L.va rfl (X.move (by conv => lhs; whnf)) ?_
 refine L.nil ?_
 refine J.block ?_
 refine J.loop (X := Nat × Option Addr × Nat) [3, 5, 9, 10, 11, 12, 13, 14, 15, 16, 17, 18] (fun x => [(9, .int .i64 (x.1 : Int)), (3, .slice x.2.1 x.1 x.2.2)]) (fun x w' => x.1 ≤ nd ∧ w'.ownsRow w.heap.size 9 1 (.slice x.2.1 x.1 x.2.2) x.1 (strs ((ds.take x.1).map (·.1))) ∧ Blk w' b1 26 #[.slice Ad nd cd, .slice A1 n1 c1, .slice A2 n2 c2, .slice Av nv cv] ∧ Ext w w') (fun x => nd - x.1) ((0, none, 0)) (At2 (by first | rfl | exact at_int rfl (by omega) | exact at_slice rfl (by omega) | exact at_int rfl (by simp)) (by first | rfl | exact at_int rfl (by omega) | exact at_slice rfl (by omega) | exact at_int rfl (by simp))) ?_ ?_
 ·exact ⟨by dsimp only; omega, own_nil _ _ _ _, hk1, he1⟩
 ·rintro ⟨i, A, c⟩ g w2 ⟨hi, ho2, hk12, he2⟩
  dsimp only at hi ho2
  have q1 : ((i, A, c) : Nat × Option Addr × Nat).1 = i := rfl
  have hz2 := he2.le
  have hd2 := hd.ext he2
  refine J.seq ?_
  refine J.region ?_
  refine L.va rfl (X.lss rfl rfl) ?_
  refine L.nil ?_
  refine J.seq ?_
  refine J.dec rfl (fun hlt => ?_) (fun hlt => ?_)
  ·have hil : i < ds.length := by rw [hl]; dsimp only at hlt; omega
   refine J.skip ?_
   refine J.seq ?_
   refine J.block ?_
   refine J.seq ?_
   refine J.region ?_
   refine L.va rfl ((by first | exact X.indexAddrn rfl rfl Tryz.underlying22 sz_54 (by first | exact Option.some_ne_none _ | exact hd2.some_ (by omega)) (by omega) | exact X.indexAddr rfl rfl Tryz.underlying22 sz_54 (by first | exact Option.some_ne_none _ | exact hd2.some_ (by omega)) (by omega))) ?_
   refine L.va rfl (X.loadRow (cs := [.string (ds.getD i d0).1, .int .i64 (ds.getD i d0).2]) rfl hd2 (dims_row hil) (Nat.zero_lt_succ _) Tryz.underlying54 rfl (by kernel_rfl)) ?_
   refine L.alloc rfl zr_54 ?_
   intro b3 w3 hb3 hs3 hk3 he3
   refine L.storeAgg (vs := [_, _]) rfl rfl rfl rfl sz_54 (hk3) rfl ?_
   intro w4 hk4 hg4 hs4
   have ho4 := (ho2.ext he3).kept hg4 (.inr (own_blk_ne (ho2.ext he3) hk3 (by decide)))
   have hlt1 := hk12.lt
   have hkS4 := (hk12.ext he3).grown hg4 (by intro hg; injection hg with hg; omega)
   have he4 : Ext w w4 := (he2.trans he3).grw hg4 (by intro g hg; injection hg with hg; omega)
   have hz4 := he4.le
   refine L.nil ?_
   refine J.region ?_
   refine L.va rfl (X.move (by conv => lhs; whnf)) ?_
   refine L.va rfl (X.fieldAddr rfl Tryz.underlying54 rfl sz_9 (by decide)) ?_
   refine L.va rfl (X.load rfl sc_9 (by first | exact Ld.blk hk4 rfl)) ?_
   refine L.bslice (vs := [_]) rfl (Evs.cons (by conv => lhs; whnf) Evs.nil) rfl rfl rfl rfl Tryz.underlying23 sz_9 zr_9 (by decide) ?_
   intro b5 w5 hb5 hs5 hk5 he5
   have hz5 := he5.le
   refine L.appendV (q := i + 1) (ys := strs ((ds.take i).map (·.1)) ++ strs [(ds.getD i d0).1]) rfl rfl rfl Tryz.underlying23 el_9 (ho4.ext he5) ((blk_reads (q := 1) (l := strs [(ds.getD i d0).1]) hk5 (by omega : b5 < w5.heap.size) rfl)) (by first | rfl | exact strs_ones _ | assumption) (by omega) (by simp) (by unfold maxLen; omega) (by omega) ?_
   intro A6 c6 w6 ho6 hg6 hb6 hor6
   rw [strs_append, ← names_take hil] at ho6
   have he6 : Ext w w6 := (he4.trans he5).low hb6 (Nat.le_refl _)
   have hkS6 := (hkS4.ext he5).grown hg6 (fun h => own_blk_ne (ho4.ext he5) (hkS4.ext he5) (by decide) h.symm)
   refine L.va rfl (X.assign (by conv => lhs; whnf)) ?_
   refine L.nil ?_
   refine J.region ?_
   refine L.va rfl (X.add rfl rfl (by omega)) ?_
   refine L.va rfl (X.move (by conv => lhs; whnf)) ?_
   refine L.nil ?_
   refine ⟨(i + 1, A6, c6), At2 (by first | rfl | exact at_int rfl (by omega) | exact at_slice rfl (by omega) | exact at_int rfl (by simp)) (by first | rfl | exact at_int rfl (by omega) | exact at_slice rfl (by omega) | exact at_int rfl (by simp)), (by (iterate 12 refine Agr.lk rfl ?_); exact Agr.lk rfl (Agr.hav rfl Agr.rfl')), ?_⟩
   exact ⟨⟨by dsimp only; omega, ho6, hkS6, he6⟩, by dsimp only; omega⟩
  ·obtain rfl : i = nd := by dsimp only at hlt; omega
   rw [List.take_of_length_le (by omega)] at ho2
   refine J.exit ?_
   refine J.seq ?_
   refine J.region ?_
   refine L.va rfl (X.move (by conv => lhs; whnf)) ?_
   refine L.va rfl (X.fieldAddr rfl Tryz.underlying26 rfl sz_23 (by decide)) ?_
   refine L.va rfl (X.load rfl sc_23 (by first | exact Ld.blk hk12 rfl)) ?_
   refine L.appendV (q := i + n1) (ys := strs (ds.map (·.1)) ++ strs s1) rfl rfl rfl Tryz.underlying23 el_9 (ho2) ((h1.ext he2).here (by decide)) (by first | rfl | exact strs_ones _ | assumption) (by omega) (by simp) (by unfold maxLen; omega) (by omega) ?_
   intro A3 c3 w3 ho3 hg3 hb3 hor3
   rw [strs_append] at ho3
   have he3 : Ext w w3 := he2.low hb3 (Nat.le_refl _)
   have hk13 := hk12.grown hg3 (fun h => own_blk_ne ho2 hk12 (by decide) h.symm)
   have hz3 := he3.le
   refine L.va rfl (X.assign (by conv => lhs; whnf)) ?_
   refine L.nil ?_
   refine J.seq ?_
   refine J.region ?_
   refine L.va rfl (X.move (by conv => lhs; whnf)) ?_
   refine L.va rfl (X.fieldAddr rfl Tryz.underlying26 rfl sz_23 (by decide)) ?_
   refine L.va rfl (X.load rfl sc_23 (by first | exact Ld.blk hk13 rfl)) ?_
   refine L.appendV (q := i + n1 + n2) (ys := strs (ds.map (·.1) ++ s1) ++ strs s2) rfl rfl rfl Tryz.underlying23 el_9 (ho3) ((h2.ext he3).here (by decide)) (by first | rfl | exact strs_ones _ | assumption) (by omega) (by simp) (by unfold maxLen; omega) (by omega) ?_
   intro A4 c4 w4 ho4 hg4 hb4 hor4
   rw [strs_append] at ho4
   refine L.va rfl (X.assign (by conv => lhs; whnf)) ?_
   refine L.nil ?_
   refine J.ret ?_
   refine fin1 ?_
   exact ⟨A4, c4, rfl, ho4, he3.low hb4 (Nat.le_refl _)⟩
end Go.Proofs.YtpomklkfedpkfaaGreat
namespace Go.Proofs.YtpomklkfedpkfaaGreat
open Go.RowKit H
open Mk
set_option linter.unusedVariables false
theorem rtwo_any (n : Nat) (w : World) (hn : n < 32) :
  Calls Tryz.prog 43 #[.int .i64 (n : Int)] w fun e w' => e = .returned (.int .u32 ((2 ^ n : Nat) : Int)) ∧ w = w' := by
 refine enter Tryz.func43 rfl (by kernel_rfl) ?_
 refine J.seq ?_
 refine J.region ?_
 refine L.va rfl (X.assign (by conv => lhs; whnf)) ?_
 refine L.nil ?_
 refine J.seq ?_
 refine J.region ?_
 refine L.va rfl (X.assign (by conv => lhs; whnf)) ?_
 refine L.nil ?_
 iterate 2 refine J.seq ?_
 refine J.region ?_
 refine L.va rfl (X.assign (by conv => lhs; whnf)) ?_
 refine L.nil ?_
 refine J.block ?_
 refine J.loop (X := Nat × Nat) [3, 4, 5, 6, 7, 8, 9, 10, 11] (fun x => [(4, .int .i64 (x.1 : Int)), (3, .int .u32 (x.2 : Int))]) (fun x w' => w' = w ∧ x.1 ≤ n ∧ x.2 = 2 ^ x.1) (fun x => n - x.1) ((0, 1)) (At2 (by first | rfl | exact at_int rfl (by omega) | exact at_slice rfl (by omega) | exact at_int rfl (by simp)) (by first | rfl | exact at_int rfl (by omega) | exact at_slice rfl (by omega) | exact at_int rfl (by simp))) ?_ ?_
 ·exact ⟨rfl, by dsimp only; omega, rfl⟩
 ·rintro ⟨i, p⟩ g w1 ⟨rfl, hi, hp⟩
  dsimp only at hi hp
  iterate 2 refine J.seq ?_
  refine J.region ?_
  iterate 2 refine L.va rfl (X.move (by conv => lhs; whnf)) ?_
  refine L.va rfl (X.lss rfl rfl) ?_
  refine L.nil ?_
  refine J.dec rfl (fun hlt => ?_) (fun hlt => ?_)
  ·have hb : 2 ^ (i + 1) ≤ 2 ^ 31 := Nat.pow_le_pow_right (by decide) (by omega)
   have e : IntKind.u32.wrap (2 * (p : Int)) = ((2 ^ (i + 1) : Nat) : Int) := by
    rw [Nat.pow_succ, ← hp] at hb ⊢
    rw [w32 (by omega)]
    omega
   refine J.skip ?_
   refine J.seq ?_
   refine J.block ?_
   refine J.region ?_
   refine L.va rfl (X.move (by conv => lhs; whnf)) ?_
   refine L.va rfl (X.mulw rfl rfl) ?_
   refine L.va rfl (X.assign (by conv => lhs; whnf)) ?_
   refine L.nil ?_
   refine J.region ?_
   refine L.va rfl (X.move (by conv => lhs; whnf)) ?_
   refine L.va rfl (X.add rfl rfl (by omega)) ?_
   refine L.va rfl (X.assign (by conv => lhs; whnf)) ?_
   refine L.nil ?_
   refine ⟨(i + 1, 2 ^ (i + 1)), At2 (rfl) (at_int rfl e), (by (iterate 9 refine Agr.lk rfl ?_); exact Agr.lk rfl (Agr.hav rfl Agr.rfl')), ?_⟩
   exact ⟨⟨rfl, by dsimp only; omega, rfl⟩, by dsimp only; omega⟩
  ·obtain rfl : i = n := by omega
   subst hp
   refine J.exit ?_
   refine J.seq ?_
   refine J.region ?_
   refine L.va rfl (X.move (by conv => lhs; whnf)) ?_
   refine L.va rfl (X.assign (by conv => lhs; whnf)) ?_
   refine L.nil ?_
   refine J.ret ?_
   refine fin1 ?_
   exact ⟨rfl, rfl⟩
theorem rin_any (a n : Nat) (w : World) (ha : a < 4294967296) (hn : n < 32) :
  Calls Tryz.prog 42 #[.int .u32 (a : Int), .int .i64 (n : Int)] w fun e w' => e = .returned (.bool (a.testBit n)) ∧ w = w' := by
 have hpos : 0 < ((2 ^ n : Nat) : Int) := by have := Nat.pow_pos (n := n) (by decide : 0 < 2); omega
 have hd : (a : Int) / ((2 ^ n : Nat) : Int) = ((a / 2 ^ n : Nat) : Int) := rfl
 have e : decide ((a : Int) / ((2 ^ n : Nat) : Int) % 2 = 1) = a.testBit n := by
  rw [Nat.testBit_eq_decide_div_mod_eq, hd, decide_eq_decide]
  omega
 have h0 : 0 ≤ (a : Int) / ((2 ^ n : Nat) : Int) := by rw [hd]; exact Int.natCast_nonneg _
 have hp := rtwo_any n
 generalize ((2 ^ n : Nat) : Int) = p at *
 refine enter Tryz.func42 rfl (by kernel_rfl) ?_
 refine J.seq ?_
 refine J.region ?_
 refine L.va rfl (X.assign (by conv => lhs; whnf)) ?_
 refine L.nil ?_
 refine J.seq ?_
 refine J.region ?_
 iterate 2 refine L.va rfl (X.move (by conv => lhs; whnf)) ?_
 refine L.call rfl en_43 rfl (hp _ hn) ?_
 rintro e _ ⟨rfl, rfl⟩
 refine ⟨_, rfl, ?_⟩
 refine L.va rfl (X.quo32 rfl rfl (by omega)) ?_
 refine L.va rfl (X.rem rfl rfl (by omega)) ?_
 refine L.va rfl (X.eql rfl rfl) ?_
 refine L.va rfl (X.assign (by conv => lhs; whnf)) ?_
 refine L.nil ?_
 refine J.ret ?_
 refine fin1 ?_
 rw [e]
 exact ⟨rfl, rfl⟩
theorem rsub_any (a b : Nat) (w : World) (ha : a < 4294967296) (hb : b < 4294967296) :
  Calls Tryz.prog 23 #[.int .u32 (a : Int), .int .u32 (b : Int)] w fun e w' => e = .returned (.bool (sb a b)) ∧ w = w' := by
 refine enter Tryz.func23 rfl (by kernel_rfl) ?_
 refine J.seq ?_
 refine J.region ?_
 refine L.va rfl (X.assign (by conv => lhs; whnf)) ?_
 refine L.nil ?_
 iterate 2 refine J.seq ?_
 refine J.region ?_
 refine L.va rfl (X.assign (by conv => lhs; whnf)) ?_
 refine L.nil ?_
 refine J.block ?_
 refine J.loop (X := Nat) [4, 5, 6, 7, 8, 9, 10, 11, 12, 13, 14, 15, 16, 17, 18] (fun i => [(5, .int .i64 (i : Int))]) (fun i w' => w' = w ∧ i ≤ 32 ∧ ∀ j, j < i → a.testBit j = true → b.testBit j = true) (fun i => 32 - i) (0) (At1 (by first | rfl | exact at_int rfl (by omega) | exact at_slice rfl (by omega) | exact at_int rfl (by simp))) ?_ ?_
 ·exact ⟨rfl, by omega, fun j hj => absurd hj (by omega)⟩
 ·rintro i g w1 ⟨rfl, hi, hP⟩
  iterate 2 refine J.seq ?_
  refine J.region ?_
  refine L.va rfl (X.move (by conv => lhs; whnf)) ?_
  refine L.va rfl (X.lss rfl rfl) ?_
  refine L.nil ?_
  refine J.dec rfl (fun hlt => ?_) (fun hlt => ?_)
  ·refine J.skip ?_
   refine J.seq ?_
   refine J.block ?_
   refine J.seq ?_
   refine J.region ?_
   iterate 2 refine L.va rfl (X.move (by conv => lhs; whnf)) ?_
   refine L.call rfl en_42 rfl (rin_any a i _ ha (by omega)) ?_
   rintro e _ ⟨rfl, rfl⟩
   refine ⟨_, rfl, ?_⟩
   refine L.va rfl (X.move (by conv => lhs; whnf)) ?_
   refine L.caseB (k := 13) rfl (fun h1 => ?_) (fun h1 => ?_)
   ·refine L.va rfl (X.move (by conv => lhs; whnf)) ?_
    refine L.va rfl (X.move (by conv => lhs; whnf)) ?_
    refine L.call rfl en_42 rfl (rin_any b i _ hb (by omega)) ?_
    rintro e _ ⟨rfl, rfl⟩
    refine ⟨_, rfl, ?_⟩
    cases h2 : b.testBit i
    ·have e : sb a b = false := by
      cases hs : sb a b with
      | false => rfl
      | true => have := sb_iff.1 hs i h1; rw [h2] at this; cases this
     rw [e]
     refine L.va rfl (X.not rfl) ?_
     refine L.va rfl (X.pickT rfl (by conv => lhs; whnf)) ?_
     refine L.nil ?_
     refine J.iteT rfl ?_
     refine J.seq ?_
     refine J.region ?_
     refine L.va rfl (X.assign (by conv => lhs; whnf)) ?_
     refine L.nil ?_
     refine J.ret ?_
     refine inB_ret <|  thn_ret <|  thn_ret <|  inB_ret <|  thn_ret <| ?_
     refine fin1 ?_
     exact ⟨rfl, rfl⟩
    ·refine L.va rfl (X.not rfl) ?_
     refine L.va rfl (X.pickT rfl (by conv => lhs; whnf)) ?_
     refine L.nil ?_
     refine J.iteF rfl ?_
     refine J.skip ?_
     refine J.region ?_
     refine L.va rfl (X.move (by conv => lhs; whnf)) ?_
     refine L.va rfl (X.add rfl rfl (by omega)) ?_
     refine L.va rfl (X.assign (by conv => lhs; whnf)) ?_
     refine L.nil ?_
     refine ⟨i + 1, At1 (by first | rfl | exact at_int rfl (by omega) | exact at_slice rfl (by omega) | exact at_int rfl (by simp)), (by (iterate 15 refine Agr.lk rfl ?_); exact Agr.lk rfl (Agr.hav rfl Agr.rfl')), ?_⟩
     refine ⟨⟨rfl, by omega, fun j hj => ?_⟩, by omega⟩
     rcases Nat.lt_or_ge j i with h | h
     ·exact hP j h
     ·obtain rfl : j = i := by omega
      exact fun _ => h2
   ·refine L.no rfl ?_
    iterate 3 refine L.no rfl ?_
    refine L.va rfl (X.pickF rfl (by conv => lhs; whnf)) ?_
    refine L.nil ?_
    refine J.iteF rfl ?_
    refine J.skip ?_
    refine J.region ?_
    refine L.va rfl (X.move (by conv => lhs; whnf)) ?_
    refine L.va rfl (X.add rfl rfl (by omega)) ?_
    refine L.va rfl (X.assign (by conv => lhs; whnf)) ?_
    refine L.nil ?_
    refine ⟨i + 1, At1 (by first | rfl | exact at_int rfl (by omega) | exact at_slice rfl (by omega) | exact at_int rfl (by simp)), (by (iterate 15 refine Agr.lk rfl ?_); exact Agr.lk rfl (Agr.hav rfl Agr.rfl')), ?_⟩
    refine ⟨⟨rfl, by omega, fun j hj => ?_⟩, by omega⟩
    rcases Nat.lt_or_ge j i with h | h
    ·exact hP j h
    ·obtain rfl : j = i := by omega
     intro h2
     rw [h1] at h2
     cases h2
  ·obtain rfl : i = 32 := by omega
   have e : sb a b = true := by
    rw [sb_iff]
    intro j hj
    rcases Nat.lt_or_ge j 32 with h | h
    ·exact hP j h hj
    ·have : a < 2 ^ j := Nat.lt_of_lt_of_le ha (by rw [show 4294967296 = 2 ^ 32 by decide]; exact Nat.pow_le_pow_right (by decide) h)
     rw [Nat.testBit_lt_two_pow this] at hj
     cases hj
   rw [e]
   refine J.exit ?_
   refine J.seq ?_
   refine J.region ?_
   refine L.va rfl (X.assign (by conv => lhs; whnf)) ?_
   refine L.nil ?_
   refine J.ret ?_
   refine fin1 ?_
   exact ⟨rfl, rfl⟩
end Go.Proofs.YtpomklkfedpkfaaGreat
namespace Go.Proofs.YtpomklkfedpkfaaGreat
set_option maxRecDepth 100000
open Go.RowKit H
set_option linter.unusedVariables false
theorem grb_new {a b c : World} {r r' : Option Nat} (h : a.grownBy b r) (k : b.grownBy c r') (hr : r' = r ∨ ∃ g, r' = some g ∧ a.heap.size ≤ g) : a.grownBy c r :=
  ⟨k.os.trans h.os, k.tape.trans h.tape, k.output.trans h.output, Nat.le_trans h.size k.size, fun i hi hne => (k.block i (Nat.lt_of_lt_of_le hi h.size) (by
    rcases hr with rfl | ⟨g, rfl, hg⟩
    · exact hne
    · intro he; injection he with he; omega)).trans (h.block i hi hne)⟩
theorem rnames_any (Ad : Option Addr) (nd cd : Nat) (A1 : Option Addr) (n1 c1 : Nat) (A2 : Option Addr) (n2 c2 : Nat) (Av : Option Addr) (nv cv : Nat) (ds : List (ByteArray × Int)) (s1 s2 : List ByteArray) (w : World)
  (hd : Reads w w.heap.size 2 Ad nd (dimsV ds)) (h1 : Reads w w.heap.size 1 A1 n1 (strs s1)) (h2 : Reads w w.heap.size 1 A2 n2 (strs s2)) (hnd : nd ≤ 1000) (hn1 : n1 ≤ 1000) (hn2 : n2 ≤ 1000) :
  Calls Tryz.prog 11 #[.agg #[.slice Ad nd cd, .slice A1 n1 c1, .slice A2 n2 c2, .slice Av nv cv]] w fun e w' => ∃ A c, e = .returned (.slice A (nd + n1 + n2) c) ∧ w'.ownsRow w.heap.size 9 1 (.slice A (nd + n1 + n2) c) (nd + n1 + n2) (strs (nmL ds s1 s2)) ∧ Ext w w' := by
 have hl : ds.length = nd := by have := hd.1; rw [dimsV_length] at this; omega
 refine enter Tryz.func11 rfl (by kernel_rfl) ?_
 refine J.seq ?_
 refine J.region ?_
 refine L.boxA (l := [_, _, _, _]) rfl rfl ?_
 intro b1 w1 hb1 hs1 hk1 he1
 refine L.va rfl (X.assign (by conv => lhs; whnf)) ?_
 refine L.nil ?_
 refine J.seq ?_
 refine J.region ?_
 refine L.va rfl (X.assign (by conv => lhs; whnf)) ?_
 refine L.nil ?_
 iterate 2 refine J.seq ?_
 refine J.region ?_
 refine L.va rfl (X.assign (by conv => lhs; whnf)) ?_
 refine L.nil ?_
 refine J.block ?_
 refine J.loop (X := Nat × Option Addr × Nat) [3, 4, 5, 6, 7, 8, 9, 10, 11, 12, 13, 14, 15, 16, 17, 18, 19, 20] (fun x => [(4, .int .i64 (x.1 : Int)), (3, .slice x.2.1 x.1 x.2.2)]) (fun x w' => x.1 ≤ nd ∧ w'.ownsRow w.heap.size 9 1 (.slice x.2.1 x.1 x.2.2) x.1 (strs ((ds.take x.1).map (·.1))) ∧ Blk w' b1 26 #[.slice Ad nd cd, .slice A1 n1 c1, .slice A2 n2 c2, .slice Av nv cv] ∧ Ext w w') (fun x => nd - x.1) ((0, none, 0)) (At2 (by first | rfl | exact at_int rfl (by omega) | exact at_slice rfl (by omega) | exact at_int rfl (by simp)) (by first | rfl | exact at_int rfl (by omega) | exact at_slice rfl (by omega) | exact at_int rfl (by simp))) ?_ ?_
 ·exact ⟨by dsimp only; omega, own_nil _ _ _ _, hk1, he1⟩
 ·rintro ⟨i, A, c⟩ g w2 ⟨hi, ho2, hk12, he2⟩
  dsimp only at hi ho2
  have q1 : ((i, A, c) : Nat × Option Addr × Nat).1 = i := rfl
  have hz2 := he2.le
  have hd2 := hd.ext he2
  iterate 2 refine J.seq ?_
  refine J.region ?_
  refine L.va rfl (X.move (by conv => lhs; whnf)) ?_
  refine L.va rfl (X.fieldAddr rfl Tryz.underlying26 rfl sz_22 (by decide)) ?_
  refine L.va rfl (X.load rfl sc_22 (by first | exact Ld.blk hk12 rfl | exact Ld.rd hd2 (by omega))) ?_
  refine L.va rfl (X.len rfl Tryz.underlying22) ?_
  refine L.va rfl (X.lss rfl rfl) ?_
  refine L.nil ?_
  refine J.dec rfl (fun hlt => ?_) (fun hlt => ?_)
  ·have hil : i < ds.length := by rw [hl]; dsimp only at hlt; omega
   refine J.skip ?_
   refine J.seq ?_
   refine J.block ?_
   refine J.region ?_
   refine L.va rfl (X.move (by conv => lhs; whnf)) ?_
   refine L.va rfl (X.fieldAddr rfl Tryz.underlying26 rfl sz_22 (by decide)) ?_
   refine L.va rfl (X.load rfl sc_22 (by first | exact Ld.blk hk12 rfl | exact Ld.rd hd2 (by omega))) ?_
   refine L.va rfl (X.move (by conv => lhs; whnf)) ?_
   refine L.va rfl ((by first | exact X.indexAddrn rfl rfl Tryz.underlying22 sz_54 (by first | exact Option.some_ne_none _ | exact hd2.some_ (by omega)) (by omega) | exact X.indexAddr rfl rfl Tryz.underlying22 sz_54 (by first | exact Option.some_ne_none _ | exact hd2.some_ (by omega)) (by omega))) ?_
   refine L.va rfl (X.fieldP rfl Tryz.underlying54 rfl sz_9 (by decide) (by first | exact Option.some_ne_none _ | exact hd2.some_ (by omega))) ?_
   refine L.va rfl (X.load rfl sc_9 (Ld.dimS hd2 (by omega))) ?_
   refine L.bslice (vs := [_]) rfl (Evs.cons (by conv => lhs; whnf) Evs.nil) rfl rfl rfl rfl Tryz.underlying23 sz_9 zr_9 (by decide) ?_
   intro b5 w5 hb5 hs5 hk5 he5
   have hz5 := he5.le
   have hkS := hk12
   refine L.appendV (q := i + 1) (ys := strs ((ds.take i).map (·.1)) ++ strs [(ds.getD i d0).1]) rfl rfl rfl Tryz.underlying23 el_9 (ho2.ext he5) ((blk_reads (q := 1) (l := strs [(ds.getD i d0).1]) hk5 (by omega : b5 < w5.heap.size) rfl)) (by first | rfl | exact strs_ones _ | assumption) (by omega) (by simp) (by unfold maxLen; omega) (by omega) ?_
   intro A6 c6 w6 ho6 hg6 hb6 hor6
   rw [strs_append, ← names_take hil] at ho6
   have he6 : Ext w w6 := (he2.trans he5).low hb6 (Nat.le_refl _)
   have hkS6 := (hkS.ext he5).grown hg6 (fun h => own_blk_ne (ho2.ext he5) (hkS.ext he5) (by decide) h.symm)
   refine L.va rfl (X.assign (by conv => lhs; whnf)) ?_
   refine L.nil ?_
   refine J.region ?_
   refine L.va rfl (X.move (by conv => lhs; whnf)) ?_
   refine L.va rfl (X.add rfl rfl (by omega)) ?_
   refine L.va rfl (X.assign (by conv => lhs; whnf)) ?_
   refine L.nil ?_
   refine ⟨(i + 1, A6, c6), At2 (by first | rfl | exact at_int rfl (by omega) | exact at_slice rfl (by omega) | exact at_int rfl (by simp)) (by first | rfl | exact at_int rfl (by omega) | exact at_slice rfl (by omega) | exact at_int rfl (by simp)), (by (iterate 18 refine Agr.lk rfl ?_); exact Agr.lk rfl (Agr.hav rfl Agr.rfl')), ?_⟩
   exact ⟨⟨by dsimp only; omega, ho6, hkS6, he6⟩, by dsimp only; omega⟩
  ·obtain rfl : i = nd := by dsimp only at hlt; omega
   rw [List.take_of_length_le (by omega)] at ho2
   have r1 := (h1.ext he2).here (by decide : 0 < 1)
   have r2 := (h2.ext he2).here (by decide : 0 < 1)
   refine J.exit ?_
   refine J.seq ?_
   have hne := own_blk_ne ho2 hk12 (by decide)
   refine J.draw (ℓ := 1000000) (S := (fun w' => w2.grownBy w' (Value.slice A i c).ownBlock)) mixed (fun w3 hSE hS_h => ?_)
   have hS : ((fun w' => w2.grownBy w' (Value.slice A i c).ownBlock)) w3 := grown_ext hSE
   refine D.va 0 rfl (by kernel_rfl) (fun _ _ _ h => h) rfl (fun w' hw => X.move (by conv => lhs; whnf)) hS ?_
   refine D.va 1 rfl (by kernel_rfl) (fun _ _ _ h => h) rfl (fun w' hw => X.fieldAddr rfl Tryz.underlying26 rfl sz_23 (by decide)) hS ?_
   refine D.va 2 rfl (by kernel_rfl) (fun _ _ _ h => h) rfl (fun w' hw => X.load rfl sc_23 (by first | exact Ld.blk (hk12.grown hw (fun h => hne h.symm)) rfl)) hS ?_
   refine D.va 4 rfl (by kernel_rfl) (fun _ _ _ h => h) rfl (fun w' hw => X.fieldAddr rfl Tryz.underlying26 rfl sz_23 (by decide)) hS ?_
   refine D.va 5 rfl (by kernel_rfl) (fun _ _ _ h => h) rfl (fun w' hw => X.load rfl sc_23 (by first | exact Ld.blk (hk12.grown hw (fun h => hne h.symm)) rfl)) hS ?_
   have hz3 := hSE.le
   refine D.one 3 (by kernel_rfl) rfl ?_
   refine L.appendV (q := i + n1) (ys := strs (ds.map (·.1)) ++ strs s1) rfl rfl rfl Tryz.underlying23 el_9 (ho2.ext hSE) ((r1.ext hSE).here (by decide)) (by first | rfl | exact strs_ones _ | assumption) (by omega) (by simp) (by unfold maxLen; omega) (by omega) ?_
   intro A3 c3 w4 ho3 hg3 hb3 hor3
   have hS1 := grb_trans hS hg3
   refine L.nil ?_
   refine ⟨fun _ => hS1, ?_⟩
   rw [strs_append] at ho3
   have he4 : Ext w w4 := (he2.trans hSE).low hb3 (Nat.le_refl _)
   have hz4 := he4.le
   refine D.one 6 (by kernel_rfl) rfl ?_
   refine L.appendV (q := i + n1 + n2) (ys := strs (ds.map (·.1) ++ s1) ++ strs s2) rfl rfl rfl Tryz.underlying23 el_9 (ho3) ((h2.ext he4).here (by decide)) (by first | rfl | exact strs_ones _ | assumption) (by omega) (by simp) (by unfold maxLen; omega) (by omega) ?_
   intro A4 c4 w5 ho4 hg4 hb4 hor4
   have hS2 := grb_new hS1 hg4 (by rcases hor3 with h | h; exact .inl h; exact .inr ⟨_, h, hz3⟩)
   refine L.nil ?_
   refine ⟨fun _ => hS2, ?_⟩
   rw [strs_append] at ho4
   refine D.va 7 rfl (by kernel_rfl) (fun _ _ _ h => h) rfl (fun w' hw => X.assign (by conv => lhs; whnf)) hS2 ?_
   refine D.done (by kernel_rfl) ?_
   replace hk12 := hk12.grown hS2 (fun h => hne h.symm)
   refine J.ret ?_
   refine fin1 ?_
   exact ⟨A4, c4, rfl, ho4, he4.low hb4 (Nat.le_refl _)⟩
end Go.Proofs.YtpomklkfedpkfaaGreat
namespace Go.Proofs.YtpomklkfedpkfaaGreat
set_option maxRecDepth 100000
open Go.RowKit H
set_option linter.unusedVariables false
theorem rfull_any (Ad : Option Addr) (nd cd : Nat) (v1 v2 v3 : Value) (w : World) (hnd : nd < 32) :
  Calls Tryz.prog 39 #[.agg #[.slice Ad nd cd, v1, v2, v3]] w fun e w' => e = .returned (.int .u32 ((2 ^ nd - 1 : Nat) : Int)) ∧ Ext w w' := by
 have hp : 1 ≤ 2 ^ nd ∧ 2 ^ nd ≤ 2 ^ 31 := ⟨Nat.pow_pos (by decide), Nat.pow_le_pow_right (by decide) (by omega)⟩
 have c1 := rtwo_any nd
 generalize 2 ^ nd = p at *
 have e : IntKind.u32.wrap ((p : Int) - 1) = ((p - 1 : Nat) : Int) := by rw [w32 (by omega)]; omega
 refine enter Tryz.func39 rfl (by kernel_rfl) ?_
 refine J.seq ?_
 refine J.region ?_
 refine L.boxA (l := [_, _, _, _]) rfl rfl ?_
 intro b1 w1 hb1 hs1 hk1 he1
 refine L.va rfl (X.assign (by conv => lhs; whnf)) ?_
 refine L.nil ?_
 refine J.seq ?_
 refine J.region ?_
 refine L.va rfl (X.fieldAddr rfl Tryz.underlying26 rfl sz_22 (by decide)) ?_
 refine L.va rfl (X.load rfl sc_22 (by first | exact Ld.blk hk1 rfl)) ?_
 refine L.va rfl (X.len rfl Tryz.underlying22) ?_
 refine L.call rfl en_43 rfl (c1 _ hnd) ?_
 rintro e _ ⟨rfl, rfl⟩
 refine ⟨_, rfl, ?_⟩
 refine L.va rfl (X.subw rfl rfl) ?_
 refine L.va rfl (X.assign (by conv => lhs; whnf)) ?_
 refine L.nil ?_
 refine J.ret ?_
 refine fin1 ?_
 rw [e]
 exact ⟨rfl, he1⟩
def kyP (ds : List (ByteArray × Int)) (m : Nat) : Nat → Int
  | 0 => 1
  | i + 1 => if m.testBit i then kyP ds m i * (ds.getD i d0).2 else kyP ds m i
theorem rkeys_any (Ad : Option Addr) (nd cd : Nat) (v1 v2 v3 : Value) (ds : List (ByteArray × Int)) (m : Nat) (w : World) (hd : Reads w w.heap.size 2 Ad nd (dimsV ds)) (hnd : nd ≤ 6) (hm : m < 4294967296) (hds : ∀ i, i < nd → 1 ≤ (ds.getD i d0).2 ∧ (ds.getD i d0).2 ≤ 4096) (hk : ∀ i, i ≤ nd → 0 ≤ kyP ds m i ∧ kyP ds m i ≤ 1099511627776) :
  Calls Tryz.prog 67 #[.agg #[.slice Ad nd cd, v1, v2, v3], .int .u32 (m : Int)] w fun e w' => e = .returned (.int .u64 (kyP ds m nd)) ∧ Ext w w' := by
 have hl : ds.length = nd := by have := hd.1; rw [dimsV_length] at this; omega
 refine enter Tryz.func67 rfl (by kernel_rfl) ?_
 refine J.seq ?_
 refine J.region ?_
 refine L.boxA (l := [_, _, _, _]) rfl rfl ?_
 intro b1 w1 hb1 hs1 hk1 he1
 have hd1 := hd.ext he1
 refine L.va rfl (X.assign (by conv => lhs; whnf)) ?_
 refine L.nil ?_
 refine J.seq ?_
 refine J.region ?_
 refine L.va rfl (X.assign (by conv => lhs; whnf)) ?_
 refine L.nil ?_
 iterate 2 refine J.seq ?_
 refine J.region ?_
 refine L.va rfl (X.assign (by conv => lhs; whnf)) ?_
 refine L.nil ?_
 refine J.block ?_
 refine J.loop (X := Nat × Int) [5, 6, 7, 8, 9, 10, 11, 12, 13, 14, 15, 16, 17, 18, 19, 20, 21, 22, 23, 24, 25] (fun x => [(6, .int .i64 (x.1 : Int)), (5, .int .u64 x.2)]) (fun x w' => w' = w1 ∧ x.1 ≤ nd ∧ x.2 = kyP ds m x.1) (fun x => nd - x.1) ((0, 1)) (At2 (by first | rfl | exact at_int rfl (by omega) | exact at_slice rfl (by omega) | exact at_int rfl (by simp)) (by first | rfl | exact at_int rfl (by omega) | exact at_slice rfl (by omega) | exact at_int rfl (by simp))) ?_ ?_
 ·exact ⟨rfl, by dsimp only; omega, rfl⟩
 ·rintro ⟨i, z⟩ g w2 ⟨rfl, hi, hz⟩
  dsimp only at hi hz
  have q1 : ((i, z) : Nat × Int).1 = i := rfl
  have q2 : ((i, z) : Nat × Int).2 = z := rfl
  iterate 2 refine J.seq ?_
  refine J.region ?_
  refine L.va rfl (X.move (by conv => lhs; whnf)) ?_
  refine L.va rfl (X.fieldAddr rfl Tryz.underlying26 rfl sz_22 (by decide)) ?_
  refine L.va rfl (X.load rfl sc_22 (by first | exact Ld.blk hk1 rfl | exact Ld.rd hd1 (by omega))) ?_
  refine L.va rfl (X.len rfl Tryz.underlying22) ?_
  refine L.va rfl (X.lss rfl rfl) ?_
  refine L.nil ?_
  refine J.dec rfl (fun hlt => ?_) (fun hlt => ?_)
  ·have hil : i < nd := by dsimp only at hlt; omega
   have hn : kyP ds m (i + 1) = if m.testBit i then kyP ds m i * (ds.getD i d0).2 else kyP ds m i := rfl
   have hb := hk (i + 1) (by omega)
   have hbd := hds i hil
   refine J.skip ?_
   refine J.seq ?_
   refine J.block ?_
   refine J.seq ?_
   refine J.region ?_
   iterate 2 refine L.va rfl (X.move (by conv => lhs; whnf)) ?_
   refine L.call rfl en_42 rfl (rin_any m i _ hm (by omega)) ?_
   rintro e _ ⟨rfl, rfl⟩
   refine ⟨_, rfl, ?_⟩
   cases ht : m.testBit i
   ·rw [ht] at hn
    refine L.nil ?_
    refine J.iteF rfl ?_
    refine J.skip ?_
    refine J.region ?_
    refine L.va rfl (X.move (by conv => lhs; whnf)) ?_
    refine L.va rfl (X.add rfl rfl (by omega)) ?_
    refine L.va rfl (X.assign (by conv => lhs; whnf)) ?_
    refine L.nil ?_
    refine ⟨(i + 1, z), At2 (by first | rfl | exact at_int rfl (by omega) | exact at_slice rfl (by omega) | exact at_int rfl (by simp)) (by first | rfl | exact at_int rfl (by omega) | exact at_slice rfl (by omega) | exact at_int rfl (by simp)), (by (iterate 11 refine Agr.lk rfl ?_); exact Agr.lk rfl (Agr.hav rfl Agr.rfl')), ?_⟩
    exact ⟨⟨rfl, by dsimp only; omega, by dsimp only; rw [hn, hz]; rfl⟩, by dsimp only; omega⟩
   ·rw [ht, if_pos rfl, ← hz] at hn
    rw [hn] at hb
    have hbd' : 1 ≤ (ds.getD ((i, z) : Nat × Int).1 d0).2 ∧ (ds.getD ((i, z) : Nat × Int).1 d0).2 ≤ 4096 := hbd
    have hb' : 0 ≤ ((i, z) : Nat × Int).2 * (ds.getD ((i, z) : Nat × Int).1 d0).2 ∧ ((i, z) : Nat × Int).2 * (ds.getD ((i, z) : Nat × Int).1 d0).2 ≤ 1099511627776 := hb
    refine L.nil ?_
    refine J.iteT rfl ?_
    refine J.region ?_
    refine L.va rfl (X.move (by conv => lhs; whnf)) ?_
    refine L.va rfl (X.fieldAddr rfl Tryz.underlying26 rfl sz_22 (by decide)) ?_
    refine L.va rfl (X.load rfl sc_22 (by first | exact Ld.blk hk1 rfl | exact Ld.rd hd1 (by omega))) ?_
    refine L.va rfl (X.move (by conv => lhs; whnf)) ?_
    refine L.va rfl ((by first | exact X.indexAddrn rfl rfl Tryz.underlying22 sz_54 (by first | exact Option.some_ne_none _ | exact hd1.some_ (by omega)) (by omega) | exact X.indexAddr rfl rfl Tryz.underlying22 sz_54 (by first | exact Option.some_ne_none _ | exact hd1.some_ (by omega)) (by omega))) ?_
    refine L.va rfl (X.fieldP rfl Tryz.underlying54 rfl sz_3 (by decide) (by first | exact Option.some_ne_none _ | exact hd1.some_ (by omega))) ?_
    refine L.va rfl (X.load rfl sc_3 (Ld.dimN hd1 (by omega))) ?_
    refine L.va rfl ((by first | exact X.convU rfl is_3 Tryz.underlying48 (by omega) | exact X.convw rfl is_3 Tryz.underlying48)) ?_
    refine L.va rfl (X.mulU rfl rfl (by omega)) ?_
    refine L.va rfl (X.assign (by conv => lhs; whnf)) ?_
    refine L.nil ?_
    refine J.region ?_
    refine L.va rfl (X.move (by conv => lhs; whnf)) ?_
    refine L.va rfl (X.add rfl rfl (by omega)) ?_
    refine L.va rfl (X.assign (by conv => lhs; whnf)) ?_
    refine L.nil ?_
    refine ⟨(i + 1, z * (ds.getD i d0).2), At2 (by first | rfl | exact at_int rfl (by omega) | exact at_slice rfl (by omega) | exact at_int rfl (by simp)) (by first | rfl | exact at_int rfl (by omega) | exact at_slice rfl (by omega) | exact at_int rfl (by simp)), (by (iterate 21 refine Agr.lk rfl ?_); exact Agr.lk rfl (Agr.hav rfl Agr.rfl')), ?_⟩
    exact ⟨⟨rfl, by dsimp only; omega, hn.symm⟩, by dsimp only; omega⟩
  ·obtain rfl : i = nd := by dsimp only at hlt; omega
   rw [← hz]
   refine J.exit ?_
   refine J.seq ?_
   refine J.region ?_
   refine L.va rfl (X.move (by conv => lhs; whnf)) ?_
   refine L.va rfl (X.assign (by conv => lhs; whnf)) ?_
   refine L.nil ?_
   refine J.ret ?_
   refine fin1 ?_
   exact ⟨rfl, he1⟩
end Go.Proofs.YtpomklkfedpkfaaGreat
namespace Go.Proofs.YtpomklkfedpkfaaGreat
set_option maxRecDepth 100000
open Go.RowKit H
set_option linter.unusedVariables false
theorem light11 (Ad : Option Addr) (nd cd : Nat) (A1 : Option Addr) (n1 c1 : Nat) (A2 : Option Addr) (n2 c2 : Nat) (Av : Option Addr) (nv cv : Nat) (ds : List (ByteArray × Int)) (s1 s2 : List ByteArray) (w : World)
  (hd : Reads w w.heap.size 2 Ad nd (dimsV ds)) (h1 : Reads w w.heap.size 1 A1 n1 (strs s1)) (h2 : Reads w w.heap.size 1 A2 n2 (strs s2)) :
  Calls Tryz.prog 4 #[.agg #[.slice Ad nd cd, .slice A1 n1 c1, .slice A2 n2 c2, .slice Av nv cv]] w fun e w' => ∃ b, e = .returned (.bool b) ∧ (b = true → nd ≤ 100 ∧ n1 ≤ 100 ∧ n2 ≤ 100 ∧ nv ≤ 100) ∧ Ext w w' := by
 refine enter Tryz.func4 rfl (by kernel_rfl) ?_
 refine J.seq ?_
 refine J.region ?_
 refine L.boxA (l := [_, _, _, _]) rfl rfl ?_
 intro b1 w1 hb1 hs1 hk1 he1
 refine L.va rfl (X.assign (by conv => lhs; whnf)) ?_
 refine L.nil ?_
 iterate 2 refine J.seq ?_
 refine J.region ?_
 refine L.va rfl (X.fieldAddr rfl Tryz.underlying26 rfl sz_22 (by decide)) ?_
 refine L.va rfl (X.load rfl sc_22 (by first | exact Ld.blk hk1 rfl)) ?_
 refine L.va rfl (X.len rfl Tryz.underlying22) ?_
 refine L.va rfl (X.gtr rfl rfl) ?_
 refine L.va rfl (X.move (by conv => lhs; whnf)) ?_
 refine L.caseDec (k := 9) rfl (fun a1 => ?_) (fun a1 => ?_)
 ·refine L.no rfl ?_
  iterate 3 refine L.no rfl ?_
  refine L.va rfl (X.pickT rfl (by conv => lhs; whnf)) ?_
  refine L.va rfl (X.move (by conv => lhs; whnf)) ?_
  iterate 4 refine L.no rfl ?_
  refine L.va rfl (X.pickT rfl (by conv => lhs; whnf)) ?_
  refine L.va rfl (X.move (by conv => lhs; whnf)) ?_
  iterate 4 refine L.no rfl ?_
  refine L.va rfl (X.pickT rfl (by conv => lhs; whnf)) ?_
  refine L.nil ?_
  refine J.iteT rfl ?_
  refine J.seq ?_
  refine J.region ?_
  refine L.va rfl (X.assign (by conv => lhs; whnf)) ?_
  refine L.nil ?_
  refine J.ret ?_
  refine thn_ret <| ?_
  refine fin1 ?_
  exact ⟨false, rfl, by simp, he1⟩
 ·refine L.va rfl (X.fieldAddr rfl Tryz.underlying26 rfl sz_23 (by decide)) ?_
  refine L.va rfl (X.load rfl sc_23 (by first | exact Ld.blk hk1 rfl)) ?_
  refine L.va rfl (X.len rfl Tryz.underlying23) ?_
  refine L.va rfl (X.gtr rfl rfl) ?_
  refine L.va rfl (X.pickF rfl (by conv => lhs; whnf)) ?_
  refine L.va rfl (X.move (by conv => lhs; whnf)) ?_
  refine L.caseDec (k := 15) rfl (fun a2 => ?_) (fun a2 => ?_)
  ·refine L.no rfl ?_
   iterate 3 refine L.no rfl ?_
   refine L.va rfl (X.pickT rfl (by conv => lhs; whnf)) ?_
   refine L.va rfl (X.move (by conv => lhs; whnf)) ?_
   iterate 4 refine L.no rfl ?_
   refine L.va rfl (X.pickT rfl (by conv => lhs; whnf)) ?_
   refine L.nil ?_
   refine J.iteT rfl ?_
   refine J.seq ?_
   refine J.region ?_
   refine L.va rfl (X.assign (by conv => lhs; whnf)) ?_
   refine L.nil ?_
   refine J.ret ?_
   refine thn_ret <| ?_
   refine fin1 ?_
   exact ⟨false, rfl, by simp, he1⟩
  ·refine L.va rfl (X.fieldAddr rfl Tryz.underlying26 rfl sz_23 (by decide)) ?_
   refine L.va rfl (X.load rfl sc_23 (by first | exact Ld.blk hk1 rfl)) ?_
   refine L.va rfl (X.len rfl Tryz.underlying23) ?_
   refine L.va rfl (X.gtr rfl rfl) ?_
   refine L.va rfl (X.pickF rfl (by conv => lhs; whnf)) ?_
   refine L.va rfl (X.move (by conv => lhs; whnf)) ?_
   refine L.caseDec (k := 21) rfl (fun a3 => ?_) (fun a3 => ?_)
   ·refine L.no rfl ?_
    iterate 3 refine L.no rfl ?_
    refine L.va rfl (X.pickT rfl (by conv => lhs; whnf)) ?_
    refine L.nil ?_
    refine J.iteT rfl ?_
    refine J.seq ?_
    refine J.region ?_
    refine L.va rfl (X.assign (by conv => lhs; whnf)) ?_
    refine L.nil ?_
    refine J.ret ?_
    refine thn_ret <| ?_
    refine fin1 ?_
    exact ⟨false, rfl, by simp, he1⟩
   ·refine L.va rfl (X.fieldAddr rfl Tryz.underlying26 rfl sz_24 (by decide)) ?_
    refine L.va rfl (X.load rfl sc_24 (by first | exact Ld.blk hk1 rfl)) ?_
    refine L.va rfl (X.len rfl Tryz.underlying24) ?_
    refine L.va rfl (X.gtr rfl rfl) ?_
    refine L.va rfl (X.pickF rfl (by conv => lhs; whnf)) ?_
    refine L.nil ?_
    refine J.dec rfl (fun a4 => ?_) (fun a4 => ?_)
    ·refine J.seq ?_
     refine J.region ?_
     refine L.va rfl (X.assign (by conv => lhs; whnf)) ?_
     refine L.nil ?_
     refine J.ret ?_
     refine thn_ret <| ?_
     refine fin1 ?_
     exact ⟨false, rfl, by simp, he1⟩
    ·refine J.skip ?_
     refine J.seq ?_
     refine J.region ?_
     refine L.va rfl ((by first | exact X.loadAgg rfl (range_l hk1) Tryz.underlying26 rfl (by kernel_rfl) | exact X.loadAgg rfl (range_blk hk1) Tryz.underlying26 rfl (by kernel_rfl))) ?_
     refine L.call rfl en_11 rfl (rnames_any Ad nd cd A1 n1 c1 A2 n2 c2 Av nv cv ds s1 s2 _ ((hd.ext he1).here (by decide)) ((h1.ext he1).here (by decide)) ((h2.ext he1).here (by decide)) (by omega) (by omega) (by omega)) ?_
     rintro e w2 ⟨A, c, rfl, ho, he2⟩
     refine ⟨_, rfl, ?_⟩
     have he2 : Ext w1 w2 := he2
     refine L.va rfl (X.assign (by conv => lhs; whnf)) ?_
     refine L.nil ?_
     iterate 2 refine J.seq ?_
     refine J.region ?_
     refine L.va rfl (X.assign (by conv => lhs; whnf)) ?_
     refine L.nil ?_
     refine J.block ?_
     refine J.loop (X := Nat) [2, 4, 29, 30, 31, 32, 33, 34, 35, 36, 37, 38, 39, 40] (fun i => [(4, .int .i64 (i : Int))]) (fun i w' => w' = w2 ∧ i ≤ nd + n1 + n2) (fun i => nd + n1 + n2 - i) (0) (At1 (by first | rfl | exact at_int rfl (by omega) | exact at_slice rfl (by omega) | exact at_int rfl (by simp))) ?_ ?_
     ·exact ⟨rfl, by omega⟩
     ·rintro i g w3 ⟨rfl, hi⟩
      iterate 2 refine J.seq ?_
      refine J.region ?_
      iterate 2 refine L.va rfl (X.move (by conv => lhs; whnf)) ?_
      refine L.va rfl (X.len rfl Tryz.underlying23) ?_
      refine L.va rfl (X.lss rfl rfl) ?_
      refine L.nil ?_
      refine J.dec rfl (fun hlt => ?_) (fun hlt => ?_)
      ·refine J.skip ?_
       refine J.seq ?_
       refine J.block ?_
       refine J.seq ?_
       refine J.region ?_
       iterate 2 refine L.va rfl (X.move (by conv => lhs; whnf)) ?_
       refine L.va rfl ((by first | exact X.index1n rfl rfl Tryz.underlying23 sz_9 (by first | exact Option.some_ne_none _ | exact own_ne ho (by omega)) (by omega) | exact X.index1 rfl rfl Tryz.underlying23 sz_9 (by first | exact Option.some_ne_none _ | exact own_ne ho (by omega)) (by omega))) ?_
       refine L.va rfl (X.load rfl sc_9 (by first | exact Ld.ostr ho (by omega))) ?_
       refine L.va rfl (X.lens rfl Tryz.underlying9) ?_
       refine L.va rfl (X.gtr rfl rfl) ?_
       refine L.nil ?_
       refine J.dec rfl (fun a5 => ?_) (fun a5 => ?_)
       ·refine J.seq ?_
        refine J.region ?_
        refine L.va rfl (X.assign (by conv => lhs; whnf)) ?_
        refine L.nil ?_
        refine J.ret ?_
        refine inB_ret <|  thn_ret <|  thn_ret <|  inB_ret <|  thn_ret <| ?_
        refine fin1 ?_
        exact ⟨false, rfl, by simp, he1.trans he2⟩
       ·refine J.skip ?_
        refine J.region ?_
        refine L.va rfl (X.move (by conv => lhs; whnf)) ?_
        refine L.va rfl (X.add rfl rfl (by omega)) ?_
        refine L.va rfl (X.assign (by conv => lhs; whnf)) ?_
        refine L.nil ?_
        refine ⟨i + 1, At1 (by first | rfl | exact at_int rfl (by omega) | exact at_slice rfl (by omega) | exact at_int rfl (by simp)), (by (iterate 13 refine Agr.lk rfl ?_); exact Agr.lk rfl (Agr.hav rfl Agr.rfl')), ?_⟩
        exact ⟨⟨rfl, by omega⟩, by omega⟩
      ·refine J.exit ?_
       refine J.seq ?_
       refine J.region ?_
       refine L.va rfl (X.assign (by conv => lhs; whnf)) ?_
       refine L.nil ?_
       refine J.ret ?_
       refine fin1 ?_
       exact ⟨true, rfl, fun _ => ⟨by omega, by omega, by omega, by omega⟩, he1.trans he2⟩
end Go.Proofs.YtpomklkfedpkfaaGreat
