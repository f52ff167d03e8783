/-
  The law OrderRows, walked.
-/
import Derived.Test.YtmnlaekcojblkaaWOrdK
namespace Go.Proofs.Ytmnlaekcojblkaa
set_option maxRecDepth 100000
open Go.RowKit H
open Odr Tou Flo
set_option linter.unusedVariables false
theorem pos_congr {R R' : Nat → Nat → Bool} {n i : Nat} (h : ∀ j, j < n → R j i = R' j i) : pos R n i = pos R' n i :=
  List.countP_congr fun j hj => by rw [h j (List.mem_range.1 hj)]
def mk1 (A : Option Addr) (z : Int) : Rw := ⟨none, 0, 0, [], A, 1, 1, [⟨false, z, 0⟩]⟩
theorem mk_less (A B : Option Addr) (p q : Int) : lessO [(0, true)] (mk1 A p) (mk1 B q) = decide (q < p) := by
  have e1 : ∀ C z, valAt (mk1 C z) 0 = ⟨false, z, 0⟩ := fun C z => rfl
  have e2 : ∀ a b : Int, aheadV ⟨false, a, 0⟩ ⟨false, b, 0⟩ = decide (a < b) := fun a b => by simp [aheadV]
  have e3 : lessL (mk1 A p).c (mk1 B q).c = false := rfl
  simp only [lessO, e1, e2, e3, decide_eq_true_eq]
  by_cases h : p < q
  · rw [if_pos (.inl h), decide_eq_true h, decide_eq_false (by omega)]; rfl
  · by_cases h2 : q < p
    · rw [if_pos (.inr h2), decide_eq_false h, decide_eq_true h2]; rfl
    · rw [if_neg (by omega), decide_eq_false h2]
def xs33 : List Int := [1, 3, 2]
def R33 (a b : Nat) : Bool := decide (xs33.getD b 0 < xs33.getD a 0) || (!decide (xs33.getD a 0 < xs33.getD b 0) && decide (a < b))
theorem ah33 (A B C : Option Addr) {a b : Nat} (ha : a < 3) (hb : b < 3) : ahL ([mk1 A 1, mk1 B 3, mk1 C 2].map (keyO [(0, true)])) a b = R33 a b := by
  have hx : ∀ i, i < 3 → ∃ D, ([mk1 A 1, mk1 B 3, mk1 C 2].map (keyO [(0, true)])).getD i [] = keyO [(0, true)] (mk1 D (xs33.getD i 0)) := fun i hi => by
    rcases (by omega : i = 0 ∨ i = 1 ∨ i = 2) with rfl | rfl | rfl
    · exact ⟨A, rfl⟩
    · exact ⟨B, rfl⟩
    · exact ⟨C, rfl⟩
  obtain ⟨D, h1⟩ := hx a ha
  obtain ⟨E, h2⟩ := hx b hb
  unfold ahL R33
  rw [h1, h2, less_key, less_key, mk_less, mk_less]
theorem first33 (A B C : Option Addr) : Firsts (ahL ([mk1 A 1, mk1 B 3, mk1 C 2].map (keyO [(0, true)]))) 3 3 [1, 2, 0] := by
  have h : ∀ i, i < 3 → pos (ahL ([mk1 A 1, mk1 B 3, mk1 C 2].map (keyO [(0, true)]))) 3 i = pos R33 3 i := fun i hi => pos_congr fun j hj => ah33 A B C hj hi
  refine ⟨rfl, fun j hj => ?_⟩
  rcases (by omega : j = 0 ∨ j = 1 ∨ j = 2) with rfl | rfl | rfl
  · exact ⟨by decide, by decide, (h 1 (by decide)).trans (by decide)⟩
  · exact ⟨by decide, by decide, (h 2 (by decide)).trans (by decide)⟩
  · exact ⟨by decide, by decide, (h 0 (by decide)).trans (by decide)⟩
theorem le_maxL {n : Nat} (h : n ≤ 100) : n ≤ maxLen := by unfold maxLen; omega
theorem mk_at {w : World} {b : Nat} {z : Int} (hk : Blk w b 102 #[.bool false, .int .i64 z, .float .f64 0]) : (mk1 (some ⟨b, 0, none⟩) z).At w.heap.size w :=
  ⟨Reads.none_, blk_readsN (sz := 3) (q := 1) (l := [.bool false, .int .i64 z, .float .f64 0]) hk hk.lt rfl, (by intro v hv; rw [show v = ⟨false, z, 0⟩ from by simpa [mk1] using hv]; show 0 < 18446744073709551616; decide), rfl, le_maxL (n := 0) (by decide), le_maxL (n := 1) (by decide)⟩
theorem mk_ok {A : Option Addr} {z : Int} (h : okN z) : (mk1 A z).Ok :=
  ⟨by intro v hv; rw [show v = ⟨false, z, 0⟩ from by simpa [mk1] using hv]; exact h, by intro v hv; cases hv⟩
theorem awake33 (w : World) : Calls Try.prog 16 #[] w fun e w' => e = .returned (.bool true) ∧ Ext w w' := by
  refine enter Try.func16 rfl (by kernel_rfl) ?_
  -- t2
  -- t4
  -- t7
  -- t10
  refine J.seq ?_
  refine J.region ?_
  refine L.va rfl (X.assign (by conv => lhs; whnf)) ?_
  refine L.nil ?_
  refine J.seq ?_
  refine J.region ?_
  refine L.va rfl (X.build (l := [.int .i64 0, .bool true]) (Evs.cons rfl Evs.nil) (bld_run Try.underlying99 (bp_99 Try.underlying99) zr_99 rfl)) ?_
  -- buildSlice
  refine L.bslice1 (l := [_, _]) rfl rfl rfl Try.underlying22 sz_99 zr_99 rfl ?_
  intro b1 w1 hb1 hs1 hk1 he1
  refine L.va rfl (X.build (l := [.bool false, .int .i64 1, .float .f64 0]) (Evs.cons rfl Evs.nil) (bld_run Try.underlying102 (bp_102 Try.underlying102) zr_102 rfl)) ?_
  -- buildSlice
  refine L.bslice1 (l := [_, _, _]) rfl rfl rfl Try.underlying30 sz_102 zr_102 rfl ?_
  intro b2 w2 hb2 hs2 hk2 he2
  -- t6
  refine L.va rfl (X.build (l := [.slice none 0 0, .slice (some ⟨b2, 0, none⟩) 1 1]) (Evs.cons rfl Evs.nil) (bld_run Try.underlying32 (bp_32 Try.underlying32) zr_32 rfl)) ?_
  refine L.va rfl (X.build (l := [.bool false, .int .i64 3, .float .f64 0]) (Evs.cons rfl Evs.nil) (bld_run Try.underlying102 (bp_102 Try.underlying102) zr_102 rfl)) ?_
  -- buildSlice
  refine L.bslice1 (l := [_, _, _]) rfl rfl rfl Try.underlying30 sz_102 zr_102 rfl ?_
  intro b3 w3 hb3 hs3 hk3 he3
  -- t9
  refine L.va rfl (X.build (l := [.slice none 0 0, .slice (some ⟨b3, 0, none⟩) 1 1]) (Evs.cons rfl Evs.nil) (bld_run Try.underlying32 (bp_32 Try.underlying32) zr_32 rfl)) ?_
  refine L.va rfl (X.build (l := [.bool false, .int .i64 2, .float .f64 0]) (Evs.cons rfl Evs.nil) (bld_run Try.underlying102 (bp_102 Try.underlying102) zr_102 rfl)) ?_
  -- buildSlice
  refine L.bslice1 (l := [_, _, _]) rfl rfl rfl Try.underlying30 sz_102 zr_102 rfl ?_
  intro b4 w4 hb4 hs4 hk4 he4
  -- t12
  refine L.va rfl (X.build (l := [.slice none 0 0, .slice (some ⟨b4, 0, none⟩) 1 1]) (Evs.cons rfl Evs.nil) (bld_run Try.underlying32 (bp_32 Try.underlying32) zr_32 rfl)) ?_
  -- buildSlice
  refine L.bsliceR (ls := [[_, _], [_, _], [_, _]]) rfl (Evs.cons (by conv => lhs; whnf) (Evs.cons (by conv => lhs; whnf) (Evs.cons (by conv => lhs; whnf) Evs.nil))) rfl rfl rfl rfl Try.underlying23 sz_32 zr_32 (by decide) ?_
  intro b5 w5 hb5 hs5 hk5 he5
  have hk4' := hk4.ext he5
  have hk3' := hk3.ext (he4.trans he5)
  have hk2' := hk2.ext ((he3.trans he4).trans he5)
  have hx1 := ((he2.trans he3).trans he4).trans he5
  have hk1' := hk1.ext hx1
  have he05 := he1.trans hx1
  obtain ⟨s, hs⟩ : ∃ s : Rws, s = ⟨some ⟨b5, 0, none⟩, 3, 3, [mk1 (some ⟨b2, 0, none⟩) 1, mk1 (some ⟨b3, 0, none⟩) 3, mk1 (some ⟨b4, 0, none⟩) 2]⟩ := ⟨_, rfl⟩
  have hA : s.At w5.heap.size w5 := by
    rw [hs]
    refine ⟨?_, ?_, rfl, le_maxL (n := 3) (by decide)⟩
    · exact blk_readsN (sz := 2) (q := 3) hk5 hk5.lt rfl
    · intro x hx
      simp only [List.mem_cons, List.not_mem_nil, or_false] at hx
      rcases hx with rfl | rfl | rfl
      · exact mk_at hk2'
      · exact mk_at hk3'
      · exact mk_at hk4'
  have hLs : s.Light := by
    rw [hs]
    refine ⟨by show 3 ≤ 60; decide, ?_⟩
    intro x hx
    simp only [List.mem_cons, List.not_mem_nil, or_false] at hx
    rcases hx with rfl | rfl | rfl <;> exact ⟨by show 0 ≤ 20; decide, by show 1 ≤ 30; decide⟩
  have hOk : ∀ x ∈ s.l, x.Ok := by
    rw [hs]
    intro x hx
    simp only [List.mem_cons, List.not_mem_nil, or_false] at hx
    rcases hx with rfl | rfl | rfl <;> exact mk_ok (by unfold okN; decide)
  have c1 : Calls Try.prog 18 #[.slice (some ⟨b1, 0, none⟩) 1 1, s.val, .int .i64 0] w5 (OrRows s [(0, true)] 0 w5) := orows (some ⟨b1, 0, none⟩) 1 1 [(0, true)] s 0 w5 (blk_readsN (sz := 2) (q := 1) (l := [.int .i64 0, .bool true]) hk1' hk1'.lt rfl) rfl (by decide) hA hLs hOk
  rw [show s.val = .slice (some ⟨b5, 0, none⟩) 3 3 by rw [hs]] at c1
  -- callfn bushel/order.Rows
  refine L.call rfl en_18 rfl (c1) ?_
  rintro e w6 ⟨A6, m6, c6, l6, z6, rfl, ho6, hl6, hL6, hS6, hF6, hm6, he6⟩
  refine ⟨_, rfl, ?_⟩
  rw [hs] at hF6 hm6 hS6
  obtain rfl : m6 = 3 := hm6
  obtain rfl : z6 = [1, 2, 0] := hF6.unique (ahL_ord _) (first33 _ _ _)
  obtain ⟨x, y, v, rfl⟩ : ∃ x y v, l6 = [x, y, v] := by
    match l6, hl6 with
    | [x, y, v], _ => exact ⟨x, y, v, rfl⟩
  have hro := Reads.of_own ho6
  have hx := hL6 x (by simp)
  have hv := hL6 v (by simp)
  have ex : x.v = [⟨false, 3, 0⟩] := congrArg Prod.snd (List.cons.inj hS6).1
  have ev : v.v = [⟨false, 1, 0⟩] := congrArg Prod.snd (List.cons.inj (List.cons.inj (List.cons.inj hS6).2).2).1
  obtain ⟨xA, xn, xd, xc, xB, xm, xe, xv⟩ := x
  obtain ⟨vA, vn, vd, vc, vB, vm, ve, vv⟩ := v
  dsimp only at ex ev
  subst ex ev
  obtain rfl : 1 = xm := hx.lv
  obtain rfl : 1 = vm := hv.lv
  have rx : Reads w6 w6.heap.size 3 xB 1 (([⟨false, 3, 0⟩] : List Vl).flatMap Vl.vs) := hx.at.hv
  have rv : Reads w6 w6.heap.size 3 vB 1 (([⟨false, 1, 0⟩] : List Vl).flatMap Vl.vs) := hv.at.hv
  have hA6 := hro.some_ (by decide)
  have l0 : Ld w6 (pA A6 (0 * 2 + 1)) (.slice xB 1 xe) := Ld.flat2 rw_len hro (i := 0) rfl (r := 1) rfl
  have l2 : Ld w6 (pA A6 (2 * 2 + 1)) (.slice vB 1 ve) := Ld.flat2 rw_len hro (i := 2) rfl (r := 1) rfl
  have lx : Ld w6 (pA xB (0 * 3 + 1)) (.int .i64 3) := Ld.flat2 vs_len rx (i := 0) rfl (r := 1) rfl
  have lv : Ld w6 (pA vB (0 * 3 + 1)) (.int .i64 1) := Ld.flat2 vs_len rv (i := 0) rfl (r := 1) rfl
  have hAx := rx.some_ (by decide)
  have hAv := rv.some_ (by decide)
  refine L.va rfl (X.assign (by conv => lhs; whnf)) ?_
  refine L.nil ?_
  refine J.seq ?_
  refine J.region ?_
  refine L.va rfl (X.move (by conv => lhs; whnf)) ?_
  refine L.va rfl (X.len rfl Try.underlying23) ?_
  refine L.va rfl (X.eql rfl rfl) ?_
  refine L.va rfl (X.move (by conv => lhs; whnf)) ?_
  -- case t18
  refine L.caseDecT (k := 18) rfl (by rfl) ?_
  refine L.va rfl (X.move (by conv => lhs; whnf)) ?_
  refine L.va rfl (X.indexAddrn (j := 0) rfl rfl Try.underlying23 sz_32 (by first | exact Option.some_ne_none _ | exact hA6 | exact hAx | exact hAv | exact l0 | exact l2 | exact lx | exact lv) (by omega)) ?_
  refine L.va rfl (X.fieldP rfl Try.underlying32 rfl sz_30 (by decide) (by first | exact Option.some_ne_none _ | exact hA6 | exact hAx | exact hAv | exact l0 | exact l2 | exact lx | exact lv)) ?_
  refine L.va rfl (X.load rfl sc_30 (by first | exact hA6 | exact hAx | exact hAv | exact l0 | exact l2 | exact lx | exact lv)) ?_
  refine L.va rfl (X.len rfl Try.underlying30) ?_
  refine L.va rfl (X.eql rfl rfl) ?_
  refine L.va rfl (X.pickT rfl (by conv => lhs; whnf)) ?_
  refine L.va rfl (X.move (by conv => lhs; whnf)) ?_
  -- case t26
  refine L.caseDecT (k := 26) rfl (by rfl) ?_
  refine L.va rfl (X.move (by conv => lhs; whnf)) ?_
  refine L.va rfl (X.indexAddrn (j := 0) rfl rfl Try.underlying23 sz_32 (by first | exact Option.some_ne_none _ | exact hA6 | exact hAx | exact hAv | exact l0 | exact l2 | exact lx | exact lv) (by omega)) ?_
  refine L.va rfl (X.fieldP rfl Try.underlying32 rfl sz_30 (by decide) (by first | exact Option.some_ne_none _ | exact hA6 | exact hAx | exact hAv | exact l0 | exact l2 | exact lx | exact lv)) ?_
  refine L.va rfl (X.load rfl sc_30 (by first | exact hA6 | exact hAx | exact hAv | exact l0 | exact l2 | exact lx | exact lv)) ?_
  refine L.va rfl (X.indexAddrn (j := 0) rfl rfl Try.underlying30 sz_102 (by first | exact Option.some_ne_none _ | exact hA6 | exact hAx | exact hAv | exact l0 | exact l2 | exact lx | exact lv) (by omega)) ?_
  refine L.va rfl (X.fieldP rfl Try.underlying102 rfl sz_2 (by decide) (by first | exact Option.some_ne_none _ | exact hA6 | exact hAx | exact hAv | exact l0 | exact l2 | exact lx | exact lv)) ?_
  refine L.va rfl (X.load rfl sc_2 (by first | exact hA6 | exact hAx | exact hAv | exact l0 | exact l2 | exact lx | exact lv)) ?_
  refine L.va rfl (X.eql rfl rfl) ?_
  refine L.va rfl (X.pickT rfl (by conv => lhs; whnf)) ?_
  refine L.va rfl (X.move (by conv => lhs; whnf)) ?_
  -- case t36
  refine L.caseDecT (k := 36) rfl (by rfl) ?_
  refine L.va rfl (X.move (by conv => lhs; whnf)) ?_
  refine L.va rfl (X.indexAddrn (j := 2) rfl rfl Try.underlying23 sz_32 (by first | exact Option.some_ne_none _ | exact hA6 | exact hAx | exact hAv | exact l0 | exact l2 | exact lx | exact lv) (by omega)) ?_
  refine L.va rfl (X.fieldP rfl Try.underlying32 rfl sz_30 (by decide) (by first | exact Option.some_ne_none _ | exact hA6 | exact hAx | exact hAv | exact l0 | exact l2 | exact lx | exact lv)) ?_
  refine L.va rfl (X.load rfl sc_30 (by first | exact hA6 | exact hAx | exact hAv | exact l0 | exact l2 | exact lx | exact lv)) ?_
  refine L.va rfl (X.len rfl Try.underlying30) ?_
  refine L.va rfl (X.eql rfl rfl) ?_
  refine L.va rfl (X.pickT rfl (by conv => lhs; whnf)) ?_
  refine L.va rfl (X.move (by conv => lhs; whnf)) ?_
  -- case t44
  refine L.caseDecT (k := 44) rfl (by rfl) ?_
  refine L.va rfl (X.move (by conv => lhs; whnf)) ?_
  refine L.va rfl (X.indexAddrn (j := 2) rfl rfl Try.underlying23 sz_32 (by first | exact Option.some_ne_none _ | exact hA6 | exact hAx | exact hAv | exact l0 | exact l2 | exact lx | exact lv) (by omega)) ?_
  refine L.va rfl (X.fieldP rfl Try.underlying32 rfl sz_30 (by decide) (by first | exact Option.some_ne_none _ | exact hA6 | exact hAx | exact hAv | exact l0 | exact l2 | exact lx | exact lv)) ?_
  refine L.va rfl (X.load rfl sc_30 (by first | exact hA6 | exact hAx | exact hAv | exact l0 | exact l2 | exact lx | exact lv)) ?_
  refine L.va rfl (X.indexAddrn (j := 0) rfl rfl Try.underlying30 sz_102 (by first | exact Option.some_ne_none _ | exact hA6 | exact hAx | exact hAv | exact l0 | exact l2 | exact lx | exact lv) (by omega)) ?_
  refine L.va rfl (X.fieldP rfl Try.underlying102 rfl sz_2 (by decide) (by first | exact Option.some_ne_none _ | exact hA6 | exact hAx | exact hAv | exact l0 | exact l2 | exact lx | exact lv)) ?_
  refine L.va rfl (X.load rfl sc_2 (by first | exact hA6 | exact hAx | exact hAv | exact l0 | exact l2 | exact lx | exact lv)) ?_
  refine L.va rfl (X.eql rfl rfl) ?_
  refine L.va rfl (X.pickT rfl (by conv => lhs; whnf)) ?_
  refine L.va rfl (X.assign (by conv => lhs; whnf)) ?_
  refine L.nil ?_
  -- ret
  refine J.ret ?_
  refine fin1 ?_
  exact ⟨rfl, he05.trans he6⟩
theorem Fl.lt (x : Fl) : x.b < 18446744073709551616 := of_decide_eq_true x.ok
/-- values that are handed in -/
theorem vals_of {w : World} {B n : Nat} {A : Option Addr} {xs : List (Bool × Nm .i64 × Fl)} (h : LiesSlice w B A n xs) : ∃ l : List Vl, l.length = n ∧ Reads w B 3 A n (l.flatMap Vl.vs) ∧ ∀ v ∈ l, v.x < 18446744073709551616 ∧ okN v.n := by
  obtain ⟨l, h1, h2, h3⟩ := h.rows (X := Vl) (f := Vl.vs) (g := fun v => v.x < 18446744073709551616 ∧ okN v.n) (fun _ => rfl) (fun us a hl => by
    obtain ⟨u1, u2, rfl, k1, u3, u4, rfl, k2, k3⟩ := hl
    exact ⟨⟨a.1, a.2.1.z, a.2.2.b⟩, by rw [show u1 = [.bool a.1] from k1, show u3 = [.int .i64 a.2.1.z] from k2, show u4 = [.float .f64 a.2.2.b] from k3]; rfl, a.2.2.lt, a.2.1.i64⟩)
  exact ⟨l, h1, h2, h3⟩
abbrev RowT := (List (Nm .i64)) × (List (Bool × Nm .i64 × Fl))
/-- a row that is handed in -/
theorem row_of {w : World} {B : Nat} {us : List Value} {x : RowT} (h : Lay.lies w B us x) : ∃ r : Rw, us = r.vs ∧ r.At B w ∧ r.Ok := by
  obtain ⟨u1, u2, rfl, ⟨A, n, c, rfl, hn, hc, _, hl⟩, ⟨A', n', c', rfl, hn', hc', _, hl'⟩⟩ := h
  obtain ⟨l, h1, h2, h3⟩ := vals_of hl'
  refine ⟨⟨A, n, c, zsOf x.1, A', n', c', l⟩, rfl, ⟨hl.reads, h2, fun v hv => (h3 v hv).1, h1, Nat.le_trans hn hc, Nat.le_trans hn' hc'⟩, fun v hv => (h3 v hv).2, fun z hz => ?_⟩
  obtain ⟨y, _, rfl⟩ := List.mem_map.1 (show z ∈ x.1.map (·.z) from hz)
  exact y.i64
theorem rows_of {w : World} {B n c : Nat} {A : Option Addr} {xs : List RowT} (h : LiesSlice w B A n xs) (hm : n ≤ maxLen) : ∃ l : List Rw, (Rws.mk A n c l).At B w ∧ ∀ x ∈ l, x.Ok := by
  obtain ⟨l, h1, h2, h3⟩ := h.rows (X := Rw) (f := Rw.vs) (g := fun r => r.At B w ∧ r.Ok) (fun _ => rfl) (fun us a hl => row_of hl)
  exact ⟨l, ⟨h2, fun x hx => (h3 x hx).1, h1, hm⟩, fun x hx => (h3 x hx).2⟩
/-- an order that is handed in -/
theorem ords_of {w : World} {B n : Nat} {A : Option Addr} {xs : List ((Nm .i64) × (Bool))} (h : LiesSlice w B A n xs) : ∃ l : List (Int × Bool), l.length = n ∧ Reads w B 2 A n (l.flatMap oR) := by
  obtain ⟨l, h1, h2, h3⟩ := h.rows (X := Int × Bool) (f := oR) (g := fun r => True) (fun _ => rfl) (fun us a hl => by
    obtain ⟨u1, u2, rfl, k1, k2⟩ := hl
    exact ⟨(a.1.z, a.2), by rw [show u1 = [.int .i64 a.1.z] from k1, show u2 = [.bool a.2] from k2]; rfl, trivial⟩)
  exact ⟨l, h1, h2⟩
theorem law_OrderRows (w : World) (A0 : Option Addr) (n0 c0 : Nat) (xs0 : List ((Nm .i64) × (Bool))) (hn0 : n0 ≤ c0) (hc0 : c0 ≤ maxLen) (hA0 : A0 = none → c0 = 0) (hl0 : LiesSlice w w.heap.size A0 n0 xs0) (A1 : Option Addr) (n1 c1 : Nat) (xs1 : List ((List (Nm .i64)) × (List ((Bool) × (Nm .i64) × (Fl))))) (hn1 : n1 ≤ c1) (hc1 : c1 ≤ maxLen) (hA1 : A1 = none → c1 = 0) (hl1 : LiesSlice w w.heap.size A1 n1 xs1) (x2 : Nm .i64) :
    Calls Try.prog 3 #[.slice A0 n0 c0, .slice A1 n1 c1, .int .i64 x2.z] w fun e w' => e = .returned (.bool true) ∧ Below w.heap.size w w' := by
  obtain ⟨o, lo, ro⟩ := ords_of hl0
  obtain ⟨l, Hl, Hk⟩ := rows_of (c := c1) hl1 (Nat.le_trans hn1 hc1)
  refine enter Try.func3 rfl (by kernel_rfl) ?_
  refine J.seq ?_
  refine J.region ?_
  refine L.va rfl (X.assign (by conv => lhs; whnf)) ?_
  refine L.nil ?_
  refine J.seq ?_
  refine J.seq ?_
  refine J.region ?_
  refine L.va rfl (X.move (by conv => lhs; whnf)) ?_
  refine L.va rfl (X.len rfl Try.underlying22) ?_
  refine L.va rfl (X.gtr rfl rfl) ?_
  refine L.va rfl (X.move (by conv => lhs; whnf)) ?_
  -- case t10
  refine L.caseDec (k := 10) rfl (fun h20 => ?_) (fun h20 => ?_)
  · refine L.no rfl ?_
    refine L.no rfl ?_
    refine L.no rfl ?_
    refine L.va rfl (X.pickT rfl (by conv => lhs; whnf)) ?_
    refine L.nil ?_
    -- cond
    refine J.iteT rfl ?_
    refine J.seq ?_
    refine J.region ?_
    -- callfn bushel/bushellaw33.awake
    refine L.call rfl en_16 rfl (awake33 w) ?_
    rintro e w1 ⟨rfl, he1⟩
    refine ⟨_, rfl, ?_⟩
    refine L.va rfl (X.assign (by conv => lhs; whnf)) ?_
    refine L.nil ?_
    -- ret
    refine J.ret ?_
    refine thn_ret <| ?_
    refine fin1 ?_
    exact ⟨rfl, he1⟩
  · refine L.va rfl (X.move (by conv => lhs; whnf)) ?_
    -- callfn bushel/bushelref33.Light
    refine L.call rfl en_15 rfl (light33 (Rws.mk A1 n1 c1 l) w.heap.size w Hl) ?_
    rintro e w1 ⟨b, rfl, hb, he1⟩
    refine ⟨_, rfl, ?_⟩
    refine L.va rfl (X.not rfl) ?_
    refine L.va rfl (X.pickF rfl (by conv => lhs; whnf)) ?_
    refine L.nil ?_
    -- cond
    cases b
    · refine J.iteT rfl ?_
      refine J.seq ?_
      refine J.region ?_
      -- callfn bushel/bushellaw33.awake
      refine L.call rfl en_16 rfl (awake33 w1) ?_
      rintro e w2 ⟨rfl, he2⟩
      refine ⟨_, rfl, ?_⟩
      refine L.va rfl (X.assign (by conv => lhs; whnf)) ?_
      refine L.nil ?_
      -- ret
      refine J.ret ?_
      refine thn_ret <| ?_
      refine fin1 ?_
      exact ⟨rfl, he1.trans he2⟩
    · have hL := hb rfl
      have hn60 : n1 ≤ 60 := hL.1
      refine J.iteF rfl ?_
      refine J.skip ?_
      refine J.seq ?_
      refine J.region ?_
      refine L.va rfl (X.move (by conv => lhs; whnf)) ?_
      refine L.va rfl (X.move (by conv => lhs; whnf)) ?_
      refine L.va rfl (X.move (by conv => lhs; whnf)) ?_
      -- callfn bushel/order.Rows
      have z1 := he1.le
      have K1 : Calls Try.prog 18 #[.slice A0 n0 c0, .slice A1 n1 c1, .int .i64 x2.z] w1 (OrRows (Rws.mk A1 n1 c1 l) o x2.z w1) := orows A0 n0 c0 o (Rws.mk A1 n1 c1 l) x2.z w1 ((ro.ext he1).more z1) lo (by omega) ((Hl.ext he1).more z1) hL Hk
      refine L.call rfl en_18 rfl (K1) ?_
      rintro e w2 ⟨A2, m2, c2, l2, z2, rfl, ho2, hl2, hL2, hS2, hF2, hm2, he2⟩
      refine ⟨_, rfl, ?_⟩
      have he02 := he1.trans he2
      have y2 := he02.le
      have K2 : Calls Try.prog 19 #[.slice A0 n0 c0, .slice A1 n1 c1, .int .i64 x2.z] w2 (RrRows (Rws.mk A1 n1 c1 l) o x2.z w2) := rrows A0 n0 c0 o (Rws.mk A1 n1 c1 l) x2.z w2 ((ro.ext he02).more y2) lo (by omega) ((Hl.ext he02).more y2) hL
      refine L.va rfl (X.move (by conv => lhs; whnf)) ?_
      refine L.va rfl (X.move (by conv => lhs; whnf)) ?_
      refine L.va rfl (X.move (by conv => lhs; whnf)) ?_
      -- callfn bushel/bushelref33.Rows
      refine L.call rfl en_19 rfl (K2) ?_
      rintro e w3 ⟨A3, m3, c3, Q, rfl, ho3, hQ, hm3, he3⟩
      refine ⟨_, rfl, ?_⟩
      have he03 := he02.trans he3
      have y3 := he03.le
      have hmm : m3 = m2 := by rw [hm2, hm3]
      subst hmm
      have hmn : m3 ≤ n1 := by rw [hm3]; exact Nat.min_le_left _ _
      have hR := ahL_ord (l.map (keyO o))
      have ez : z2 = (Q.take m3).map fun x : Nat => (x : Int) := hF2.unique hR (hQ.firsts hR hmn)
      have hQl : Q.length = n1 := hQ.len
      have ha3 : (Rws.mk A2 m3 c2 l2).At w3.heap.size w3 := ⟨Reads.of_own (ho2.ext he3), fun x hx => (RwOwn.at ((hL2 x hx).ext he3)), hl2, own_max ho2⟩
      have hb3 : (Rws.mk A3 m3 c3 (rowsAt (Rws.mk A1 n1 c1 l) (Q.take m3))).At w3.heap.size w3 := by
        refine ⟨Reads.of_own ho3, fun x hx => ?_, ?_, own_max ho3⟩
        · obtain ⟨q, hq, rfl⟩ := List.mem_map.1 hx
          have hqn := hQ.el q (List.mem_of_mem_take hq)
          exact (((Hl.h _ (memR (l := l) (i := q) (by rw [show l.length = n1 from Hl.l]; exact hqn))).ext he03).more y3)
        · show (rowsAt (Rws.mk A1 n1 c1 l) (Q.take m3)).length = m3
          rw [rowsAt, List.length_map, List.length_take]
          omega
      have K3 := rall (Rws.mk A2 m3 c2 l2) (Rws.mk A3 m3 c3 (rowsAt (Rws.mk A1 n1 c1 l) (Q.take m3))) w3 ha3 hb3 (by show m3 ≤ 1000; omega) (by
        show l2.map Rw.say = (rowsAt (Rws.mk A1 n1 c1 l) (Q.take m3)).map Rw.say
        rw [hS2, ez, rowsAt, List.map_map, List.map_map]
        rfl)
      -- callfn bushel/bushelref33.All
      refine L.call rfl en_17 rfl (K3) ?_
      rintro e w4 ⟨rfl, he4⟩
      refine ⟨_, rfl, ?_⟩
      refine L.va rfl (X.move (by conv => lhs; whnf)) ?_
      -- case t25
      refine L.caseBT (k := 25) rfl (by rfl) ?_
      -- callfn bushel/bushellaw33.awake
      refine L.call rfl en_16 rfl (awake33 w4) ?_
      rintro e w5 ⟨rfl, he5⟩
      refine ⟨_, rfl, ?_⟩
      refine L.va rfl (X.pickT rfl (by conv => lhs; whnf)) ?_
      refine L.va rfl (X.assign (by conv => lhs; whnf)) ?_
      refine L.nil ?_
      -- ret
      refine J.ret ?_
      refine fin1 ?_
      exact ⟨rfl, (he03.trans he4).trans he5⟩
end Go.Proofs.Ytmnlaekcojblkaa
