import Derived.Laws.BitsAllLaws
import Derived.Test.YtlipeplfjkgamaaZQueryChecks4
/-
  What the law leans on, part 5: WQryQ, NeedPlain, PlanPlain, WQryC, WQryD, WQryE, WLight, LQueryChecks.
-/
namespace Go.Proofs.Ytlipeplfjkgamaa
set_option maxRecDepth 100000
open Go.RowKit H
open Nrm (nrm)
set_option linter.unusedVariables false
theorem qc_all {s : Sch} {q : Qu} (h : qcode s q = 0) : (∀ i, i < q.nc → colOk s (q.c.getD i c0)) ∧ (∀ i, i < q.no → q.oOk (q.o.getD i o0)) ∧ ¬ q.m < 0 := by
  obtain ⟨h1, h2, h3, h4⟩ := qc_ok h
  unfold qcode at h
  rw [if_neg (fun k => k h1), if_neg (fun k => k h2), if_neg (fun k => k h3), if_neg h4] at h
  have hn : ¬ ((∃ i, i < q.nc ∧ ¬ colOk s (q.c.getD i c0)) ∨ (∃ i, i < q.no ∧ ¬ q.oOk (q.o.getD i o0)) ∨ q.m < 0) := by
    intro k
    rw [if_pos k] at h
    cases h
  refine ⟨fun i hi => Decidable.byContradiction fun k => hn (.inl ⟨i, hi, k⟩), fun i hi => Decidable.byContradiction fun k => hn (.inr (.inl ⟨i, hi, k⟩)), fun k => hn (.inr (.inr k))⟩
theorem qn_ok {s : Sch} {q r : Qu} {w w' : World} {N N' : Nat} (H : s.Here w) (hc : qcode s q = 0) (hq : q.At N w) (hr : r.At N' w') (K : Qn s q r) : qcode s r = 0 := by
  obtain ⟨h1, h2, h3, h4⟩ := qc_ok hc
  obtain ⟨k1, k2, k3⟩ := qc_all hc
  have e1 : r.nc = q.nc := by rw [← hr.lc, ← hq.lc, K.c]
  have e2 : r.no ≤ q.no := by
    rw [← hr.lo, ← hq.lo, K.o]
    have := dd_len q.o []
    rw [List.length_nil, Nat.zero_add] at this
    exact this
  refine qc_0 h1 (by rw [K.g]; exact h2) (nrm_ok (fok hq.f.l h3) hr.f.l (fun x hx => (hr.f.h x hx).len) H.len K.k) (by rw [e1]; omega) (fun i hi => by rw [K.c]; exact k1 i (by omega)) (fun i hi => ?_) (by rw [K.m]; exact k3)
  have hm : r.o.getD i o0 ∈ q.o := by
    have : r.o.getD i o0 ∈ dd q.o := by
      rw [← K.o]
      exact List.mem_of_getElem? (gtO (by rw [hr.lo]; exact hi))
    rcases dd_mem q.o [] this with h | h
    · cases h
    · exact h
  obtain ⟨j, hj, e⟩ := List.getElem_of_mem hm
  have := k2 j (by rw [← hq.lo]; exact hj)
  rw [List.getD, List.getElem?_eq_getElem hj, Option.getD_some, e] at this
  show 0 ≤ _ ∧ _ < (r.nc : Int)
  rw [e1]
  exact this
abbrev qC (b2 b3 : Nat) : Qu := ⟨0, ⟨none, 0, 0, []⟩, some ⟨b2, 0, none⟩, 2, 2, [(0, 0), (0, 0)], some ⟨b3, 0, none⟩, 3, 3, [(0, false), (1, true), (0, true)], 0⟩
abbrev q0 : Qu := ⟨0, ⟨none, 0, 0, []⟩, none, 0, 0, [], none, 0, 0, [], 0⟩
theorem q0_at {w : World} {N : Nat} : q0.At N w := ⟨by decide, ⟨Reads.none_, (fun x hx => by cases hx), rfl, Nat.zero_le _⟩, Reads.none_, rfl, Nat.zero_le _, Reads.none_, rfl, Nat.zero_le _⟩
theorem fis0_code (b1 : Nat) : fcode (sC b1) ⟨none, 0, 0, []⟩ = 0 := fcode_ok (sC_code b1) (Nat.zero_le _) (by intro x hx; cases hx)
theorem q0_code (b1 : Nat) : qcode (sC b1) q0 = 3 := qc_3 (sC_code b1) (by show (0 : Int) ≤ (sC 0).F; decide +kernel) (fis0_code b1) (.inl (by decide))
theorem qC_code (b1 b2 b3 : Nat) : qcode (sC b1) (qC b2 b3) = 0 := by
  refine qc_0 (sC_code b1) (by show (0 : Int) ≤ (sC 0).F; decide +kernel) (fis0_code b1) (by show ¬ (2 < 1 ∨ 16 < 2 ∨ 8 < 3); decide) (fun i hi => ?_) (fun i hi => ?_) (by show ¬ (0 : Int) < 0; decide)
  · have hi : i < 2 := hi
    have : i = 0 ∨ i = 1 := by omega
    rcases this with rfl | rfl
    · show colOk (sC 0) (0, 0); decide +kernel
    · show colOk (sC 0) (0, 0); decide +kernel
  · have hi : i < 3 := hi
    have : i = 0 ∨ i = 1 ∨ i = 2 := by omega
    rcases this with rfl | rfl | rfl
    · show (0 : Int) ≤ 0 ∧ (0 : Int) < 2; decide
    · show (0 : Int) ≤ 1 ∧ (1 : Int) < 2; decide
    · show (0 : Int) ≤ 0 ∧ (0 : Int) < 2; decide
theorem awake29 (w : World) : Calls Try.prog 31 #[] w fun e w' => e = .returned (.bool true) ∧ Ext w w' := by
  refine enter Try.func31 rfl (by kernel_rfl) ?_
  refine J.seq ?_
  refine J.region ?_
  refine L.va rfl (X.assign (by conv => lhs; whnf)) ?_
  refine L.nil ?_
  refine J.seq ?_
  refine J.region ?_
  refine L.va rfl (X.build (l := [_, _]) (Evs.cons (by conv => lhs; whnf) (Evs.cons (by conv => lhs; whnf) Evs.nil)) (bld_run Try.underlying128 (bp_128 Try.underlying128) zr_128 rfl)) ?_
  refine L.bslice1 (l := [_, _]) rfl rfl rfl Try.underlying45 sz_128 zr_128 rfl ?_
  intro b1 w1 hb1 hs1 hk1 he1
  refine L.va rfl (X.build (l := [_, _, _, _]) (Evs.cons (by conv => lhs; whnf) Evs.nil) (bld_run Try.underlying49 (bp_49 Try.underlying49) zr_49 rfl)) ?_
  refine L.alloc rfl zr_49 ?_
  intro b2 w2 hb2 hs2 hk2 he2
  refine L.storeAgg (vs := [_, _, _, _]) rfl rfl rfl rfl sz_49 (hk2) rfl ?_
  intro w3 hk3 hg3 hs3
  have he13 : Ext w1 w3 := he2.grw hg3 (by intro g hg; injection hg with hg; omega)
  have he03 := he1.trans he13
  have hk13 := hk1.ext he13
  have H3 : (sC b1).Here w3 := sC_here b1 hk13
  refine L.nil ?_
  refine J.seq ?_
  refine J.region ?_
  refine L.va rfl ((by first | exact X.loadAgg rfl (range_l hk3) Try.underlying49 rfl (by kernel_rfl) | exact X.loadAgg rfl (range_blk hk3) Try.underlying49 rfl (by kernel_rfl))) ?_
  refine L.va rfl (X.build (l := [_, _]) Evs.nil (bld_run Try.underlying130 (bp_130 Try.underlying130) zr_130 rfl)) ?_
  refine L.va rfl (X.build (l := [_, _]) Evs.nil (bld_run Try.underlying130 (bp_130 Try.underlying130) zr_130 rfl)) ?_
  refine L.bsliceR (ls := [[_, _], [_, _]]) rfl (Evs.cons (by conv => lhs; whnf) (Evs.cons (by conv => lhs; whnf) Evs.nil)) rfl rfl rfl rfl Try.underlying52 sz_130 zr_130 (by decide) ?_
  intro b4 w4 hb4 hs4 hk4 he4
  refine L.va rfl (X.build (l := [_, _]) (Evs.cons (by conv => lhs; whnf) Evs.nil) (bld_run Try.underlying98 (bp_98 Try.underlying98) zr_98 rfl)) ?_
  refine L.va rfl (X.build (l := [_, _]) (Evs.cons (by conv => lhs; whnf) (Evs.cons (by conv => lhs; whnf) Evs.nil)) (bld_run Try.underlying98 (bp_98 Try.underlying98) zr_98 rfl)) ?_
  refine L.va rfl (X.build (l := [_, _]) (Evs.cons (by conv => lhs; whnf) (Evs.cons (by conv => lhs; whnf) Evs.nil)) (bld_run Try.underlying98 (bp_98 Try.underlying98) zr_98 rfl)) ?_
  refine L.bsliceR (ls := [[_, _], [_, _], [_, _]]) rfl (Evs.cons (by conv => lhs; whnf) (Evs.cons (by conv => lhs; whnf) (Evs.cons (by conv => lhs; whnf) Evs.nil))) rfl rfl rfl rfl Try.underlying22 sz_98 zr_98 (by decide) ?_
  intro b5 w5 hb5 hs5 hk5 he5
  have hk45 := hk4.ext he5
  have he35 := he4.trans he5
  have q5 : (qC b4 b5).At w5.heap.size w5 := ⟨(by show 0 < 4294967296; decide), ⟨Reads.none_, (fun x hx => by cases hx), rfl, Nat.zero_le _⟩, blk_readsN hk45 hk45.lt rfl, rfl, (by decide : 2 ≤ maxLen), blk_readsN hk5 hk5.lt rfl, rfl, (by decide : 3 ≤ maxLen)⟩
  have c1 := qnorm_ok (H3.ext he35) q5 (qC_code b1 b4 b5)
  replace hk3 := hk3.ext he35
  refine L.va rfl (X.build (l := [_, _, _, _, _]) (Evs.cons (by conv => lhs; whnf) (Evs.cons (by conv => lhs; whnf) Evs.nil)) (bld_run Try.underlying54 (bp_54 Try.underlying54) zr_54 rfl)) ?_
  refine L.call rfl en_32 rfl (c1) ?_
  rintro e w6 ⟨r, rfl, hr, K, he6⟩
  refine ⟨_, rfl, ?_⟩
  have he06 := (he03.trans he35).trans he6
  have ho : r.o = [(0, false), (1, true)] := K.o
  have hno : r.no = 2 := by rw [← hr.lo, ho]; rfl
  have z6 := he6.le
  replace hk3 := hk3.ext he6
  refine L.va rfl (X.move (by conv => lhs; whnf)) ?_
  refine L.va rfl (X.extract rfl rfl) ?_
  refine L.va rfl (X.extract rfl rfl) ?_
  refine L.alloc rfl zr_54 ?_
  intro b7 w7 hb7 hs7 hk7 he7
  replace hk3 := hk3.ext he7
  refine L.storeAgg (vs := [_, _, _, _, _]) rfl rfl rfl rfl sz_54 (hk7) rfl ?_
  intro w8 hk8 hg8 hs8
  have he68 : Ext w6 w8 := he7.grw hg8 (by intro g hg; injection hg with hg; omega)
  have hk8 : Blk w8 b7 54 r.vs.toArray := hk8
  have hk38 := hk3.grown hg8 (by intro e; injection e with e; have := hk3.lt; omega)
  have r8 := hr.ext he68
  have he08 := he06.trans he68
  have hA := r8.o.some_ (by omega)
  have hgt := gtO (l := r.o) (i := 1) (by rw [ho]; decide)
  have e1 : r.o.getD 1 o0 = (1, true) := by rw [ho]; rfl
  rw [e1] at hgt
  refine L.va rfl (X.assign (by conv => lhs; whnf)) ?_
  refine L.nil ?_
  refine J.seq ?_
  refine J.region ?_
  refine L.va rfl (X.move (by conv => lhs; whnf)) ?_
  refine L.va rfl (X.eql rfl rfl) ?_
  refine L.va rfl (X.move (by conv => lhs; whnf)) ?_
  refine L.caseDecT (k := 22) rfl (by rfl) ?_
  refine L.va rfl (X.fieldAddr rfl Try.underlying54 rfl sz_22 (by decide)) ?_
  refine L.va rfl (X.load rfl sc_22 (by first | exact Ld.blk hk8 rfl | exact Ld.blk hk38 rfl)) ?_
  refine L.va rfl (X.len rfl Try.underlying22) ?_
  refine L.va rfl (X.eql rfl rfl) ?_
  refine L.va rfl (X.pickT rfl (by conv => lhs; whnf)) ?_
  refine L.va rfl (X.move (by conv => lhs; whnf)) ?_
  refine L.caseDecT (k := 28) rfl (by exact (show ((r.no : Nat) : Int) = 2 by omega)) ?_
  refine L.va rfl (X.fieldAddr rfl Try.underlying54 rfl sz_22 (by decide)) ?_
  refine L.va rfl (X.load rfl sc_22 (by first | exact Ld.blk hk8 rfl | exact Ld.blk hk38 rfl | exact hA | exact Ld.flat2 oV_len (r8.o) hgt (r := 0) rfl | exact Ld.flat2 oV_len (r8.o) hgt (r := 1) rfl)) ?_
  refine L.va rfl (X.indexAddrn (j := 1) rfl rfl Try.underlying22 sz_98 (by first | exact Option.some_ne_none _ | exact hA) (by omega)) ?_
  refine L.va rfl (X.loadRow (cs := oV (1, true)) rfl r8.o (fun r u hu => flat_row oV_len hgt r u hu) (Nat.zero_lt_succ _) Try.underlying98 rfl (by kernel_rfl)) ?_
  refine L.va rfl (X.build (l := [_, _]) (Evs.cons (by conv => lhs; whnf) (Evs.cons (by conv => lhs; whnf) Evs.nil)) (bld_run Try.underlying98 (bp_98 Try.underlying98) zr_98 rfl)) ?_
  refine L.va rfl (X.eqlTwo two_srt rfl rfl sc_3 sc_4 (eq_int Try.underlying3) (eq_boo Try.underlying4)) ?_
  refine L.va rfl (X.pickT rfl (by conv => lhs; whnf)) ?_
  refine L.va rfl (X.move (by conv => lhs; whnf)) ?_
  refine L.caseBT (k := 36) rfl (by rfl) ?_
  refine L.va rfl ((by first | exact X.loadAgg rfl (range_l hk8) Try.underlying49 rfl (by kernel_rfl) | exact X.loadAgg rfl (range_blk hk8) Try.underlying49 rfl (by kernel_rfl) | exact X.loadAgg rfl (range_l hk38) Try.underlying49 rfl (by kernel_rfl) | exact X.loadAgg rfl (range_blk hk38) Try.underlying49 rfl (by kernel_rfl))) ?_
  refine L.va rfl (X.build (l := [_, _, _, _, _]) Evs.nil (bld_run Try.underlying54 (bp_54 Try.underlying54) zr_54 rfl)) ?_
  have c2 := qcheck (H3.ext ((he35.trans he6).trans he68)) (q0_at (N := w8.heap.size))
  refine L.call rfl en_33 rfl (c2) ?_
  rintro e w9 ⟨rfl, he9⟩
  refine ⟨_, rfl, ?_⟩
  rw [q0_code]
  refine L.va rfl (X.eql rfl rfl) ?_
  refine L.va rfl (X.pickT rfl (by conv => lhs; whnf)) ?_
  refine L.va rfl (X.assign (by conv => lhs; whnf)) ?_
  refine L.nil ?_
  refine J.ret ?_
  refine fin1 ?_
  exact ⟨rfl, he08.trans he9⟩
end Go.Proofs.Ytlipeplfjkgamaa
namespace Go.Proofs.Ytlipeplfjkgamaa
open Go.RowKit
def fbit (f : Fi) : Nat := if 0 ≤ f.d ∧ f.d < 32 then 2 ^ f.d.toNat else 0
def fneed : List Fi → Nat
  | [] => 0
  | f :: t => fbit f ||| fneed t
theorem fneed_snoc (l : List Fi) (f : Fi) : fneed (l ++ [f]) = fneed l ||| fbit f := by
  induction l with
  | nil => simp [fneed]
  | cons x t ih => simp only [List.cons_append, fneed, ih, Nat.or_assoc]
theorem fneed_take {l : List Fi} {i : Nat} (h : i < l.length) : fneed (l.take (i + 1)) = fneed (l.take i) ||| fbit (l.getD i fi0) := by
  rw [List.take_succ_eq_append_getElem h, fneed_snoc, List.getD, List.getElem?_eq_getElem h]; rfl
theorem fbit_lt (f : Fi) : fbit f < 4294967296 := by
  unfold fbit
  split
  · rename_i h
    have : f.d.toNat < 32 := by omega
    exact Nat.lt_of_lt_of_le (Nat.pow_lt_pow_right (by decide) this) (by decide)
  · decide
theorem fneed_lt : ∀ l, fneed l < 4294967296
  | [] => by decide
  | f :: t => by
    have h1 := fbit_lt f
    have h2 := fneed_lt t
    exact Nat.or_lt_two_pow (n := 32) h1 h2
theorem fbit_test (f : Fi) (i : Nat) (hi : i < 32) : (fbit f).testBit i = decide (f.d = (i : Int)) := by
  unfold fbit
  split
  · rename_i h
    rw [Nat.testBit_two_pow]
    exact decide_eq_decide.2 (by omega)
  · rename_i h
    rw [Nat.zero_testBit, decide_eq_false (by omega)]
theorem fneed_test (i : Nat) (hi : i < 32) : ∀ l : List Fi, (fneed l).testBit i = l.any fun f => decide (f.d = (i : Int))
  | [] => by simp [fneed]
  | f :: t => by rw [fneed, Nat.testBit_or, fbit_test f i hi, fneed_test i hi t, List.any_cons]
theorem mod_next (x d : Nat) : x % 2 ^ (d + 1) = x % 2 ^ d + (if x.testBit d then 2 ^ d else 0) := by
  have h1 : x % 2 ^ (d + 1) = x % 2 ^ d + 2 ^ d * (x / 2 ^ d % 2) := by rw [Nat.pow_succ, Nat.mod_mul]
  rw [h1, Nat.testBit_eq_decide_div_mod_eq]
  have h2 : x / 2 ^ d % 2 < 2 := Nat.mod_lt _ (by decide)
  by_cases h : x / 2 ^ d % 2 = 1
  · rw [h]; simp
  · have : x / 2 ^ d % 2 = 0 := by omega
    rw [this]; simp
theorem mod_lt32 {x d : Nat} (hx : x < 4294967296) : x % 2 ^ d < 4294967296 := Nat.lt_of_le_of_lt (Nat.mod_le _ _) hx
theorem mod_all {x : Nat} (hx : x < 4294967296) : x % 2 ^ 32 = x := Nat.mod_eq_of_lt hx
theorem test_mod_no {x d i : Nat} (hi : d ≤ i) : (x % 2 ^ d).testBit i = false := by rw [Nat.testBit_mod_two_pow]; simp; omega
theorem two_pow_lt {d : Nat} (h : d < 32) : 2 ^ d < 4294967296 := Nat.lt_of_lt_of_le (Nat.pow_lt_pow_right (by decide) h) (by decide)
theorem or_next {a b d : Nat} : ∀ {x : Nat}, x = a ||| (b % 2 ^ d) → (if b.testBit d = true ∧ x.testBit d = false then x + 2 ^ d else x) = a ||| (b % 2 ^ (d + 1)) := by
  intro x hx
  have ht : x.testBit d = a.testBit d := by rw [hx, Nat.testBit_or, test_mod_no (Nat.le_refl d), Bool.or_false]
  have key : ∀ y : Nat, y.testBit d = false → y + 2 ^ d = y ||| 2 ^ d := by
    intro y hy
    have h1 : y = 2 ^ (d + 1) * (y / 2 ^ (d + 1)) + y % 2 ^ (d + 1) := (Nat.div_add_mod _ _).symm
    apply Nat.eq_of_testBit_eq
    intro i
    rw [Nat.testBit_or, Nat.testBit_two_pow]
    rcases Nat.lt_trichotomy i d with h | h | h
    · rw [Nat.add_comm, Nat.testBit_two_pow_add_gt h]; simp; omega
    · subst h
      rw [Nat.add_comm, Nat.testBit_two_pow_add_eq, hy]; simp
    · rw [decide_eq_false (by omega), Bool.or_false]
      have e : (y + 2 ^ d) / 2 ^ (d + 1) = y / 2 ^ (d + 1) := by
        have h3 := mod_next y d
        rw [hy] at h3
        have h4 : y % 2 ^ d < 2 ^ d := Nat.mod_lt _ (Nat.two_pow_pos d)
        have hp : (2 : Nat) ^ (d + 1) = 2 ^ d + 2 ^ d := by rw [Nat.pow_succ]; omega
        have h5 : (y + 2 ^ d) = 2 ^ (d + 1) * (y / 2 ^ (d + 1)) + (y % 2 ^ (d + 1) + 2 ^ d) := by omega
        rw [h5, Nat.mul_add_div (Nat.two_pow_pos _), Nat.div_eq_of_lt (a := y % 2 ^ (d + 1) + 2 ^ d) (by simp at h3; omega), Nat.add_zero]
      have f : ∀ z : Nat, z.testBit i = (z / 2 ^ (d + 1)).testBit (i - (d + 1)) := fun z => by rw [Nat.testBit_div_two_pow]; congr 1; omega
      rw [f, f y, e]
  have hb : b % 2 ^ (d + 1) = b % 2 ^ d ||| (if b.testBit d then 2 ^ d else 0) := by
    rw [mod_next]
    split
    · exact key _ (test_mod_no (Nat.le_refl d))
    · simp
  rw [hb, ← Nat.or_assoc, ← hx]
  by_cases h1 : b.testBit d = true
  · rw [if_pos h1]
    by_cases h2 : x.testBit d = false
    · rw [if_pos ⟨h1, h2⟩, key x h2]
    · rw [if_neg (fun h => h2 h.2)]
      apply Nat.eq_of_testBit_eq
      intro i
      rw [Nat.testBit_or, Nat.testBit_two_pow]
      by_cases hi : d = i
      · subst hi
        have : x.testBit d = true := by simpa using h2
        rw [this]; simp
      · rw [decide_eq_false hi, Bool.or_false]
  · rw [if_neg h1, if_neg (fun h => h1 h.1), Nat.or_zero]
end Go.Proofs.Ytlipeplfjkgamaa
namespace Go.Proofs.Ytlipeplfjkgamaa
open Go.RowKit
open Mk
def qneed (q : Qu) : Nat := q.g ||| fneed q.f.l
end Go.Proofs.Ytlipeplfjkgamaa
namespace Go.Proofs.Ytlipeplfjkgamaa
set_option maxRecDepth 100000
open Go.RowKit H
set_option linter.unusedVariables false
theorem rqcheck {s : Sch} {q : Qu} {w : World} (H : s.Here w) (hq : q.At w.heap.size w) : Calls Try.prog 36 #[s.val, q.val] w fun e w' => e = .returned (.int .i64 (qcode s q)) ∧ Ext w w' := by
  have hle := H.hle
  have hg := hq.g
  have lc := hq.lc
  have mc := hq.mc
  have lo := hq.lo
  have mo := hq.mo
  unfold maxLen at mc mo
  refine enter Try.func36 rfl (by kernel_rfl) ?_
  refine J.seq ?_
  refine J.region ?_
  refine L.boxA (l := [_, _, _, _]) rfl rfl ?_
  intro b1 w1 hb1 hs1 hk1 he1
  refine L.boxA (l := [_, _, _, _, _]) rfl rfl ?_
  intro b2 w2 hb2 hs2 hk2 he2
  have hk12 := hk1.ext he2
  have he02 := he1.trans he2
  have H2 := H.ext he02
  have hk2 : Blk w2 b2 54 q.vs.toArray := hk2
  refine L.va rfl (X.assign (by conv => lhs; whnf)) ?_
  refine L.nil ?_
  refine J.seq ?_
  refine J.seq ?_
  refine J.region ?_
  refine L.va rfl ((by first | exact X.loadAgg rfl (range_l hk2) Try.underlying49 rfl (by kernel_rfl) | exact X.loadAgg rfl (range_blk hk2) Try.underlying49 rfl (by kernel_rfl) | exact X.loadAgg rfl (range_l hk12) Try.underlying49 rfl (by kernel_rfl) | exact X.loadAgg rfl (range_blk hk12) Try.underlying49 rfl (by kernel_rfl))) ?_
  refine L.call rfl en_97 rfl (H2.rcheck) ?_
  rintro e w3 ⟨rfl, he3⟩
  refine ⟨_, rfl, ?_⟩
  have he03 := he02.trans he3
  have H3 := H.ext he03
  replace hk2 := hk2.ext he3
  replace hk12 := hk12.ext he3
  refine L.va rfl (X.neq rfl rfl) ?_
  refine L.nil ?_
  refine J.ndec rfl (fun hc => ?_) (fun hc => ?_)
  · rw [qc_1 hc]
    refine J.seq ?_
    refine J.region ?_
    refine L.va rfl (X.assign (by conv => lhs; whnf)) ?_
    refine L.nil ?_
    refine J.ret ?_
    refine thn_ret <| ?_
    refine fin1 ?_
    exact ⟨rfl, he03⟩
  refine J.skip ?_
  refine J.seq ?_
  refine J.seq ?_
  refine J.quiet mixed (by kernel_rfl) ?_
  refine Qt.va rfl (fun w' hw => X.fieldAddr rfl Try.underlying54 rfl sz_50 (by decide)) ?_
  refine Qt.va rfl (fun w' hw => X.load rfl sc_50 (by first | exact Ld.blk (hk2.ext hw) rfl | exact Ld.blk (hk12.ext hw) rfl)) ?_
  refine Qt.va rfl (fun w' hw => (by first | exact X.loadAgg rfl (range_l (hk2.ext hw)) Try.underlying49 rfl (by kernel_rfl) | exact X.loadAgg rfl (range_blk (hk2.ext hw)) Try.underlying49 rfl (by kernel_rfl) | exact X.loadAgg rfl (range_l (hk12.ext hw)) Try.underlying49 rfl (by kernel_rfl) | exact X.loadAgg rfl (range_blk (hk12.ext hw)) Try.underlying49 rfl (by kernel_rfl))) ?_
  refine Qt.call rfl en_51 rfl (fun w' hw => calls_ext hw ((H3.ext hw).rfull hc)) ?_
  refine Qt.call rfl en_98 rfl (fun w' hw => calls_same hw (Sch.Here.rsub (w := w') hc hg)) ?_
  refine Qt.va rfl (fun w' hw => X.not rfl) ?_
  refine Qt.nil (fun w4 hq4 => ?_)
  replace hk2 := hk2.ext hq4
  replace hk12 := hk12.ext hq4
  have he04 := he03.trans hq4
  have H4 := H.ext he04
  by_cases h2 : (q.g : Int) ≤ s.F
  · rw [decide_eq_true h2]
    refine J.iteF rfl ?_
    have q4 := (hq.ext he04).more he04.le
    refine J.skip ?_
    refine J.seq ?_
    refine J.seq ?_
    refine J.region ?_
    refine L.va rfl ((by first | exact X.loadAgg rfl (range_l hk2) Try.underlying49 rfl (by kernel_rfl) | exact X.loadAgg rfl (range_blk hk2) Try.underlying49 rfl (by kernel_rfl) | exact X.loadAgg rfl (range_l hk12) Try.underlying49 rfl (by kernel_rfl) | exact X.loadAgg rfl (range_blk hk12) Try.underlying49 rfl (by kernel_rfl))) ?_
    refine L.va rfl (X.fieldAddr rfl Try.underlying54 rfl sz_51 (by decide)) ?_
    refine L.va rfl (X.load rfl sc_51 (by first | exact Ld.blk hk2 rfl | exact Ld.blk hk12 rfl)) ?_
    refine L.call rfl en_99 rfl (rfcheck H4 q4.f) ?_
    rintro e w5 ⟨rfl, he5⟩
    refine ⟨_, rfl, ?_⟩
    have he05 := he04.trans he5
    replace hk2 := hk2.ext he5
    replace hk12 := hk12.ext he5
    refine L.va rfl (X.assign (by conv => lhs; whnf)) ?_
    refine L.nil ?_
    refine J.seq ?_
    refine J.region ?_
    refine L.va rfl (X.move (by conv => lhs; whnf)) ?_
    refine L.va rfl (X.neq rfl rfl) ?_
    refine L.nil ?_
    refine J.ndec rfl (fun h3 => ?_) (fun h3 => ?_)
    · rw [qc_f hc h2 h3]
      refine J.seq ?_
      refine J.region ?_
      refine L.va rfl (X.move (by conv => lhs; whnf)) ?_
      refine L.va rfl (X.assign (by conv => lhs; whnf)) ?_
      refine L.nil ?_
      refine J.ret ?_
      refine thn_ret <| ?_
      refine fin1 ?_
      exact ⟨rfl, he05⟩
    refine J.skip ?_
    refine J.seq ?_
    refine J.seq ?_
    refine J.region ?_
    refine L.va rfl (X.fieldAddr rfl Try.underlying54 rfl sz_52 (by decide)) ?_
    refine L.va rfl (X.load rfl sc_52 (by first | exact Ld.blk hk2 rfl | exact Ld.blk hk12 rfl)) ?_
    refine L.va rfl (X.len rfl Try.underlying52) ?_
    refine L.va rfl (X.lss rfl rfl) ?_
    refine L.va rfl (X.move (by conv => lhs; whnf)) ?_
    refine L.caseDec (k := 28) rfl (fun h4 => ?_) (fun h4 => ?_)
    · refine L.no rfl ?_
      refine L.no rfl ?_
      refine L.no rfl ?_
      refine L.no rfl ?_
      refine L.va rfl (X.pickT rfl (by conv => lhs; whnf)) ?_
      refine L.va rfl (X.move (by conv => lhs; whnf)) ?_
      refine L.no rfl ?_
      refine L.no rfl ?_
      refine L.no rfl ?_
      refine L.no rfl ?_
      refine L.va rfl (X.pickT rfl (by conv => lhs; whnf)) ?_
      refine L.nil ?_
      refine J.iteT rfl ?_
      rw [qc_3 hc h2 h3 (by omega)]
      refine J.seq ?_
      refine J.region ?_
      refine L.va rfl (X.assign (by conv => lhs; whnf)) ?_
      refine L.nil ?_
      refine J.ret ?_
      refine thn_ret <| ?_
      refine fin1 ?_
      exact ⟨rfl, he05⟩
    refine L.va rfl (X.fieldAddr rfl Try.underlying54 rfl sz_52 (by decide)) ?_
    refine L.va rfl (X.load rfl sc_52 (by first | exact Ld.blk hk2 rfl | exact Ld.blk hk12 rfl)) ?_
    refine L.va rfl (X.len rfl Try.underlying52) ?_
    refine L.va rfl (X.gtr rfl rfl) ?_
    refine L.va rfl (X.pickF rfl (by conv => lhs; whnf)) ?_
    refine L.va rfl (X.move (by conv => lhs; whnf)) ?_
    refine L.caseDec (k := 34) rfl (fun h5 => ?_) (fun h5 => ?_)
    · refine L.no rfl ?_
      refine L.no rfl ?_
      refine L.no rfl ?_
      refine L.no rfl ?_
      refine L.va rfl (X.pickT rfl (by conv => lhs; whnf)) ?_
      refine L.nil ?_
      refine J.iteT rfl ?_
      rw [qc_3 hc h2 h3 (by omega)]
      refine J.seq ?_
      refine J.region ?_
      refine L.va rfl (X.assign (by conv => lhs; whnf)) ?_
      refine L.nil ?_
      refine J.ret ?_
      refine thn_ret <| ?_
      refine fin1 ?_
      exact ⟨rfl, he05⟩
    refine L.va rfl (X.fieldAddr rfl Try.underlying54 rfl sz_22 (by decide)) ?_
    refine L.va rfl (X.load rfl sc_22 (by first | exact Ld.blk hk2 rfl | exact Ld.blk hk12 rfl)) ?_
    refine L.va rfl (X.len rfl Try.underlying22) ?_
    refine L.va rfl (X.gtr rfl rfl) ?_
    refine L.va rfl (X.pickF rfl (by conv => lhs; whnf)) ?_
    refine L.nil ?_
    refine J.dec rfl (fun h6 => ?_) (fun h6 => ?_)
    · rw [qc_3 hc h2 h3 (by omega)]
      refine J.seq ?_
      refine J.region ?_
      refine L.va rfl (X.assign (by conv => lhs; whnf)) ?_
      refine L.nil ?_
      refine J.ret ?_
      refine thn_ret <| ?_
      refine fin1 ?_
      exact ⟨rfl, he05⟩
    have z5 := he05.le
    refine J.skip ?_
    refine J.seq ?_
    refine J.seq ?_
    refine J.region ?_
    refine L.va rfl (X.assign (by conv => lhs; whnf)) ?_
    refine L.nil ?_
    refine J.block ?_
    refine J.loop (X := Nat) [4, 6, 40, 41, 42, 43, 44, 45, 46, 47, 48, 49, 50, 51, 52, 53, 54] (fun i => [(6, .int .i64 (i : Int))]) (fun i w' => i ≤ q.nc ∧ (∀ j, j < i → colOk s (q.c.getD j c0)) ∧ Ext w5 w') (fun i => q.nc - i) (0) (At1 (by first | rfl | exact at_int rfl (by omega) | exact at_slice rfl (by omega) | exact at_int rfl (by simp))) ?_ ?_
    · exact ⟨Nat.zero_le _, fun j hj => absurd hj (by omega), Ext.refl _⟩
    · rintro i g w6 ⟨hi, hP, he6⟩
      have he06 := he05.trans he6
      have z6 := he6.le
      have hk6 := hk2.ext he6
      have hk16 := hk12.ext he6
      have c6 := hq.c.ext he06
      refine J.seq ?_
      refine J.seq ?_
      refine J.region ?_
      refine L.va rfl (X.move (by conv => lhs; whnf)) ?_
      refine L.va rfl (X.fieldAddr rfl Try.underlying54 rfl sz_52 (by decide)) ?_
      refine L.va rfl (X.load rfl sc_52 (by first | exact Ld.blk hk6 rfl | exact Ld.blk hk16 rfl)) ?_
      refine L.va rfl (X.len rfl Try.underlying52) ?_
      refine L.va rfl (X.lss rfl rfl) ?_
      refine L.nil ?_
      refine J.dec rfl (fun hlt => ?_) (fun hlt => ?_)
      · have hin : i < q.nc := by omega
        have hA := c6.some_ (by omega)
        obtain ⟨k, m, hkm⟩ : ∃ k m, q.c.getD i c0 = (k, m) := ⟨_, _, rfl⟩
        have hgt := gtC (l := q.c) (i := i) (by omega)
        rw [hkm] at hgt
        refine J.skip ?_
        refine J.seq ?_
        refine J.block ?_
        refine J.seq ?_
        refine J.quiet mixed (by kernel_rfl) ?_
        refine Qt.va rfl (fun w' hw => (by first | exact X.loadAgg rfl (range_l (hk6.ext hw)) Try.underlying49 rfl (by kernel_rfl) | exact X.loadAgg rfl (range_blk (hk6.ext hw)) Try.underlying49 rfl (by kernel_rfl) | exact X.loadAgg rfl (range_l (hk16.ext hw)) Try.underlying49 rfl (by kernel_rfl) | exact X.loadAgg rfl (range_blk (hk16.ext hw)) Try.underlying49 rfl (by kernel_rfl))) ?_
        refine Qt.va rfl (fun w' hw => X.fieldAddr rfl Try.underlying54 rfl sz_52 (by decide)) ?_
        refine Qt.va rfl (fun w' hw => X.load rfl sc_52 (by first | exact Ld.blk (hk6.ext hw) rfl | exact Ld.blk (hk16.ext hw) rfl | exact hA)) ?_
        refine Qt.va rfl (fun w' hw => X.move (by conv => lhs; whnf)) ?_
        refine Qt.va rfl (fun w' hw => (by first | exact X.indexAddrn rfl rfl Try.underlying52 sz_130 (by first | exact Option.some_ne_none _ | exact hA) (by omega) | exact X.indexAddr rfl rfl Try.underlying52 sz_130 (by first | exact Option.some_ne_none _ | exact hA) (by omega))) ?_
        refine Qt.va rfl (fun w' hw => X.loadRow (cs := cV (k, m)) rfl (c6.ext hw) (fun r u hu => flat_row cV_len hgt r u hu) (Nat.zero_lt_succ _) Try.underlying130 rfl (by kernel_rfl)) ?_
        refine Qt.call rfl en_100 rfl (fun w' hw => calls_ext hw (rcolumn k m ((H.ext he06).ext hw))) ?_
        refine Qt.va rfl (fun w' hw => X.not rfl) ?_
        refine Qt.nil (fun w7 hq7 => ?_)
        replace hk6 := hk6.ext hq7
        replace hk16 := hk16.ext hq7
        by_cases hok : colOk s (k, m)
        · rw [decide_eq_true hok]
          refine J.iteF rfl ?_
          refine J.skip ?_
          refine J.region ?_
          refine L.va rfl (X.move (by conv => lhs; whnf)) ?_
          refine L.va rfl (X.add rfl rfl (by omega)) ?_
          refine L.va rfl (X.assign (by conv => lhs; whnf)) ?_
          refine L.nil ?_
          refine ⟨i + 1, At1 (by first | rfl | exact at_int rfl (by omega) | exact at_slice rfl (by omega) | exact at_int rfl (by simp)), (by (iterate 16 refine Agr.lk rfl ?_); exact Agr.lk rfl (Agr.hav rfl Agr.rfl')), ?_⟩
          refine ⟨⟨by omega, fun j hj => ?_, he6.trans hq7⟩, by omega⟩
          rcases Nat.lt_or_ge j i with h | h
          · exact hP j h
          · obtain rfl : j = i := by omega
            rw [hkm]; exact hok
        · rw [decide_eq_false hok, qc_2 hc h2 h3 (by omega) (.inl ⟨i, hin, by rw [hkm]; exact hok⟩)]
          refine J.iteT rfl ?_
          refine J.seq ?_
          refine J.region ?_
          refine L.va rfl (X.assign (by conv => lhs; whnf)) ?_
          refine L.nil ?_
          refine J.ret ?_
          refine inB_ret <|  thn_ret <|  thn_ret <|  inB_ret <|  thn_ret <| ?_
          refine fin1 ?_
          exact ⟨rfl, he06.trans hq7⟩
      · refine J.exit ?_
        refine J.seq ?_
        refine J.seq ?_
        refine J.region ?_
        refine L.va rfl (X.assign (by conv => lhs; whnf)) ?_
        refine L.nil ?_
        refine J.block ?_
        refine J.loop (X := Nat) [4, 7, 55, 56, 57, 58, 59, 60, 61, 62, 63, 64, 65, 66, 67, 68, 69, 70, 71, 72, 73, 74, 75, 76, 77, 78, 79, 80] (fun i => [(7, .int .i64 (i : Int))]) (fun i w' => i ≤ q.no ∧ (∀ j, j < i → q.oOk (q.o.getD j o0)) ∧ Ext w5 w') (fun i => q.no - i) (0) (At1 (by first | rfl | exact at_int rfl (by omega) | exact at_slice rfl (by omega) | exact at_int rfl (by simp))) ?_ ?_
        · exact ⟨Nat.zero_le _, fun j hj => absurd hj (by omega), he6⟩
        · rintro j g w7 ⟨hj, hQ, he7⟩
          have he07 := he05.trans he7
          have z7 := he7.le
          have hk7 := hk2.ext he7
          have o7 := hq.o.ext he07
          refine J.seq ?_
          refine J.seq ?_
          refine J.region ?_
          refine L.va rfl (X.move (by conv => lhs; whnf)) ?_
          refine L.va rfl (X.fieldAddr rfl Try.underlying54 rfl sz_22 (by decide)) ?_
          refine L.va rfl (X.load rfl sc_22 (by first | exact Ld.blk hk7 rfl)) ?_
          refine L.va rfl (X.len rfl Try.underlying22) ?_
          refine L.va rfl (X.lss rfl rfl) ?_
          refine L.nil ?_
          refine J.dec rfl (fun hlt2 => ?_) (fun hlt2 => ?_)
          · have hjn : j < q.no := by omega
            have hA := o7.some_ (by omega)
            obtain ⟨k, m, hkm⟩ : ∃ k m, q.o.getD j o0 = (k, m) := ⟨_, _, rfl⟩
            have hgt := gtO (l := q.o) (i := j) (by omega)
            rw [hkm] at hgt
            have hld := fun (w' : World) (hw : Ext w7 w') => Ld.flat2 oV_len (o7.ext hw) hgt (r := 0) rfl
            refine J.skip ?_
            refine J.seq ?_
            refine J.block ?_
            refine J.seq ?_
            refine J.quiet mixed (by kernel_rfl) ?_
            refine Qt.va rfl (fun w' hw => X.fieldAddr rfl Try.underlying54 rfl sz_22 (by decide)) ?_
            refine Qt.va rfl (fun w' hw => X.load rfl sc_22 (by first | exact Ld.blk (hk7.ext hw) rfl | exact hA | exact hld w' hw)) ?_
            refine Qt.va rfl (fun w' hw => X.move (by conv => lhs; whnf)) ?_
            refine Qt.va rfl (fun w' hw => (by first | exact X.indexAddrn rfl rfl Try.underlying22 sz_98 (by first | exact Option.some_ne_none _ | exact hA | exact hld w' hw) (by omega) | exact X.indexAddr rfl rfl Try.underlying22 sz_98 (by first | exact Option.some_ne_none _ | exact hA | exact hld w' hw) (by omega))) ?_
            refine Qt.va rfl (fun w' hw => X.fieldP rfl Try.underlying98 rfl sz_3 (by decide) (by first | exact Option.some_ne_none _ | exact hA | exact hld w' hw)) ?_
            refine Qt.va rfl (fun w' hw => X.load rfl sc_3 (by first | exact Ld.blk (hk7.ext hw) rfl | exact hA | exact hld w' hw)) ?_
            refine Qt.va rfl (fun w' hw => X.lss rfl rfl) ?_
            refine Qt.va rfl (fun w' hw => X.move (by conv => lhs; whnf)) ?_
            refine Qt.caseDec (k := 69) rfl (fun h7 => ?_) (fun h7 => ?_)
            · refine Qt.no rfl ?_
              refine Qt.no rfl ?_
              refine Qt.no rfl ?_
              refine Qt.no rfl ?_
              refine Qt.no rfl ?_
              refine Qt.no rfl ?_
              refine Qt.no rfl ?_
              refine Qt.no rfl ?_
              refine Qt.no rfl ?_
              refine Qt.no rfl ?_
              refine Qt.va rfl (fun w' hw => X.pickT rfl (by conv => lhs; whnf)) ?_
              refine Qt.nil (fun w8 hq8 => ?_)
              replace hk7 := hk7.ext hq8
              refine J.iteT rfl ?_
              rw [qc_2 hc h2 h3 (by omega) (.inr (.inl ⟨j, hjn, by rw [hkm]; unfold Qu.oOk; dsimp only; omega⟩))]
              refine J.seq ?_
              refine J.region ?_
              refine L.va rfl (X.assign (by conv => lhs; whnf)) ?_
              refine L.nil ?_
              refine J.ret ?_
              refine inB_ret <|  thn_ret <|  thn_ret <|  inB_ret <|  thn_ret <| ?_
              refine fin1 ?_
              exact ⟨rfl, he07.trans hq8⟩
            refine Qt.va rfl (fun w' hw => X.fieldAddr rfl Try.underlying54 rfl sz_22 (by decide)) ?_
            refine Qt.va rfl (fun w' hw => X.load rfl sc_22 (by first | exact Ld.blk (hk7.ext hw) rfl | exact hA | exact hld w' hw)) ?_
            refine Qt.va rfl (fun w' hw => X.move (by conv => lhs; whnf)) ?_
            refine Qt.va rfl (fun w' hw => (by first | exact X.indexAddrn rfl rfl Try.underlying22 sz_98 (by first | exact Option.some_ne_none _ | exact hA | exact hld w' hw) (by omega) | exact X.indexAddr rfl rfl Try.underlying22 sz_98 (by first | exact Option.some_ne_none _ | exact hA | exact hld w' hw) (by omega))) ?_
            refine Qt.va rfl (fun w' hw => X.fieldP rfl Try.underlying98 rfl sz_3 (by decide) (by first | exact Option.some_ne_none _ | exact hA | exact hld w' hw)) ?_
            refine Qt.va rfl (fun w' hw => X.load rfl sc_3 (by first | exact Ld.blk (hk7.ext hw) rfl | exact hA | exact hld w' hw)) ?_
            refine Qt.va rfl (fun w' hw => X.fieldAddr rfl Try.underlying54 rfl sz_52 (by decide)) ?_
            refine Qt.va rfl (fun w' hw => X.load rfl sc_52 (by first | exact Ld.blk (hk7.ext hw) rfl | exact hA | exact hld w' hw)) ?_
            refine Qt.va rfl (fun w' hw => X.len rfl Try.underlying52) ?_
            refine Qt.va rfl (fun w' hw => X.geq rfl rfl) ?_
            refine Qt.va rfl (fun w' hw => X.pickF rfl (by conv => lhs; whnf)) ?_
            refine Qt.nil (fun w8 hq8 => ?_)
            replace hk7 := hk7.ext hq8
            refine J.dec rfl (fun h8 => ?_) (fun h8 => ?_)
            · rw [qc_2 hc h2 h3 (by omega) (.inr (.inl ⟨j, hjn, by rw [hkm]; unfold Qu.oOk; dsimp only; omega⟩))]
              refine J.seq ?_
              refine J.region ?_
              refine L.va rfl (X.assign (by conv => lhs; whnf)) ?_
              refine L.nil ?_
              refine J.ret ?_
              refine inB_ret <|  thn_ret <|  thn_ret <|  inB_ret <|  thn_ret <| ?_
              refine fin1 ?_
              exact ⟨rfl, he07.trans hq8⟩
            refine J.skip ?_
            refine J.region ?_
            refine L.va rfl (X.move (by conv => lhs; whnf)) ?_
            refine L.va rfl (X.add rfl rfl (by omega)) ?_
            refine L.va rfl (X.assign (by conv => lhs; whnf)) ?_
            refine L.nil ?_
            refine ⟨j + 1, At1 (by first | rfl | exact at_int rfl (by omega) | exact at_slice rfl (by omega) | exact at_int rfl (by simp)), (by (iterate 28 refine Agr.lk rfl ?_); exact Agr.lk rfl (Agr.hav rfl Agr.rfl')), ?_⟩
            refine ⟨⟨by omega, fun j' hj' => ?_, he7.trans hq8⟩, by omega⟩
            rcases Nat.lt_or_ge j' j with h | h
            · exact hQ j' h
            · obtain rfl : j' = j := by omega
              rw [hkm]; exact ⟨by dsimp only; omega, by dsimp only; omega⟩
          · refine J.exit ?_
            refine J.seq ?_
            refine J.seq ?_
            refine J.region ?_
            refine L.va rfl (X.fieldAddr rfl Try.underlying54 rfl sz_3 (by decide)) ?_
            refine L.va rfl (X.load rfl sc_3 (by first | exact Ld.blk hk7 rfl)) ?_
            refine L.va rfl (X.lss rfl rfl) ?_
            refine L.nil ?_
            refine J.dec rfl (fun h9 => ?_) (fun h9 => ?_)
            · rw [qc_2 hc h2 h3 (by omega) (.inr (.inr h9))]
              refine J.seq ?_
              refine J.region ?_
              refine L.va rfl (X.assign (by conv => lhs; whnf)) ?_
              refine L.nil ?_
              refine J.ret ?_
              refine thn_ret <| ?_
              refine fin1 ?_
              exact ⟨rfl, he07⟩
            · rw [qc_0 hc h2 h3 (by omega) (fun i hi => hP i (by omega)) (fun i hi => hQ i (by omega)) h9]
              refine J.skip ?_
              refine J.seq ?_
              refine J.region ?_
              refine L.va rfl (X.assign (by conv => lhs; whnf)) ?_
              refine L.nil ?_
              refine J.ret ?_
              refine fin1 ?_
              exact ⟨rfl, he07⟩
  · rw [decide_eq_false h2, qc_11 hc h2]
    refine J.iteT rfl ?_
    refine J.seq ?_
    refine J.region ?_
    refine L.va rfl (X.assign (by conv => lhs; whnf)) ?_
    refine L.nil ?_
    refine J.ret ?_
    refine thn_ret <| ?_
    refine fin1 ?_
    exact ⟨rfl, he04⟩
end Go.Proofs.Ytlipeplfjkgamaa
namespace Go.Proofs.Ytlipeplfjkgamaa
set_option maxRecDepth 100000
open Go.RowKit H
set_option linter.unusedVariables false
namespace H
section
variable {P : Program} {w : World} {ρ : Operand → Value} {d : Option Tmp} {tx tz ty : TypeId} {x y : Operand} {pos : String} {aft : Array Edge} {g : Option (Nat × Bool)} {k ky : IntKind} {m n z : Int}
theorem X.orE (hx : ρ x = .int k m) (hy : ρ y = .int k n) (h : bits .or k m n = z) : (execOp ρ ⟨d, .binOp .or tx x y tz, ty, pos, aft, g⟩).run P w = .ok (.value (.int k z)) w := by rw [← h]; exact X.or hx hy
theorem X.shlE (hx : ρ x = .int k m) (hy : ρ y = .int ky n) (h0 : 0 ≤ n) (h : k.wrap (m * 2 ^ min n.toNat k.bits) = z) : (execOp ρ ⟨d, .binOp .shl tx x y tz, ty, pos, aft, g⟩).run P w = .ok (.value (.int k z)) w := by rw [← h]; exact X.shl hx hy h0
theorem X.addE (hx : ρ x = .int k m) (hy : ρ y = .int k n) (h : k.wrap (m + n) = z) : (execOp ρ ⟨d, .binOp .add tx x y tz, ty, pos, aft, g⟩).run P w = .ok (.value (.int k z)) w := by rw [← h]; exact X.addw hx hy
end
end H
theorem shl32 {n : Int} (h0 : 0 ≤ n) (h : n < 32) : IntKind.u32.wrap (1 * 2 ^ min n.toNat IntKind.u32.bits) = ((2 ^ n.toNat : Nat) : Int) := by
  have hp := two_pow_lt (d := n.toNat) (by omega)
  have e : min n.toNat IntKind.u32.bits = n.toNat := Nat.min_eq_left (by show n.toNat ≤ 32; omega)
  rw [e, Int.one_mul, show (2 : Int) ^ n.toNat = ((2 ^ n.toNat : Nat) : Int) by simp]
  generalize 2 ^ n.toNat = q at hp ⊢
  rw [w32 (by omega)]
theorem fneed_ (f : Fis) (w : World) (hf : f.At w.heap.size w) : Calls Try.prog 93 #[f.val] w fun e w' => e = .returned (.int .u32 ((fneed f.l : Nat) : Int)) ∧ Ext w w' := by
  have hl := hf.l
  have hm := hf.m
  unfold maxLen at hm
  refine enter Try.func93 rfl (by kernel_rfl) ?_
  refine J.seq ?_
  refine J.region ?_
  refine L.va rfl (X.assign (by conv => lhs; whnf)) ?_
  refine L.nil ?_
  refine J.seq ?_
  refine J.region ?_
  refine L.va rfl (X.assign (by conv => lhs; whnf)) ?_
  refine L.nil ?_
  refine J.seq ?_
  refine J.seq ?_
  refine J.region ?_
  refine L.va rfl (X.move (by conv => lhs; whnf)) ?_
  refine L.va rfl (X.len rfl Try.underlying51) ?_
  refine L.va rfl (X.move (by conv => lhs; whnf)) ?_
  refine L.nil ?_
  refine J.block ?_
  refine J.loop (X := Nat) [3, 5, 8, 9, 10, 11, 12, 13, 14, 15, 16, 17, 18, 19, 20, 21, 22, 23, 24, 25] (fun i => [(8, .int .i64 (i : Int)), (3, .int .u32 ((fneed (f.l.take i) : Nat) : Int))]) (fun i w' => i ≤ f.n ∧ Ext w w') (fun i => f.n - i) (0) (At2 (by first | rfl | exact at_int rfl (by omega) | exact at_slice rfl (by omega) | exact at_int rfl (by simp)) (by first | rfl | exact at_int rfl (by omega) | exact at_slice rfl (by omega) | exact at_int rfl (by simp))) ?_ ?_
  · exact ⟨Nat.zero_le _, Ext.refl _⟩
  · rintro i g w1 ⟨hi, he1⟩
    have z1 := he1.le
    have hf1 := hf.ext he1
    refine J.seq ?_
    refine J.region ?_
    refine L.va rfl (X.lss rfl rfl) ?_
    refine L.nil ?_
    refine J.seq ?_
    refine J.dec rfl (fun hlt => ?_) (fun hlt => ?_)
    · have hin : i < f.n := by omega
      have hA := hf1.r.some_ (by omega)
      obtain ⟨x, hx⟩ : ∃ x, x = f.l.getD i fi0 := ⟨_, rfl⟩
      have hgt := gtF (l := f.l) (i := i) (by omega)
      have hnx := fneed_take (l := f.l) (i := i) (by omega)
      rw [← hx] at hgt hnx
      refine J.skip ?_
      refine J.seq ?_
      refine J.block ?_
      refine J.seq ?_
      refine J.region ?_
      refine L.va rfl ((by first | exact X.indexAddrn rfl rfl Try.underlying51 sz_150 (by first | exact Option.some_ne_none _ | exact hA) (by omega) | exact X.indexAddr rfl rfl Try.underlying51 sz_150 (by first | exact Option.some_ne_none _ | exact hA) (by omega))) ?_
      refine L.va rfl (X.loadRow (cs := x.vs) rfl hf1.r (fun r u hu => flat_row fi_len hgt r u hu) (Nat.zero_lt_succ _) Try.underlying150 rfl (by kernel_rfl)) ?_
      refine L.alloc rfl zr_150 ?_
      intro b4 w4 hb4 hs4 hk4 he4
      refine L.storeAgg (vs := [_, _]) rfl rfl rfl rfl sz_150 (hk4) rfl ?_
      intro w5 hk5 hg5 hs5
      have he15 : Ext w1 w5 := he4.grw hg5 (by intro g hg; injection hg with hg; omega)
      have hk5 : Blk w5 b4 150 x.vs.toArray := hk5
      refine L.nil ?_
      refine J.seq ?_
      refine J.region ?_
      refine L.va rfl (X.fieldAddr rfl Try.underlying150 rfl sz_3 (by decide)) ?_
      refine L.va rfl (X.load rfl sc_3 (by first | exact Ld.blk hk5 rfl | exact hA)) ?_
      refine L.va rfl (X.geq rfl rfl) ?_
      refine L.va rfl (X.move (by conv => lhs; whnf)) ?_
      refine L.caseDec (k := 15) rfl (fun h1 => ?_) (fun h1 => ?_)
      · refine L.va rfl (X.fieldAddr rfl Try.underlying150 rfl sz_3 (by decide)) ?_
        refine L.va rfl (X.load rfl sc_3 (by first | exact Ld.blk hk5 rfl | exact hA)) ?_
        refine L.va rfl (X.lss rfl rfl) ?_
        refine L.va rfl (X.pickT rfl (by conv => lhs; whnf)) ?_
        refine L.nil ?_
        refine J.dec rfl (fun h2 => ?_) (fun h2 => ?_)
        · have e : bits .or .u32 ((fneed (f.l.take i) : Nat) : Int) ((2 ^ x.d.toNat : Nat) : Int) = ((fneed (f.l.take (i + 1)) : Nat) : Int) := by
            rw [u32_or_nat _ _ (fneed_lt _) (two_pow_lt (by omega)), hnx]; unfold fbit; rw [if_pos ⟨h1, h2⟩]
          refine J.region ?_
          refine L.va rfl (X.move (by conv => lhs; whnf)) ?_
          refine L.va rfl (X.fieldAddr rfl Try.underlying150 rfl sz_3 (by decide)) ?_
          refine L.va rfl (X.load rfl sc_3 (by first | exact Ld.blk hk5 rfl | exact hA)) ?_
          refine L.va rfl (X.shlE rfl rfl h1 (shl32 h1 h2)) ?_
          refine L.va rfl (X.orE rfl rfl e) ?_
          refine L.va rfl (X.assign (by conv => lhs; whnf)) ?_
          refine L.nil ?_
          refine J.region ?_
          refine L.va rfl (X.add rfl rfl (by omega)) ?_
          refine L.va rfl (X.move (by conv => lhs; whnf)) ?_
          refine L.nil ?_
          refine ⟨i + 1, At2 (by first | rfl | exact at_int rfl (by omega) | exact at_slice rfl (by omega) | exact at_int rfl (by simp)) (by first | rfl | exact at_int rfl (by omega) | exact at_slice rfl (by omega) | exact at_int rfl (by simp)), (by (iterate 21 refine Agr.lk rfl ?_); exact Agr.lk rfl (Agr.hav rfl Agr.rfl')), ?_⟩
          exact ⟨⟨by omega, he1.trans he15⟩, by omega⟩
        · have e : fneed (f.l.take i) = fneed (f.l.take (i + 1)) := by rw [hnx]; unfold fbit; rw [if_neg (fun h => h2 h.2), Nat.or_zero]
          refine J.skip ?_
          refine J.region ?_
          refine L.va rfl (X.add rfl rfl (by omega)) ?_
          refine L.va rfl (X.move (by conv => lhs; whnf)) ?_
          refine L.nil ?_
          rw [e]
          refine ⟨i + 1, At2 (by first | rfl | exact at_int rfl (by omega) | exact at_slice rfl (by omega) | exact at_int rfl (by simp)) (by first | rfl | exact at_int rfl (by omega) | exact at_slice rfl (by omega) | exact at_int rfl (by simp)), (by (iterate 15 refine Agr.lk rfl ?_); exact Agr.lk rfl (Agr.hav rfl Agr.rfl')), ?_⟩
          exact ⟨⟨by omega, he1.trans he15⟩, by omega⟩
      · have e : fneed (f.l.take i) = fneed (f.l.take (i + 1)) := by rw [hnx]; unfold fbit; rw [if_neg (fun h => h1 h.1), Nat.or_zero]
        refine L.no rfl ?_
        refine L.no rfl ?_
        refine L.no rfl ?_
        refine L.va rfl (X.pickF rfl (by conv => lhs; whnf)) ?_
        refine L.nil ?_
        refine J.iteF rfl ?_
        refine J.skip ?_
        refine J.region ?_
        refine L.va rfl (X.add rfl rfl (by omega)) ?_
        refine L.va rfl (X.move (by conv => lhs; whnf)) ?_
        refine L.nil ?_
        rw [e]
        refine ⟨i + 1, At2 (by first | rfl | exact at_int rfl (by omega) | exact at_slice rfl (by omega) | exact at_int rfl (by simp)) (by first | rfl | exact at_int rfl (by omega) | exact at_slice rfl (by omega) | exact at_int rfl (by simp)), (by (iterate 15 refine Agr.lk rfl ?_); exact Agr.lk rfl (Agr.hav rfl Agr.rfl')), ?_⟩
        exact ⟨⟨by omega, he1.trans he15⟩, by omega⟩
    · obtain rfl : i = f.n := by omega
      rw [List.take_of_length_le (by omega)]
      refine J.exit ?_
      refine J.seq ?_
      refine J.region ?_
      refine L.va rfl (X.move (by conv => lhs; whnf)) ?_
      refine L.va rfl (X.assign (by conv => lhs; whnf)) ?_
      refine L.nil ?_
      refine J.ret ?_
      refine fin1 ?_
      exact ⟨rfl, he1⟩
theorem any_take_next {l : List Fi} {i : Nat} (h : i < l.length) (p : Fi → Bool) : (l.take (i + 1)).any p = ((l.take i).any p || p (l.getD i fi0)) := by
  rw [List.take_succ_eq_append_getElem h, List.any_append, List.getD, List.getElem?_eq_getElem h]; simp
theorem rfneed_ (f : Fis) (w : World) (hf : f.At w.heap.size w) : Calls Try.prog 94 #[f.val] w fun e w' => e = .returned (.int .u32 ((fneed f.l : Nat) : Int)) ∧ w = w' := by
  have hl := hf.l
  have hm := hf.m
  have hlt32 := fneed_lt f.l
  unfold maxLen at hm
  refine enter Try.func94 rfl (by kernel_rfl) ?_
  refine J.seq ?_
  refine J.region ?_
  refine L.va rfl (X.assign (by conv => lhs; whnf)) ?_
  refine L.nil ?_
  refine J.seq ?_
  refine J.region ?_
  refine L.va rfl (X.assign (by conv => lhs; whnf)) ?_
  refine L.nil ?_
  refine J.seq ?_
  refine J.seq ?_
  refine J.region ?_
  refine L.va rfl (X.assign (by conv => lhs; whnf)) ?_
  refine L.nil ?_
  refine J.block ?_
  refine J.loop (X := Nat) [3, 4, 5, 6, 7, 8, 9, 10, 11, 12, 13, 14, 15, 16, 17, 18, 19, 20, 21, 22, 23, 24, 25, 26] (fun d => [(4, .int .i64 (d : Int)), (3, .int .u32 ((fneed f.l % 2 ^ d : Nat) : Int))]) (fun d w' => w' = w ∧ d ≤ 32) (fun d => 32 - d) (0) (At2 (by first | rfl | exact at_int rfl (by omega) | exact at_slice rfl (by omega) | exact at_int rfl (by simp)) (by first | rfl | exact at_int rfl (by omega) | exact at_slice rfl (by omega) | exact at_int rfl (by simp))) ?_ ?_
  · exact ⟨rfl, Nat.zero_le _⟩
  · rintro d g w1 ⟨rfl, hd⟩
    refine J.seq ?_
    refine J.seq ?_
    refine J.region ?_
    refine L.va rfl (X.move (by conv => lhs; whnf)) ?_
    refine L.va rfl (X.lss rfl rfl) ?_
    refine L.nil ?_
    refine J.dec rfl (fun hlt => ?_) (fun hlt => ?_)
    · have hd32 : d < 32 := by omega
      have hnx := mod_next (fneed f.l) d
      have htest := fneed_test d hd32 f.l
      have h2 := two_pow_lt hd32
      have hmd := mod_lt32 (d := d + 1) hlt32
      refine J.skip ?_
      refine J.cut (X := Nat) [3, 5, 10, 11, 12, 13, 14, 15, 16, 17, 18, 19, 20, 21, 22, 23, 24, 25, 26] (fun d' => [(3, .int .u32 ((fneed f.l % 2 ^ (d + 1) : Nat) : Int))]) (fun d' w' => w' = w1) ?_ ?_
      · refine J.block ?_
        refine J.seq ?_
        refine J.region ?_
        refine L.va rfl (X.assign (by conv => lhs; whnf)) ?_
        refine L.nil ?_
        refine J.block ?_
        refine J.loop (X := Nat) [3, 5, 10, 11, 12, 13, 14, 15, 16, 17, 18, 19, 20, 21, 22, 23, 24, 25, 26] (fun i => [(5, .int .i64 (i : Int)), (3, .int .u32 ((fneed f.l % 2 ^ d : Nat) : Int))]) (fun i w' => w' = w1 ∧ i ≤ f.n ∧ ((f.l.take i).any fun f => decide (f.d = (d : Int))) = false) (fun i => f.n - i) (0) (At2 (by first | rfl | exact at_int rfl (by omega) | exact at_slice rfl (by omega) | exact at_int rfl (by simp)) (by first | rfl | exact at_int rfl (by omega) | exact at_slice rfl (by omega) | exact at_int rfl (by simp))) ?_ ?_
        · exact ⟨rfl, Nat.zero_le _, rfl⟩
        · rintro i g w2 ⟨rfl, hi, hP⟩
          refine J.seq ?_
          refine J.seq ?_
          refine J.region ?_
          refine L.va rfl (X.move (by conv => lhs; whnf)) ?_
          refine L.va rfl (X.move (by conv => lhs; whnf)) ?_
          refine L.va rfl (X.len rfl Try.underlying51) ?_
          refine L.va rfl (X.lss rfl rfl) ?_
          refine L.nil ?_
          refine J.dec rfl (fun hlt2 => ?_) (fun hlt2 => ?_)
          · have hin : i < f.n := by omega
            have hA := hf.r.some_ (by omega)
            have hgt := gtF (l := f.l) (i := i) (by omega)
            have han := any_take_next (l := f.l) (i := i) (by omega) fun f => decide (f.d = (d : Int))
            refine J.skip ?_
            refine J.seq ?_
            refine J.block ?_
            refine J.seq ?_
            refine J.region ?_
            refine L.va rfl (X.move (by conv => lhs; whnf)) ?_
            refine L.va rfl (X.move (by conv => lhs; whnf)) ?_
            refine L.va rfl ((by first | exact X.indexAddrn rfl rfl Try.underlying51 sz_150 (by first | exact Option.some_ne_none _ | exact hA) (by omega) | exact X.indexAddr rfl rfl Try.underlying51 sz_150 (by first | exact Option.some_ne_none _ | exact hA) (by omega))) ?_
            refine L.va rfl (X.fieldP rfl Try.underlying150 rfl sz_3 (by decide) (by first | exact Option.some_ne_none _ | exact hA)) ?_
            refine L.va rfl (X.load rfl sc_3 (by first | exact hA | exact Ld.flat2 fi_len hf.r hgt (r := 0) rfl)) ?_
            refine L.va rfl (X.move (by conv => lhs; whnf)) ?_
            refine L.va rfl (X.eql rfl rfl) ?_
            refine L.nil ?_
            refine J.dec rfl (fun heq => ?_) (fun heq => ?_)
            · have hany : (f.l.any fun f => decide (f.d = (d : Int))) = true := List.any_eq_true.2 ⟨_, memF (by omega : i < f.l.length), decide_eq_true heq⟩
              rw [hany] at htest
              rw [htest, if_pos rfl] at hnx
              refine J.seq ?_
              refine J.region ?_
              refine L.va rfl (X.move (by conv => lhs; whnf)) ?_
              refine L.va rfl (X.move (by conv => lhs; whnf)) ?_
              refine L.call rfl en_96 rfl (rtwo_any d w2 hd32) ?_
              rintro e _ ⟨rfl, rfl⟩
              refine ⟨_, rfl, ?_⟩
              refine L.va rfl (X.addE rfl rfl (show IntKind.u32.wrap (((fneed f.l % 2 ^ d : Nat) : Int) + ((2 ^ d : Nat) : Int)) = ((fneed f.l % 2 ^ (d + 1) : Nat) : Int) by rw [hnx] at hmd ⊢; rw [w32 (by omega)]; omega)) ?_
              refine L.va rfl (X.assign (by conv => lhs; whnf)) ?_
              refine L.nil ?_
              refine J.exit ?_
              refine ⟨0, At1 (by first | rfl | exact at_int rfl (by omega) | exact at_slice rfl (by omega) | exact at_int rfl (by simp)), (by (iterate 16 refine Agr.lk rfl ?_); refine Agr.lk rfl ?_; refine Agr.hav rfl ?_; (iterate 1 refine Agr.lk rfl ?_); exact Agr.rfl'), ?_⟩
              rfl
            · refine J.skip ?_
              refine J.region ?_
              refine L.va rfl (X.move (by conv => lhs; whnf)) ?_
              refine L.va rfl (X.add rfl rfl (by omega)) ?_
              refine L.va rfl (X.assign (by conv => lhs; whnf)) ?_
              refine L.nil ?_
              refine ⟨i + 1, At2 (by first | rfl | exact at_int rfl (by omega) | exact at_slice rfl (by omega) | exact at_int rfl (by simp)) (by first | rfl | exact at_int rfl (by omega) | exact at_slice rfl (by omega) | exact at_int rfl (by simp)), (by (iterate 14 refine Agr.lk rfl ?_); exact Agr.lk rfl (Agr.hav rfl Agr.rfl')), ?_⟩
              refine ⟨⟨rfl, by omega, ?_⟩, by omega⟩
              rw [han, hP, Bool.false_or]
              exact decide_eq_false heq
          · have hany : (f.l.any fun f => decide (f.d = (d : Int))) = false := by rwa [List.take_of_length_le (by omega)] at hP
            rw [hany] at htest
            have hnx' : fneed f.l % 2 ^ d = fneed f.l % 2 ^ (d + 1) := by rw [hnx, htest]; rfl
            rw [hnx']
            refine J.exit ?_
            refine ⟨0, At1 (by first | rfl | exact at_int rfl (by omega) | exact at_slice rfl (by omega) | exact at_int rfl (by simp)), (by (iterate 4 refine Agr.lk rfl ?_); refine Agr.lk rfl ?_; refine Agr.hav rfl ?_; (iterate 1 refine Agr.lk rfl ?_); exact Agr.rfl'), ?_⟩
            rfl
      · rintro d' g w2 rfl
        refine J.region ?_
        refine L.va rfl (X.move (by conv => lhs; whnf)) ?_
        refine L.va rfl (X.add rfl rfl (by omega)) ?_
        refine L.va rfl (X.assign (by conv => lhs; whnf)) ?_
        refine L.nil ?_
        refine ⟨d + 1, At2 (by first | rfl | exact at_int rfl (by omega) | exact at_slice rfl (by omega) | exact at_int rfl (by simp)) (by first | rfl | exact at_int rfl (by omega) | exact at_slice rfl (by omega) | exact at_int rfl (by simp)), (by (iterate 3 refine Agr.lk rfl ?_); refine Agr.lk rfl ?_; refine Agr.hav rfl ?_; (iterate 2 refine Agr.lk rfl ?_); exact Agr.lk rfl (Agr.hav rfl Agr.rfl')), ?_⟩
        exact ⟨⟨rfl, by omega⟩, by omega⟩
    · obtain rfl : d = 32 := by omega
      rw [mod_all hlt32]
      refine J.exit ?_
      refine J.seq ?_
      refine J.region ?_
      refine L.va rfl (X.move (by conv => lhs; whnf)) ?_
      refine L.va rfl (X.assign (by conv => lhs; whnf)) ?_
      refine L.nil ?_
      refine J.ret ?_
      refine fin1 ?_
      exact ⟨rfl, rfl⟩
end Go.Proofs.Ytlipeplfjkgamaa
namespace Go.Proofs.Ytlipeplfjkgamaa
set_option maxRecDepth 100000
open Go.RowKit H
open Mk
set_option linter.unusedVariables false
theorem qneed_ (q : Qu) {w : World} (hq : q.At w.heap.size w) : Calls Try.prog 34 #[q.val] w fun e w' => e = .returned (.int .u32 ((qneed q : Nat) : Int)) ∧ Ext w w' := by
  have hg := hq.g
  refine enter Try.func34 rfl (by kernel_rfl) ?_
  refine J.seq ?_
  refine J.region ?_
  refine L.boxA (l := [_, _, _, _, _]) rfl rfl ?_
  intro b1 w1 hb1 hs1 hk1 he1
  have hk1 : Blk w1 b1 54 q.vs.toArray := hk1
  have q1 := hq.ext he1
  have z1 := he1.le
  refine L.va rfl (X.assign (by conv => lhs; whnf)) ?_
  refine L.nil ?_
  refine J.seq ?_
  refine J.quiet mixed (by kernel_rfl) ?_
  refine Qt.va rfl (fun w' hw => X.fieldAddr rfl Try.underlying54 rfl sz_50 (by decide)) ?_
  refine Qt.va rfl (fun w' hw => X.load rfl sc_50 (by first | exact Ld.blk (hk1.ext hw) rfl)) ?_
  refine Qt.va rfl (fun w' hw => X.fieldAddr rfl Try.underlying54 rfl sz_51 (by decide)) ?_
  refine Qt.va rfl (fun w' hw => X.load rfl sc_51 (by first | exact Ld.blk (hk1.ext hw) rfl)) ?_
  refine Qt.call rfl en_93 rfl (fun w' hw => calls_ext hw (fneed_ q.f w' ((q1.f.ext hw).more (Nat.le_trans z1 hw.le)))) ?_
  refine Qt.va rfl (fun w' hw => X.orE rfl rfl (show bits .or .u32 (q.g : Int) ((fneed q.f.l : Nat) : Int) = ((qneed q : Nat) : Int) from u32_or_nat _ _ hg (fneed_lt _))) ?_
  refine Qt.va rfl (fun w' hw => X.assign (by conv => lhs; whnf)) ?_
  refine Qt.nil (fun w2 hw2 => ?_)
  replace hk1 := hk1.ext hw2
  refine J.ret ?_
  refine fin1 ?_
  exact ⟨rfl, he1.trans hw2⟩
theorem rqneed_ (q : Qu) {w : World} (hq : q.At w.heap.size w) : Calls Try.prog 35 #[q.val] w fun e w' => e = .returned (.int .u32 ((qneed q : Nat) : Int)) ∧ Ext w w' := by
  have hg := hq.g
  have hf := fneed_lt q.f.l
  refine enter Try.func35 rfl (by kernel_rfl) ?_
  refine J.seq ?_
  refine J.region ?_
  refine L.boxA (l := [_, _, _, _, _]) rfl rfl ?_
  intro b1 w1 hb1 hs1 hk1 he1
  have hk1 : Blk w1 b1 54 q.vs.toArray := hk1
  have q1 := (hq.ext he1).more he1.le
  refine L.va rfl (X.assign (by conv => lhs; whnf)) ?_
  refine L.nil ?_
  refine J.seq ?_
  refine J.region ?_
  refine L.va rfl (X.fieldAddr rfl Try.underlying54 rfl sz_51 (by decide)) ?_
  refine L.va rfl (X.load rfl sc_51 (by first | exact Ld.blk hk1 rfl)) ?_
  refine L.call rfl en_94 rfl (rfneed_ q.f w1 q1.f) ?_
  rintro e _ ⟨rfl, rfl⟩
  refine ⟨_, rfl, ?_⟩
  refine L.va rfl (X.assign (by conv => lhs; whnf)) ?_
  refine L.nil ?_
  refine J.seq ?_
  refine J.seq ?_
  refine J.region ?_
  refine L.va rfl (X.assign (by conv => lhs; whnf)) ?_
  refine L.nil ?_
  refine J.block ?_
  refine J.loop (X := Nat × Nat) [3, 4, 8, 9, 10, 11, 12, 13, 14, 15, 16, 17, 18, 19, 20, 21, 22, 23, 24, 25] (fun (d, x) => [(4, .int .i64 (d : Int)), (3, .int .u32 ((x : Nat) : Int))]) (fun (d, x) w' => w' = w1 ∧ d ≤ 32 ∧ x = fneed q.f.l ||| (q.g % 2 ^ d)) (fun (d, _) => 32 - d) ((0, fneed q.f.l)) (At2 (by first | rfl | exact at_int rfl (by omega) | exact at_slice rfl (by omega) | exact at_int rfl (by simp)) (by first | rfl | exact at_int rfl (by omega) | exact at_slice rfl (by omega) | exact at_int rfl (by simp))) ?_ ?_
  · exact ⟨rfl, Nat.zero_le _, by simp [Nat.mod_one]⟩
  · rintro ⟨d, x⟩ g w2 ⟨rfl, hd, hx⟩
    have hx32 : x < 4294967296 := by rw [hx]; exact Nat.or_lt_two_pow (n := 32) hf (mod_lt32 hg)
    refine J.seq ?_
    refine J.seq ?_
    refine J.region ?_
    refine L.va rfl (X.move (by conv => lhs; whnf)) ?_
    refine L.va rfl (X.lss rfl rfl) ?_
    refine L.nil ?_
    refine J.dec rfl (fun hlt => ?_) (fun hlt => ?_)
    · have hd32 : d < 32 := by omega
      have hnx := or_next (a := fneed q.f.l) (b := q.g) (d := d) hx
      have hn32 : fneed q.f.l ||| (q.g % 2 ^ (d + 1)) < 4294967296 := Nat.or_lt_two_pow (n := 32) hf (mod_lt32 hg)
      refine J.skip ?_
      refine J.seq ?_
      refine J.block ?_
      refine J.seq ?_
      refine J.region ?_
      refine L.va rfl (X.fieldAddr rfl Try.underlying54 rfl sz_50 (by decide)) ?_
      refine L.va rfl (X.load rfl sc_50 (by first | exact Ld.blk hk1 rfl)) ?_
      refine L.va rfl (X.move (by conv => lhs; whnf)) ?_
      refine L.call rfl en_95 rfl (rin_any q.g d w2 hg hd32) ?_
      rintro e _ ⟨rfl, rfl⟩
      refine ⟨_, rfl, ?_⟩
      refine L.va rfl (X.move (by conv => lhs; whnf)) ?_
      have hc : (q.g.testBit d = true ∧ x.testBit d = false) ∨ (q.g.testBit d = true ∧ x.testBit d = true) ∨ q.g.testBit d = false := by cases q.g.testBit d <;> cases x.testBit d <;> simp
      rcases hc with ⟨k1, k2⟩ | ⟨k1, k2⟩ | k1
      · rw [if_pos ⟨k1, k2⟩] at hnx
        rw [k1]
        refine L.caseBT (k := 16) rfl (by rfl) ?_
        refine L.va rfl (X.move (by conv => lhs; whnf)) ?_
        refine L.va rfl (X.move (by conv => lhs; whnf)) ?_
        refine L.call rfl en_95 rfl (rin_any x d w2 hx32 hd32) ?_
        rintro e _ ⟨rfl, rfl⟩
        refine ⟨_, rfl, ?_⟩
        rw [k2]
        refine L.va rfl (X.not rfl) ?_
        refine L.va rfl (X.pickT rfl (by conv => lhs; whnf)) ?_
        refine L.nil ?_
        refine J.iteT rfl ?_
        refine J.region ?_
        refine L.va rfl (X.move (by conv => lhs; whnf)) ?_
        refine L.va rfl (X.move (by conv => lhs; whnf)) ?_
        refine L.call rfl en_96 rfl (rtwo_any d w2 hd32) ?_
        rintro e _ ⟨rfl, rfl⟩
        refine ⟨_, rfl, ?_⟩
        refine L.va rfl (X.addE rfl rfl (show IntKind.u32.wrap ((x : Int) + ((2 ^ d : Nat) : Int)) = ((x + 2 ^ d : Nat) : Int) by rw [← hnx] at hn32; rw [w32 (by omega)]; omega)) ?_
        refine L.va rfl (X.assign (by conv => lhs; whnf)) ?_
        refine L.nil ?_
        refine J.region ?_
        refine L.va rfl (X.move (by conv => lhs; whnf)) ?_
        refine L.va rfl (X.add rfl rfl (by omega)) ?_
        refine L.va rfl (X.assign (by conv => lhs; whnf)) ?_
        refine L.nil ?_
        refine ⟨(d + 1, x + 2 ^ d), At2 (by first | rfl | exact at_int rfl (by omega) | exact at_slice rfl (by omega) | exact at_int rfl (by simp)) (by first | rfl | exact at_int rfl (by omega) | exact at_slice rfl (by omega) | exact at_int rfl (by simp)), (by (iterate 21 refine Agr.lk rfl ?_); exact Agr.lk rfl (Agr.hav rfl Agr.rfl')), ?_⟩
        exact ⟨⟨rfl, by omega, hnx⟩, by show 32 - (d + 1) < 32 - d; omega⟩
      · rw [if_neg (fun h => by rw [k2] at h; exact absurd h.2 (by decide))] at hnx
        rw [k1]
        refine L.caseBT (k := 16) rfl (by rfl) ?_
        refine L.va rfl (X.move (by conv => lhs; whnf)) ?_
        refine L.va rfl (X.move (by conv => lhs; whnf)) ?_
        refine L.call rfl en_95 rfl (rin_any x d w2 hx32 hd32) ?_
        rintro e _ ⟨rfl, rfl⟩
        refine ⟨_, rfl, ?_⟩
        rw [k2]
        refine L.va rfl (X.not rfl) ?_
        refine L.va rfl (X.pickT rfl (by conv => lhs; whnf)) ?_
        refine L.nil ?_
        refine J.iteF rfl ?_
        refine J.skip ?_
        refine J.region ?_
        refine L.va rfl (X.move (by conv => lhs; whnf)) ?_
        refine L.va rfl (X.add rfl rfl (by omega)) ?_
        refine L.va rfl (X.assign (by conv => lhs; whnf)) ?_
        refine L.nil ?_
        refine ⟨(d + 1, x), At2 (by first | rfl | exact at_int rfl (by omega) | exact at_slice rfl (by omega) | exact at_int rfl (by simp)) (by first | rfl | exact at_int rfl (by omega) | exact at_slice rfl (by omega) | exact at_int rfl (by simp)), (by (iterate 16 refine Agr.lk rfl ?_); exact Agr.lk rfl (Agr.hav rfl Agr.rfl')), ?_⟩
        exact ⟨⟨rfl, by omega, hnx⟩, by show 32 - (d + 1) < 32 - d; omega⟩
      · rw [if_neg (fun h => by rw [k1] at h; exact absurd h.1 (by decide))] at hnx
        rw [k1]
        refine L.caseBF (k := 16) rfl (by rfl) ?_
        refine L.no rfl ?_
        refine L.no rfl ?_
        refine L.no rfl ?_
        refine L.no rfl ?_
        refine L.va rfl (X.pickF rfl (by conv => lhs; whnf)) ?_
        refine L.nil ?_
        refine J.iteF rfl ?_
        refine J.skip ?_
        refine J.region ?_
        refine L.va rfl (X.move (by conv => lhs; whnf)) ?_
        refine L.va rfl (X.add rfl rfl (by omega)) ?_
        refine L.va rfl (X.assign (by conv => lhs; whnf)) ?_
        refine L.nil ?_
        refine ⟨(d + 1, x), At2 (by first | rfl | exact at_int rfl (by omega) | exact at_slice rfl (by omega) | exact at_int rfl (by simp)) (by first | rfl | exact at_int rfl (by omega) | exact at_slice rfl (by omega) | exact at_int rfl (by simp)), (by (iterate 16 refine Agr.lk rfl ?_); exact Agr.lk rfl (Agr.hav rfl Agr.rfl')), ?_⟩
        exact ⟨⟨rfl, by omega, hnx⟩, by show 32 - (d + 1) < 32 - d; omega⟩
    · obtain rfl : d = 32 := by omega
      have e : x = qneed q := by rw [hx, mod_all hg, Nat.or_comm]; rfl
      rw [e]
      refine J.exit ?_
      refine J.seq ?_
      refine J.region ?_
      refine L.va rfl (X.move (by conv => lhs; whnf)) ?_
      refine L.va rfl (X.assign (by conv => lhs; whnf)) ?_
      refine L.nil ?_
      refine J.ret ?_
      refine fin1 ?_
      exact ⟨rfl, he1⟩
end Go.Proofs.Ytlipeplfjkgamaa
namespace Go.Proofs.Ytlipeplfjkgamaa
set_option maxRecDepth 100000
open Go.RowKit H
set_option linter.unusedVariables false
theorem light28 (f : Fis) (w : World) (hf : f.At w.heap.size w) : Calls Try.prog 48 #[f.val] w fun e w' => (∃ b, e = .returned (.bool b)) ∧ w = w' := by
  have hl := hf.l
  have hm := hf.m
  unfold maxLen at hm
  refine enter Try.func48 rfl (by kernel_rfl) ?_
  refine J.seq ?_
  refine J.region ?_
  refine L.va rfl (X.assign (by conv => lhs; whnf)) ?_
  refine L.nil ?_
  refine J.seq ?_
  refine J.seq ?_
  refine J.region ?_
  refine L.va rfl (X.move (by conv => lhs; whnf)) ?_
  refine L.va rfl (X.len rfl Try.underlying51) ?_
  refine L.va rfl (X.gtr rfl rfl) ?_
  refine L.nil ?_
  refine J.dec rfl (fun h1 => ?_) (fun h1 => ?_)
  · refine J.seq ?_
    refine J.region ?_
    refine L.va rfl (X.assign (by conv => lhs; whnf)) ?_
    refine L.nil ?_
    refine J.ret ?_
    refine thn_ret <| ?_
    refine fin1 ?_
    exact ⟨⟨_, rfl⟩, rfl⟩
  · refine J.skip ?_
    refine J.seq ?_
    refine J.seq ?_
    refine J.region ?_
    refine L.va rfl (X.assign (by conv => lhs; whnf)) ?_
    refine L.nil ?_
    refine J.block ?_
    refine J.loop (X := Nat) [2, 3, 7, 8, 9, 10, 11, 12, 13, 14, 15, 16, 17, 18, 19, 20, 21, 22, 23, 24, 25, 26, 27, 28, 29, 30, 31, 32, 33, 34, 35, 36, 37] (fun i => [(3, .int .i64 (i : Int))]) (fun i w' => w' = w ∧ i ≤ f.n) (fun i => f.n - i) (0) (At1 (by first | rfl | exact at_int rfl (by omega) | exact at_slice rfl (by omega) | exact at_int rfl (by simp))) ?_ ?_
    · exact ⟨rfl, Nat.zero_le _⟩
    · rintro i g w1 ⟨rfl, hi⟩
      refine J.seq ?_
      refine J.seq ?_
      refine J.region ?_
      refine L.va rfl (X.move (by conv => lhs; whnf)) ?_
      refine L.va rfl (X.move (by conv => lhs; whnf)) ?_
      refine L.va rfl (X.len rfl Try.underlying51) ?_
      refine L.va rfl (X.lss rfl rfl) ?_
      refine L.nil ?_
      refine J.dec rfl (fun hlt => ?_) (fun hlt => ?_)
      · have hA := hf.r.some_ (by omega)
        obtain ⟨x, hx⟩ : ∃ x, x = f.l.getD i fi0 := ⟨_, rfl⟩
        have hgt := gtF (l := f.l) (i := i) (by omega)
        rw [← hx] at hgt
        refine J.skip ?_
        refine J.seq ?_
        refine J.block ?_
        refine J.seq ?_
        refine J.region ?_
        refine L.va rfl (X.move (by conv => lhs; whnf)) ?_
        refine L.va rfl (X.move (by conv => lhs; whnf)) ?_
        refine L.va rfl ((by first | exact X.indexAddrn rfl rfl Try.underlying51 sz_150 (by first | exact Option.some_ne_none _ | exact hA) (by omega) | exact X.indexAddr rfl rfl Try.underlying51 sz_150 (by first | exact Option.some_ne_none _ | exact hA) (by omega))) ?_
        refine L.va rfl (X.fieldP rfl Try.underlying150 rfl sz_23 (by decide) (by first | exact Option.some_ne_none _ | exact hA)) ?_
        refine L.va rfl (X.load rfl sc_23 (by first | exact hA | exact Ld.flat2 fi_len hf.r hgt (r := 1) rfl)) ?_
        refine L.va rfl (X.len rfl Try.underlying23) ?_
        refine L.va rfl (X.gtr rfl rfl) ?_
        refine L.va rfl (X.move (by conv => lhs; whnf)) ?_
        refine L.caseDec (k := 20) rfl (fun h2 => ?_) (fun h2 => ?_)
        · refine L.va rfl (X.move (by conv => lhs; whnf)) ?_
          refine L.va rfl (X.move (by conv => lhs; whnf)) ?_
          refine L.va rfl ((by first | exact X.indexAddrn rfl rfl Try.underlying51 sz_150 (by first | exact Option.some_ne_none _ | exact hA) (by omega) | exact X.indexAddr rfl rfl Try.underlying51 sz_150 (by first | exact Option.some_ne_none _ | exact hA) (by omega))) ?_
          refine L.va rfl (X.fieldP rfl Try.underlying150 rfl sz_23 (by decide) (by first | exact Option.some_ne_none _ | exact hA)) ?_
          refine L.va rfl (X.load rfl sc_23 (by first | exact hA | exact Ld.flat2 fi_len hf.r hgt (r := 1) rfl)) ?_
          refine L.va rfl (X.len rfl Try.underlying23) ?_
          refine L.va rfl (X.leq rfl rfl) ?_
          refine L.va rfl (X.pickT rfl (by conv => lhs; whnf)) ?_
          refine L.va rfl (X.move (by conv => lhs; whnf)) ?_
          refine L.caseDec (k := 29) rfl (fun h3 => ?_) (fun h3 => ?_)
          · refine L.no rfl ?_
            refine L.no rfl ?_
            refine L.no rfl ?_
            refine L.no rfl ?_
            refine L.no rfl ?_
            refine L.no rfl ?_
            refine L.no rfl ?_
            refine L.va rfl (X.pickT rfl (by conv => lhs; whnf)) ?_
            refine L.nil ?_
            refine J.iteT rfl ?_
            refine J.seq ?_
            refine J.region ?_
            refine L.va rfl (X.assign (by conv => lhs; whnf)) ?_
            refine L.nil ?_
            refine J.ret ?_
            refine inB_ret <|  thn_ret <|  thn_ret <|  inB_ret <|  thn_ret <| ?_
            refine fin1 ?_
            exact ⟨⟨_, rfl⟩, rfl⟩
          · refine L.va rfl (X.move (by conv => lhs; whnf)) ?_
            refine L.va rfl (X.move (by conv => lhs; whnf)) ?_
            refine L.va rfl ((by first | exact X.indexAddrn rfl rfl Try.underlying51 sz_150 (by first | exact Option.some_ne_none _ | exact hA) (by omega) | exact X.indexAddr rfl rfl Try.underlying51 sz_150 (by first | exact Option.some_ne_none _ | exact hA) (by omega))) ?_
            refine L.va rfl (X.fieldP rfl Try.underlying150 rfl sz_23 (by decide) (by first | exact Option.some_ne_none _ | exact hA)) ?_
            refine L.va rfl (X.load rfl sc_23 (by first | exact hA | exact Ld.flat2 fi_len hf.r hgt (r := 1) rfl)) ?_
            refine L.va rfl (X.len rfl Try.underlying23) ?_
            refine L.va rfl (X.gtr rfl rfl) ?_
            refine L.va rfl (X.pickF rfl (by conv => lhs; whnf)) ?_
            refine L.nil ?_
            refine J.dec rfl (fun h4 => ?_) (fun h4 => ?_)
            · refine J.seq ?_
              refine J.region ?_
              refine L.va rfl (X.assign (by conv => lhs; whnf)) ?_
              refine L.nil ?_
              refine J.ret ?_
              refine inB_ret <|  thn_ret <|  thn_ret <|  inB_ret <|  thn_ret <| ?_
              refine fin1 ?_
              exact ⟨⟨_, rfl⟩, rfl⟩
            · refine J.skip ?_
              refine J.region ?_
              refine L.va rfl (X.move (by conv => lhs; whnf)) ?_
              refine L.va rfl (X.add rfl rfl (by omega)) ?_
              refine L.va rfl (X.assign (by conv => lhs; whnf)) ?_
              refine L.nil ?_
              refine ⟨i + 1, At1 (by first | rfl | exact at_int rfl (by omega) | exact at_slice rfl (by omega) | exact at_int rfl (by simp)), (by (iterate 34 refine Agr.lk rfl ?_); exact Agr.lk rfl (Agr.hav rfl Agr.rfl')), ?_⟩
              exact ⟨⟨rfl, by omega⟩, by omega⟩
        · refine L.no rfl ?_
          refine L.no rfl ?_
          refine L.no rfl ?_
          refine L.no rfl ?_
          refine L.no rfl ?_
          refine L.no rfl ?_
          refine L.no rfl ?_
          refine L.va rfl (X.pickF rfl (by conv => lhs; whnf)) ?_
          refine L.va rfl (X.move (by conv => lhs; whnf)) ?_
          refine L.va rfl (X.move (by conv => lhs; whnf)) ?_
          refine L.va rfl (X.move (by conv => lhs; whnf)) ?_
          refine L.va rfl ((by first | exact X.indexAddrn rfl rfl Try.underlying51 sz_150 (by first | exact Option.some_ne_none _ | exact hA) (by omega) | exact X.indexAddr rfl rfl Try.underlying51 sz_150 (by first | exact Option.some_ne_none _ | exact hA) (by omega))) ?_
          refine L.va rfl (X.fieldP rfl Try.underlying150 rfl sz_23 (by decide) (by first | exact Option.some_ne_none _ | exact hA)) ?_
          refine L.va rfl (X.load rfl sc_23 (by first | exact hA | exact Ld.flat2 fi_len hf.r hgt (r := 1) rfl)) ?_
          refine L.va rfl (X.len rfl Try.underlying23) ?_
          refine L.va rfl (X.gtr rfl rfl) ?_
          refine L.va rfl (X.pickF rfl (by conv => lhs; whnf)) ?_
          refine L.nil ?_
          refine J.dec rfl (fun h4 => ?_) (fun h4 => ?_)
          · refine J.seq ?_
            refine J.region ?_
            refine L.va rfl (X.assign (by conv => lhs; whnf)) ?_
            refine L.nil ?_
            refine J.ret ?_
            refine inB_ret <|  thn_ret <|  thn_ret <|  inB_ret <|  thn_ret <| ?_
            refine fin1 ?_
            exact ⟨⟨_, rfl⟩, rfl⟩
          · refine J.skip ?_
            refine J.region ?_
            refine L.va rfl (X.move (by conv => lhs; whnf)) ?_
            refine L.va rfl (X.add rfl rfl (by omega)) ?_
            refine L.va rfl (X.assign (by conv => lhs; whnf)) ?_
            refine L.nil ?_
            refine ⟨i + 1, At1 (by first | rfl | exact at_int rfl (by omega) | exact at_slice rfl (by omega) | exact at_int rfl (by simp)), (by (iterate 33 refine Agr.lk rfl ?_); exact Agr.lk rfl (Agr.hav rfl Agr.rfl')), ?_⟩
            exact ⟨⟨rfl, by omega⟩, by omega⟩
      · refine J.exit ?_
        refine J.seq ?_
        refine J.region ?_
        refine L.va rfl (X.assign (by conv => lhs; whnf)) ?_
        refine L.nil ?_
        refine J.ret ?_
        refine fin1 ?_
        exact ⟨⟨_, rfl⟩, rfl⟩
theorem light29 (q : Qu) {w : World} (hq : q.At w.heap.size w) : Calls Try.prog 30 #[q.val] w fun e w' => (∃ b, e = .returned (.bool b)) ∧ Ext w w' := by
  refine enter Try.func30 rfl (by kernel_rfl) ?_
  refine J.seq ?_
  refine J.region ?_
  refine L.boxA (l := [_, _, _, _, _]) rfl rfl ?_
  intro b1 w1 hb1 hs1 hk1 he1
  have hk1 : Blk w1 b1 54 q.vs.toArray := hk1
  refine L.va rfl (X.assign (by conv => lhs; whnf)) ?_
  refine L.nil ?_
  refine J.seq ?_
  refine J.region ?_
  refine L.va rfl (X.fieldAddr rfl Try.underlying54 rfl sz_51 (by decide)) ?_
  refine L.va rfl (X.load rfl sc_51 (by first | exact Ld.blk hk1 rfl)) ?_
  refine L.call rfl en_48 rfl (light28 q.f w1 ((hq.f.ext he1).more he1.le)) ?_
  rintro e _ ⟨⟨b, rfl⟩, rfl⟩
  refine ⟨_, rfl, ?_⟩
  refine L.va rfl (X.move (by conv => lhs; whnf)) ?_
  cases b
  · refine L.caseBF (k := 6) rfl (by rfl) ?_
    refine L.no rfl ?_
    refine L.no rfl ?_
    refine L.no rfl ?_
    refine L.no rfl ?_
    refine L.va rfl (X.pickF rfl (by conv => lhs; whnf)) ?_
    refine L.va rfl (X.move (by conv => lhs; whnf)) ?_
    refine L.no rfl ?_
    refine L.no rfl ?_
    refine L.no rfl ?_
    refine L.no rfl ?_
    refine L.va rfl (X.pickF rfl (by conv => lhs; whnf)) ?_
    refine L.va rfl (X.assign (by conv => lhs; whnf)) ?_
    refine L.nil ?_
    refine J.ret ?_
    refine fin1 ?_
    exact ⟨⟨_, rfl⟩, he1⟩
  · refine L.caseBT (k := 6) rfl (by rfl) ?_
    refine L.va rfl (X.fieldAddr rfl Try.underlying54 rfl sz_52 (by decide)) ?_
    refine L.va rfl (X.load rfl sc_52 (by first | exact Ld.blk hk1 rfl)) ?_
    refine L.va rfl (X.len rfl Try.underlying52) ?_
    refine L.va rfl (X.leq rfl rfl) ?_
    refine L.va rfl (X.pickT rfl (by conv => lhs; whnf)) ?_
    refine L.va rfl (X.move (by conv => lhs; whnf)) ?_
    refine L.caseDec (k := 12) rfl (fun h2 => ?_) (fun h2 => ?_)
    · refine L.va rfl (X.fieldAddr rfl Try.underlying54 rfl sz_22 (by decide)) ?_
      refine L.va rfl (X.load rfl sc_22 (by first | exact Ld.blk hk1 rfl)) ?_
      refine L.va rfl (X.len rfl Try.underlying22) ?_
      refine L.va rfl (X.leq rfl rfl) ?_
      refine L.va rfl (X.pickT rfl (by conv => lhs; whnf)) ?_
      refine L.va rfl (X.assign (by conv => lhs; whnf)) ?_
      refine L.nil ?_
      refine J.ret ?_
      refine fin1 ?_
      exact ⟨⟨_, rfl⟩, he1⟩
    · refine L.no rfl ?_
      refine L.no rfl ?_
      refine L.no rfl ?_
      refine L.no rfl ?_
      refine L.va rfl (X.pickF rfl (by conv => lhs; whnf)) ?_
      refine L.va rfl (X.assign (by conv => lhs; whnf)) ?_
      refine L.nil ?_
      refine J.ret ?_
      refine fin1 ?_
      exact ⟨⟨_, rfl⟩, he1⟩
end Go.Proofs.Ytlipeplfjkgamaa
namespace Go.Proofs.Ytlipeplfjkgamaa
set_option maxRecDepth 100000
open Go.RowKit H
open Mk
open Nrm (nrm)
set_option linter.unusedVariables false
theorem law_QueryChecks (w : World) (vs0 : List Value) (a0 : (List ((Str) × (Nm .i64))) × (List (Str)) × (List (Str)) × (List (Nm .u32))) (hl0 : Lay.lies w w.heap.size vs0 a0) (vs1 : List Value) (a1 : (Nm .u32) × (List ((Nm .i64) × (List (Nm .i64)))) × (List ((Nm .i64) × (Nm .i64))) × (List ((Nm .i64) × (Bool))) × (Nm .i64)) (hl1 : Lay.lies w w.heap.size vs1 a1) :
    Calls Try.prog 6 #[.agg vs0.toArray, .agg vs1.toArray] w fun e w' => e = .returned (.bool true) ∧ Below w.heap.size w w' := by
  obtain ⟨s, rfl, hH⟩ := sch_of hl0
  obtain ⟨q, rfl, hq⟩ := qu_of hl1
  refine enter Try.func6 rfl (by kernel_rfl) ?_
  refine J.seq ?_
  refine J.region ?_
  refine L.boxA (l := [_, _, _, _]) rfl rfl ?_
  intro b1 w1 hb1 hs1 hk1 he1
  refine L.boxA (l := [_, _, _, _, _]) rfl rfl ?_
  intro b2 w2 hb2 hs2 hk2 he2
  have hk12 := hk1.ext he2
  have he02 := he1.trans he2
  have hk2 : Blk w2 b2 54 q.vs.toArray := hk2
  refine L.va rfl (X.assign (by conv => lhs; whnf)) ?_
  refine L.nil ?_
  refine J.seq ?_
  refine J.seq ?_
  refine J.region ?_
  refine L.va rfl ((by first | exact X.loadAgg rfl (range_l hk12) Try.underlying49 rfl (by kernel_rfl) | exact X.loadAgg rfl (range_blk hk12) Try.underlying49 rfl (by kernel_rfl) | exact X.loadAgg rfl (range_l hk2) Try.underlying49 rfl (by kernel_rfl) | exact X.loadAgg rfl (range_blk hk2) Try.underlying49 rfl (by kernel_rfl))) ?_
  refine L.call rfl en_29 rfl ((hH.ext he02).light) ?_
  rintro e w3 ⟨l1, rfl, hl1', he3⟩
  refine ⟨_, rfl, ?_⟩
  have he3 : Ext w2 w3 := he3
  have he03 := he02.trans he3
  replace hk12 := hk12.ext he3
  replace hk2 := hk2.ext he3
  refine L.va rfl (X.not rfl) ?_
  refine L.va rfl (X.move (by conv => lhs; whnf)) ?_
  cases l1
  · refine L.caseBT (k := 13) rfl (by rfl) ?_
    refine L.no rfl ?_
    refine L.no rfl ?_
    refine L.no rfl ?_
    refine L.va rfl (X.pickT rfl (by conv => lhs; whnf)) ?_
    refine L.nil ?_
    refine J.iteT rfl ?_
    refine J.seq ?_
    refine J.region ?_
    refine L.call rfl en_31 rfl (awake29 _) ?_
    rintro e w4 ⟨rfl, he4⟩
    refine ⟨_, rfl, ?_⟩
    refine L.va rfl (X.assign (by conv => lhs; whnf)) ?_
    refine L.nil ?_
    refine J.ret ?_
    refine thn_ret <| ?_
    refine fin1 ?_
    exact ⟨rfl, he03.trans he4⟩
  · refine L.caseBF (k := 13) rfl (by rfl) ?_
    refine L.va rfl ((by first | exact X.loadAgg rfl (range_l hk12) Try.underlying54 rfl (by kernel_rfl) | exact X.loadAgg rfl (range_blk hk12) Try.underlying54 rfl (by kernel_rfl) | exact X.loadAgg rfl (range_l hk2) Try.underlying54 rfl (by kernel_rfl) | exact X.loadAgg rfl (range_blk hk2) Try.underlying54 rfl (by kernel_rfl))) ?_
    refine L.call rfl en_30 rfl (light29 q ((hq.ext he03).more he03.le)) ?_
    rintro e w4 ⟨⟨l2, rfl⟩, he4⟩
    refine ⟨_, rfl, ?_⟩
    have he04 := he03.trans he4
    replace hk12 := hk12.ext he4
    replace hk2 := hk2.ext he4
    refine L.va rfl (X.not rfl) ?_
    refine L.va rfl (X.pickF rfl (by conv => lhs; whnf)) ?_
    refine L.nil ?_
    cases l2
    · refine J.iteT rfl ?_
      refine J.seq ?_
      refine J.region ?_
      refine L.call rfl en_31 rfl (awake29 _) ?_
      rintro e w5 ⟨rfl, he5⟩
      refine ⟨_, rfl, ?_⟩
      refine L.va rfl (X.assign (by conv => lhs; whnf)) ?_
      refine L.nil ?_
      refine J.ret ?_
      refine thn_ret <| ?_
      refine fin1 ?_
      exact ⟨rfl, he04.trans he5⟩
    · have H4 := ((hH.ext he03).here (hl1' rfl)).ext he4
      have Q4 := (hq.ext he04).more he04.le
      refine J.iteF rfl ?_
      refine J.skip ?_
      refine J.seq ?_
      refine J.region ?_
      refine L.va rfl ((by first | exact X.loadAgg rfl (range_l hk12) Try.underlying49 rfl (by kernel_rfl) | exact X.loadAgg rfl (range_blk hk12) Try.underlying49 rfl (by kernel_rfl) | exact X.loadAgg rfl (range_l hk2) Try.underlying49 rfl (by kernel_rfl) | exact X.loadAgg rfl (range_blk hk2) Try.underlying49 rfl (by kernel_rfl))) ?_
      refine L.va rfl ((by first | exact X.loadAgg rfl (range_l hk12) Try.underlying54 rfl (by kernel_rfl) | exact X.loadAgg rfl (range_blk hk12) Try.underlying54 rfl (by kernel_rfl) | exact X.loadAgg rfl (range_l hk2) Try.underlying54 rfl (by kernel_rfl) | exact X.loadAgg rfl (range_blk hk2) Try.underlying54 rfl (by kernel_rfl))) ?_
      by_cases hc : qcode s q = 0
      · refine L.call rfl en_32 rfl (qnorm_ok H4 Q4 hc) ?_
        rintro e w5 ⟨r, rfl, hr, K, he5⟩
        refine ⟨_, rfl, ?_⟩
        replace hk12 := hk12.ext he5
        replace hk2 := hk2.ext he5
        refine L.va rfl (X.move (by conv => lhs; whnf)) ?_
        refine L.va rfl (X.extract rfl rfl) ?_
        refine L.va rfl (X.extract rfl rfl) ?_
        refine L.alloc rfl zr_54 ?_
        intro b6 w6 hb6 hs6 hk6 he6
        replace hk12 := hk12.ext he6
        replace hk2 := hk2.ext he6
        refine L.storeAgg (vs := [_, _, _, _, _]) rfl rfl rfl rfl sz_54 (hk6) rfl ?_
        intro w7 hk7 hg7 hs7
        have he57 : Ext w5 w7 := he6.grw hg7 (by intro g hg; injection hg with hg; omega)
        have hk7 : Blk w7 b6 54 r.vs.toArray := hk7
        have he47 := he5.trans he57
        have he07 := he04.trans he47
        have hk127 := hk12.grown hg7 (by intro e; injection e with e; have := hk1.lt; have := he1.le; have := he2.le; have := he3.le; have := he4.le; have := he5.le; omega)
        have hk27 := hk2.grown hg7 (by intro e; injection e with e; have := he2.le; have := he3.le; have := he4.le; have := he5.le; omega)
        have H7 := H4.ext he47
        have Q7 := (Q4.ext he47)
        have R7 := hr.ext he57
        have z7 := he47.le
        have zr := he57.le
        refine L.va rfl (X.assign (by conv => lhs; whnf)) ?_
        refine L.nil ?_
        refine J.seq ?_
        refine J.seq ?_
        refine J.quiet mixed (by kernel_rfl) ?_
        refine Qt.va rfl (fun w' hw => (by first | exact X.loadAgg rfl (range_l (hk7.ext hw)) Try.underlying49 rfl (by kernel_rfl) | exact X.loadAgg rfl (range_blk (hk7.ext hw)) Try.underlying49 rfl (by kernel_rfl) | exact X.loadAgg rfl (range_l (hk127.ext hw)) Try.underlying49 rfl (by kernel_rfl) | exact X.loadAgg rfl (range_blk (hk127.ext hw)) Try.underlying49 rfl (by kernel_rfl) | exact X.loadAgg rfl (range_l (hk27.ext hw)) Try.underlying49 rfl (by kernel_rfl) | exact X.loadAgg rfl (range_blk (hk27.ext hw)) Try.underlying49 rfl (by kernel_rfl))) ?_
        refine Qt.va rfl (fun w' hw => (by first | exact X.loadAgg rfl (range_l (hk7.ext hw)) Try.underlying54 rfl (by kernel_rfl) | exact X.loadAgg rfl (range_blk (hk7.ext hw)) Try.underlying54 rfl (by kernel_rfl) | exact X.loadAgg rfl (range_l (hk127.ext hw)) Try.underlying54 rfl (by kernel_rfl) | exact X.loadAgg rfl (range_blk (hk127.ext hw)) Try.underlying54 rfl (by kernel_rfl) | exact X.loadAgg rfl (range_l (hk27.ext hw)) Try.underlying54 rfl (by kernel_rfl) | exact X.loadAgg rfl (range_blk (hk27.ext hw)) Try.underlying54 rfl (by kernel_rfl))) ?_
        refine Qt.call rfl en_33 rfl (fun w' hw => calls_ext hw (qcheck (H7.ext hw) ((Q7.ext hw).more (Nat.le_trans z7 hw.le)))) ?_
        refine Qt.va rfl (fun w' hw => X.move (by conv => lhs; whnf)) ?_
        refine Qt.va rfl (fun w' hw => X.neq rfl rfl) ?_
        refine Qt.va rfl (fun w' hw => X.move (by conv => lhs; whnf)) ?_
        refine Qt.caseNdecF (k := 30) rfl (by exact hc) ?_
        refine Qt.va rfl (fun w' hw => (by first | exact X.loadAgg rfl (range_l (hk7.ext hw)) Try.underlying54 rfl (by kernel_rfl) | exact X.loadAgg rfl (range_blk (hk7.ext hw)) Try.underlying54 rfl (by kernel_rfl) | exact X.loadAgg rfl (range_l (hk127.ext hw)) Try.underlying54 rfl (by kernel_rfl) | exact X.loadAgg rfl (range_blk (hk127.ext hw)) Try.underlying54 rfl (by kernel_rfl) | exact X.loadAgg rfl (range_l (hk27.ext hw)) Try.underlying54 rfl (by kernel_rfl) | exact X.loadAgg rfl (range_blk (hk27.ext hw)) Try.underlying54 rfl (by kernel_rfl))) ?_
        refine Qt.call rfl en_34 rfl (fun w' hw => calls_ext hw (qneed_ q ((Q7.ext hw).more (Nat.le_trans z7 hw.le)))) ?_
        refine Qt.va rfl (fun w' hw => (by first | exact X.loadAgg rfl (range_l (hk7.ext hw)) Try.underlying54 rfl (by kernel_rfl) | exact X.loadAgg rfl (range_blk (hk7.ext hw)) Try.underlying54 rfl (by kernel_rfl) | exact X.loadAgg rfl (range_l (hk127.ext hw)) Try.underlying54 rfl (by kernel_rfl) | exact X.loadAgg rfl (range_blk (hk127.ext hw)) Try.underlying54 rfl (by kernel_rfl) | exact X.loadAgg rfl (range_l (hk27.ext hw)) Try.underlying54 rfl (by kernel_rfl) | exact X.loadAgg rfl (range_blk (hk27.ext hw)) Try.underlying54 rfl (by kernel_rfl))) ?_
        refine Qt.call rfl en_35 rfl (fun w' hw => calls_ext hw (rqneed_ q ((Q7.ext hw).more (Nat.le_trans z7 hw.le)))) ?_
        refine Qt.va rfl (fun w' hw => X.neq rfl rfl) ?_
        refine Qt.va rfl (fun w' hw => X.pickF rfl (by conv => lhs; whnf)) ?_
        refine Qt.nil (fun w8 h78 => ?_)
        replace hk7 := hk7.ext h78
        replace hk127 := hk127.ext h78
        replace hk27 := hk27.ext h78
        refine J.ndecF rfl (by omega) ?_
        refine J.skip ?_
        refine J.seq ?_
        refine J.seq ?_
        refine J.region ?_
        refine L.va rfl ((by first | exact X.loadAgg rfl (range_l hk7) Try.underlying49 rfl (by kernel_rfl) | exact X.loadAgg rfl (range_blk hk7) Try.underlying49 rfl (by kernel_rfl) | exact X.loadAgg rfl (range_l hk127) Try.underlying49 rfl (by kernel_rfl) | exact X.loadAgg rfl (range_blk hk127) Try.underlying49 rfl (by kernel_rfl) | exact X.loadAgg rfl (range_l hk27) Try.underlying49 rfl (by kernel_rfl) | exact X.loadAgg rfl (range_blk hk27) Try.underlying49 rfl (by kernel_rfl))) ?_
        refine L.va rfl ((by first | exact X.loadAgg rfl (range_l hk7) Try.underlying54 rfl (by kernel_rfl) | exact X.loadAgg rfl (range_blk hk7) Try.underlying54 rfl (by kernel_rfl) | exact X.loadAgg rfl (range_l hk127) Try.underlying54 rfl (by kernel_rfl) | exact X.loadAgg rfl (range_blk hk127) Try.underlying54 rfl (by kernel_rfl) | exact X.loadAgg rfl (range_l hk27) Try.underlying54 rfl (by kernel_rfl) | exact X.loadAgg rfl (range_blk hk27) Try.underlying54 rfl (by kernel_rfl))) ?_
        have he08 := he07.trans h78
        have Q8 := (Q7.ext h78).more (Nat.le_trans z7 h78.le)
        have H8 := H7.ext h78
        have R8 := (R7.ext h78).more (Nat.le_trans zr h78.le)
        refine L.call rfl en_36 rfl (rqcheck H8 Q8) ?_
        rintro e w9 ⟨rfl, he9⟩
        refine ⟨_, rfl, ?_⟩
        rw [hc]
        have he09 := he08.trans he9
        have hrc : qcode s r = 0 := qn_ok H4 hc Q4 hr K
        replace hk7 := hk7.ext he9
        replace hk127 := hk127.ext he9
        replace hk27 := hk27.ext he9
        refine L.va rfl (X.assign (by conv => lhs; whnf)) ?_
        refine L.nil ?_
        refine J.seq ?_
        refine J.region ?_
        refine L.va rfl (X.move (by conv => lhs; whnf)) ?_
        refine L.va rfl (X.neq rfl rfl) ?_
        refine L.nil ?_
        refine J.iteF rfl ?_
        have H9 := H8.ext he9
        have R9 := (R8.ext he9).more he9.le
        have Q9 := (Q8.ext he9).more he9.le
        refine J.skip ?_
        refine J.seq ?_
        refine J.region ?_
        refine L.va rfl ((by first | exact X.loadAgg rfl (range_l hk7) Try.underlying49 rfl (by kernel_rfl) | exact X.loadAgg rfl (range_blk hk7) Try.underlying49 rfl (by kernel_rfl) | exact X.loadAgg rfl (range_l hk127) Try.underlying49 rfl (by kernel_rfl) | exact X.loadAgg rfl (range_blk hk127) Try.underlying49 rfl (by kernel_rfl) | exact X.loadAgg rfl (range_l hk27) Try.underlying49 rfl (by kernel_rfl) | exact X.loadAgg rfl (range_blk hk27) Try.underlying49 rfl (by kernel_rfl))) ?_
        refine L.va rfl ((by first | exact X.loadAgg rfl (range_l hk7) Try.underlying54 rfl (by kernel_rfl) | exact X.loadAgg rfl (range_blk hk7) Try.underlying54 rfl (by kernel_rfl) | exact X.loadAgg rfl (range_l hk127) Try.underlying54 rfl (by kernel_rfl) | exact X.loadAgg rfl (range_blk hk127) Try.underlying54 rfl (by kernel_rfl) | exact X.loadAgg rfl (range_l hk27) Try.underlying54 rfl (by kernel_rfl) | exact X.loadAgg rfl (range_blk hk27) Try.underlying54 rfl (by kernel_rfl))) ?_
        refine L.call rfl en_32 rfl (qnorm_ok H9 R9 hrc) ?_
        rintro e wa ⟨r2, rfl, hr2, K2, hea⟩
        refine ⟨_, rfl, ?_⟩
        replace hk7 := hk7.ext hea
        replace hk127 := hk127.ext hea
        replace hk27 := hk27.ext hea
        have lA1 := hk127.lt
        have lA2 := hk27.lt
        have lA3 := hk7.lt
        refine L.va rfl (X.move (by conv => lhs; whnf)) ?_
        refine L.va rfl (X.extract rfl rfl) ?_
        refine L.va rfl (X.extract rfl rfl) ?_
        refine L.alloc rfl zr_54 ?_
        intro bb wb hbb hsb hkb heb
        replace hk7 := hk7.ext heb
        replace hk127 := hk127.ext heb
        replace hk27 := hk27.ext heb
        refine L.storeAgg (vs := [_, _, _, _, _]) rfl rfl rfl rfl sz_54 (hkb) rfl ?_
        intro wc hkc hgc hsc
        have heac : Ext wa wc := heb.grw hgc (by intro g hg; injection hg with hg; omega)
        have hkc : Blk wc bb 54 r2.vs.toArray := hkc
        have he9c := hea.trans heac
        have he0c := he09.trans he9c
        have hk7c := hk7.grown hgc (by intro e; injection e with e; omega)
        have hk12c := hk127.grown hgc (by intro e; injection e with e; omega)
        have hk2c := hk27.grown hgc (by intro e; injection e with e; omega)
        have Hc := H9.ext he9c
        have Qc := (Q9.ext he9c)
        have Rc := (R9.ext he9c)
        have R2c := hr2.ext heac
        have zc := he9c.le
        have zac := heac.le
        refine L.va rfl (X.assign (by conv => lhs; whnf)) ?_
        refine L.nil ?_
        refine J.seq ?_
        refine J.draw (ℓ := 1000000) (S := Ext wc) mixed (fun wd hS hS_h => ?_)
        refine D.va 0 rfl (by kernel_rfl) (fun _ _ _ h => h) rfl (fun w' hw => X.move (by conv => lhs; whnf)) hS ?_
        refine D.va 1 rfl (by kernel_rfl) (fun _ _ _ h => h) rfl (fun w' hw => X.eql rfl rfl) hS ?_
        refine D.va 2 rfl (by kernel_rfl) (fun _ _ _ h => h) rfl (fun w' hw => X.move (by conv => lhs; whnf)) hS ?_
        refine D.caseDecT (k := 61) rfl (by rfl) ?_
        refine D.va 3 rfl (by kernel_rfl) (fun _ _ _ h => h) rfl (fun w' hw => (by first | exact X.loadAgg rfl (range_l (hkc.ext hw)) Try.underlying54 rfl (by kernel_rfl) | exact X.loadAgg rfl (range_blk (hkc.ext hw)) Try.underlying54 rfl (by kernel_rfl) | exact X.loadAgg rfl (range_l (hk7c.ext hw)) Try.underlying54 rfl (by kernel_rfl) | exact X.loadAgg rfl (range_blk (hk7c.ext hw)) Try.underlying54 rfl (by kernel_rfl) | exact X.loadAgg rfl (range_l (hk12c.ext hw)) Try.underlying54 rfl (by kernel_rfl) | exact X.loadAgg rfl (range_blk (hk12c.ext hw)) Try.underlying54 rfl (by kernel_rfl) | exact X.loadAgg rfl (range_l (hk2c.ext hw)) Try.underlying54 rfl (by kernel_rfl) | exact X.loadAgg rfl (range_blk (hk2c.ext hw)) Try.underlying54 rfl (by kernel_rfl))) hS ?_
        refine D.va 4 rfl (by kernel_rfl) (fun _ _ _ h => h) rfl (fun w' hw => (by first | exact X.loadAgg rfl (range_l (hkc.ext hw)) Try.underlying49 rfl (by kernel_rfl) | exact X.loadAgg rfl (range_blk (hkc.ext hw)) Try.underlying49 rfl (by kernel_rfl) | exact X.loadAgg rfl (range_l (hk7c.ext hw)) Try.underlying49 rfl (by kernel_rfl) | exact X.loadAgg rfl (range_blk (hk7c.ext hw)) Try.underlying49 rfl (by kernel_rfl) | exact X.loadAgg rfl (range_l (hk12c.ext hw)) Try.underlying49 rfl (by kernel_rfl) | exact X.loadAgg rfl (range_blk (hk12c.ext hw)) Try.underlying49 rfl (by kernel_rfl) | exact X.loadAgg rfl (range_l (hk2c.ext hw)) Try.underlying49 rfl (by kernel_rfl) | exact X.loadAgg rfl (range_blk (hk2c.ext hw)) Try.underlying49 rfl (by kernel_rfl))) hS ?_
        refine D.va 5 rfl (by kernel_rfl) (fun _ _ _ h => h) rfl (fun w' hw => (by first | exact X.loadAgg rfl (range_l (hkc.ext hw)) Try.underlying54 rfl (by kernel_rfl) | exact X.loadAgg rfl (range_blk (hkc.ext hw)) Try.underlying54 rfl (by kernel_rfl) | exact X.loadAgg rfl (range_l (hk7c.ext hw)) Try.underlying54 rfl (by kernel_rfl) | exact X.loadAgg rfl (range_blk (hk7c.ext hw)) Try.underlying54 rfl (by kernel_rfl) | exact X.loadAgg rfl (range_l (hk12c.ext hw)) Try.underlying54 rfl (by kernel_rfl) | exact X.loadAgg rfl (range_blk (hk12c.ext hw)) Try.underlying54 rfl (by kernel_rfl) | exact X.loadAgg rfl (range_l (hk2c.ext hw)) Try.underlying54 rfl (by kernel_rfl) | exact X.loadAgg rfl (range_blk (hk2c.ext hw)) Try.underlying54 rfl (by kernel_rfl))) hS ?_
        refine D.one 6 (by kernel_rfl) rfl ?_
        refine L.call rfl en_38 rfl (rnorm29 (Hc.ext hS) ((Qc.ext hS).more (Nat.le_trans zc hS.le)) hc) ?_
        rintro e we ⟨r3, rfl, hr3, K3, hee⟩
        refine ⟨_, rfl, ?_⟩
        have hS1 := hS.trans hee
        refine L.nil ?_
        refine ⟨fun _ => hS1, ?_⟩
        have hce := hS.trans hee
        have R3e := hr3
        refine D.one 7 (by kernel_rfl) rfl ?_
        refine L.call rfl en_37 rfl (rqsame (a := r) (b := r3) ((Rc.ext hce).more (Nat.le_trans zc hce.le)) R3e) ?_
        rintro e wf ⟨rfl, hef⟩
        refine ⟨_, rfl, ?_⟩
        have hS2 := hS1.trans hef
        refine L.nil ?_
        refine ⟨fun _ => hS2, ?_⟩
        refine D.va 8 rfl (by kernel_rfl) (fun _ _ _ h => h) rfl (fun w' hw => X.pickT rfl (by conv => lhs; whnf)) hS2 ?_
        refine D.va 9 rfl (by kernel_rfl) (fun _ _ _ h => h) rfl (fun w' hw => X.move (by conv => lhs; whnf)) hS2 ?_
        refine D.caseBT (k := 68) rfl (by exact decide_eq_true ⟨by rw [K.g, K3.g], by rw [K.m, K3.m], by rw [K.c, K3.c], by rw [K.o, K3.o], by rw [K.k, K3.k]⟩) ?_
        refine D.va 10 rfl (by kernel_rfl) (fun _ _ _ h => h) rfl (fun w' hw => X.move (by conv => lhs; whnf)) hS2 ?_
        refine D.va 11 rfl (by kernel_rfl) (fun _ _ _ h => h) rfl (fun w' hw => X.eql rfl rfl) hS2 ?_
        refine D.va 12 rfl (by kernel_rfl) (fun _ _ _ h => h) rfl (fun w' hw => X.pickT rfl (by conv => lhs; whnf)) hS2 ?_
        refine D.va 13 rfl (by kernel_rfl) (fun _ _ _ h => h) rfl (fun w' hw => X.move (by conv => lhs; whnf)) hS2 ?_
        refine D.caseDecT (k := 72) rfl (by rfl) ?_
        refine D.va 14 rfl (by kernel_rfl) (fun _ _ _ h => h) rfl (fun w' hw => (by first | exact X.loadAgg rfl (range_l (hkc.ext hw)) Try.underlying54 rfl (by kernel_rfl) | exact X.loadAgg rfl (range_blk (hkc.ext hw)) Try.underlying54 rfl (by kernel_rfl) | exact X.loadAgg rfl (range_l (hk7c.ext hw)) Try.underlying54 rfl (by kernel_rfl) | exact X.loadAgg rfl (range_blk (hk7c.ext hw)) Try.underlying54 rfl (by kernel_rfl) | exact X.loadAgg rfl (range_l (hk12c.ext hw)) Try.underlying54 rfl (by kernel_rfl) | exact X.loadAgg rfl (range_blk (hk12c.ext hw)) Try.underlying54 rfl (by kernel_rfl) | exact X.loadAgg rfl (range_l (hk2c.ext hw)) Try.underlying54 rfl (by kernel_rfl) | exact X.loadAgg rfl (range_blk (hk2c.ext hw)) Try.underlying54 rfl (by kernel_rfl))) hS2 ?_
        refine D.va 15 rfl (by kernel_rfl) (fun _ _ _ h => h) rfl (fun w' hw => (by first | exact X.loadAgg rfl (range_l (hkc.ext hw)) Try.underlying54 rfl (by kernel_rfl) | exact X.loadAgg rfl (range_blk (hkc.ext hw)) Try.underlying54 rfl (by kernel_rfl) | exact X.loadAgg rfl (range_l (hk7c.ext hw)) Try.underlying54 rfl (by kernel_rfl) | exact X.loadAgg rfl (range_blk (hk7c.ext hw)) Try.underlying54 rfl (by kernel_rfl) | exact X.loadAgg rfl (range_l (hk12c.ext hw)) Try.underlying54 rfl (by kernel_rfl) | exact X.loadAgg rfl (range_blk (hk12c.ext hw)) Try.underlying54 rfl (by kernel_rfl) | exact X.loadAgg rfl (range_l (hk2c.ext hw)) Try.underlying54 rfl (by kernel_rfl) | exact X.loadAgg rfl (range_blk (hk2c.ext hw)) Try.underlying54 rfl (by kernel_rfl))) hS2 ?_
        have hcf := hce.trans hef
        refine D.one 16 (by kernel_rfl) rfl ?_
        refine L.call rfl en_37 rfl (rqsame (a := r) (b := r2) ((Rc.ext hcf).more (Nat.le_trans zc hcf.le)) ((R2c.ext hcf).more (Nat.le_trans zac hcf.le))) ?_
        rintro e wg ⟨rfl, heg⟩
        refine ⟨_, rfl, ?_⟩
        have hS3 := hS2.trans heg
        refine L.nil ?_
        refine ⟨fun _ => hS3, ?_⟩
        refine D.va 17 rfl (by kernel_rfl) (fun _ _ _ h => h) rfl (fun w' hw => X.pickT rfl (by conv => lhs; whnf)) hS3 ?_
        refine D.va 18 rfl (by kernel_rfl) (fun _ _ _ h => h) rfl (fun w' hw => X.move (by conv => lhs; whnf)) hS3 ?_
        refine D.caseBT (k := 77) rfl (by exact decide_eq_true ⟨by rw [K2.g], by rw [K2.m], by rw [K2.c], by rw [K2.o, K.o, dd_dd], by rw [K2.k, K.k, Nrm.nrm_nrm]⟩) ?_
        refine D.one 19 (by kernel_rfl) rfl ?_
        refine L.call rfl en_31 rfl (awake29 _) ?_
        rintro e wh ⟨rfl, heh⟩
        refine ⟨_, rfl, ?_⟩
        have hS4 := hS3.trans heh
        refine L.nil ?_
        refine ⟨fun _ => hS4, ?_⟩
        refine D.va 20 rfl (by kernel_rfl) (fun _ _ _ h => h) rfl (fun w' hw => X.pickT rfl (by conv => lhs; whnf)) hS4 ?_
        refine D.va 21 rfl (by kernel_rfl) (fun _ _ _ h => h) rfl (fun w' hw => X.assign (by conv => lhs; whnf)) hS4 ?_
        refine D.done (by kernel_rfl) ?_
        replace hkc := hkc.ext hS4
        replace hk7c := hk7c.ext hS4
        replace hk12c := hk12c.ext hS4
        replace hk2c := hk2c.ext hS4
        refine J.ret ?_
        refine fin1 ?_
        exact ⟨rfl, he0c.trans (hcf.trans (heg.trans heh))⟩
      · refine L.call rfl en_32 rfl (qnorm_no H4 Q4 hc) ?_
        rintro e w5 ⟨rfl, he5⟩
        refine ⟨_, rfl, ?_⟩
        replace hk12 := hk12.ext he5
        replace hk2 := hk2.ext he5
        have lA1 := hk12.lt
        have lA2 := hk2.lt
        refine L.va rfl (X.move (by conv => lhs; whnf)) ?_
        refine L.va rfl (X.extract rfl rfl) ?_
        refine L.va rfl (X.extract rfl rfl) ?_
        refine L.alloc rfl zr_54 ?_
        intro b6 w6 hb6 hs6 hk6 he6
        replace hk12 := hk12.ext he6
        replace hk2 := hk2.ext he6
        refine L.storeAgg (vs := [_, _, _, _, _]) rfl rfl rfl rfl sz_54 (hk6) rfl ?_
        intro w7 hk7 hg7 hs7
        have he57 : Ext w5 w7 := he6.grw hg7 (by intro g hg; injection hg with hg; omega)
        have hk7 : Blk w7 b6 54 q0.vs.toArray := hk7
        have he47 := he5.trans he57
        have he07 := he04.trans he47
        have hk127 := hk12.grown hg7 (by intro e; injection e with e; omega)
        have hk27 := hk2.grown hg7 (by intro e; injection e with e; omega)
        have H7 := H4.ext he47
        have Q7 := (Q4.ext he47)
        have z7 := he47.le
        refine L.va rfl (X.assign (by conv => lhs; whnf)) ?_
        refine L.nil ?_
        refine J.seq ?_
        refine J.seq ?_
        refine J.quiet mixed (by kernel_rfl) ?_
        refine Qt.va rfl (fun w' hw => (by first | exact X.loadAgg rfl (range_l (hk7.ext hw)) Try.underlying49 rfl (by kernel_rfl) | exact X.loadAgg rfl (range_blk (hk7.ext hw)) Try.underlying49 rfl (by kernel_rfl) | exact X.loadAgg rfl (range_l (hk127.ext hw)) Try.underlying49 rfl (by kernel_rfl) | exact X.loadAgg rfl (range_blk (hk127.ext hw)) Try.underlying49 rfl (by kernel_rfl) | exact X.loadAgg rfl (range_l (hk27.ext hw)) Try.underlying49 rfl (by kernel_rfl) | exact X.loadAgg rfl (range_blk (hk27.ext hw)) Try.underlying49 rfl (by kernel_rfl))) ?_
        refine Qt.va rfl (fun w' hw => (by first | exact X.loadAgg rfl (range_l (hk7.ext hw)) Try.underlying54 rfl (by kernel_rfl) | exact X.loadAgg rfl (range_blk (hk7.ext hw)) Try.underlying54 rfl (by kernel_rfl) | exact X.loadAgg rfl (range_l (hk127.ext hw)) Try.underlying54 rfl (by kernel_rfl) | exact X.loadAgg rfl (range_blk (hk127.ext hw)) Try.underlying54 rfl (by kernel_rfl) | exact X.loadAgg rfl (range_l (hk27.ext hw)) Try.underlying54 rfl (by kernel_rfl) | exact X.loadAgg rfl (range_blk (hk27.ext hw)) Try.underlying54 rfl (by kernel_rfl))) ?_
        refine Qt.call rfl en_33 rfl (fun w' hw => calls_ext hw (qcheck (H7.ext hw) ((Q7.ext hw).more (Nat.le_trans z7 hw.le)))) ?_
        refine Qt.va rfl (fun w' hw => X.move (by conv => lhs; whnf)) ?_
        refine Qt.va rfl (fun w' hw => X.neq rfl rfl) ?_
        refine Qt.va rfl (fun w' hw => X.move (by conv => lhs; whnf)) ?_
        refine Qt.caseNdecF (k := 30) rfl (by rfl) ?_
        refine Qt.va rfl (fun w' hw => (by first | exact X.loadAgg rfl (range_l (hk7.ext hw)) Try.underlying54 rfl (by kernel_rfl) | exact X.loadAgg rfl (range_blk (hk7.ext hw)) Try.underlying54 rfl (by kernel_rfl) | exact X.loadAgg rfl (range_l (hk127.ext hw)) Try.underlying54 rfl (by kernel_rfl) | exact X.loadAgg rfl (range_blk (hk127.ext hw)) Try.underlying54 rfl (by kernel_rfl) | exact X.loadAgg rfl (range_l (hk27.ext hw)) Try.underlying54 rfl (by kernel_rfl) | exact X.loadAgg rfl (range_blk (hk27.ext hw)) Try.underlying54 rfl (by kernel_rfl))) ?_
        refine Qt.call rfl en_34 rfl (fun w' hw => calls_ext hw (qneed_ q ((Q7.ext hw).more (Nat.le_trans z7 hw.le)))) ?_
        refine Qt.va rfl (fun w' hw => (by first | exact X.loadAgg rfl (range_l (hk7.ext hw)) Try.underlying54 rfl (by kernel_rfl) | exact X.loadAgg rfl (range_blk (hk7.ext hw)) Try.underlying54 rfl (by kernel_rfl) | exact X.loadAgg rfl (range_l (hk127.ext hw)) Try.underlying54 rfl (by kernel_rfl) | exact X.loadAgg rfl (range_blk (hk127.ext hw)) Try.underlying54 rfl (by kernel_rfl) | exact X.loadAgg rfl (range_l (hk27.ext hw)) Try.underlying54 rfl (by kernel_rfl) | exact X.loadAgg rfl (range_blk (hk27.ext hw)) Try.underlying54 rfl (by kernel_rfl))) ?_
        refine Qt.call rfl en_35 rfl (fun w' hw => calls_ext hw (rqneed_ q ((Q7.ext hw).more (Nat.le_trans z7 hw.le)))) ?_
        refine Qt.va rfl (fun w' hw => X.neq rfl rfl) ?_
        refine Qt.va rfl (fun w' hw => X.pickF rfl (by conv => lhs; whnf)) ?_
        refine Qt.nil (fun w8 h78 => ?_)
        replace hk7 := hk7.ext h78
        replace hk127 := hk127.ext h78
        replace hk27 := hk27.ext h78
        refine J.ndecF rfl (by omega) ?_
        refine J.skip ?_
        refine J.seq ?_
        refine J.seq ?_
        refine J.region ?_
        refine L.va rfl ((by first | exact X.loadAgg rfl (range_l hk7) Try.underlying49 rfl (by kernel_rfl) | exact X.loadAgg rfl (range_blk hk7) Try.underlying49 rfl (by kernel_rfl) | exact X.loadAgg rfl (range_l hk127) Try.underlying49 rfl (by kernel_rfl) | exact X.loadAgg rfl (range_blk hk127) Try.underlying49 rfl (by kernel_rfl) | exact X.loadAgg rfl (range_l hk27) Try.underlying49 rfl (by kernel_rfl) | exact X.loadAgg rfl (range_blk hk27) Try.underlying49 rfl (by kernel_rfl))) ?_
        refine L.va rfl ((by first | exact X.loadAgg rfl (range_l hk7) Try.underlying54 rfl (by kernel_rfl) | exact X.loadAgg rfl (range_blk hk7) Try.underlying54 rfl (by kernel_rfl) | exact X.loadAgg rfl (range_l hk127) Try.underlying54 rfl (by kernel_rfl) | exact X.loadAgg rfl (range_blk hk127) Try.underlying54 rfl (by kernel_rfl) | exact X.loadAgg rfl (range_l hk27) Try.underlying54 rfl (by kernel_rfl) | exact X.loadAgg rfl (range_blk hk27) Try.underlying54 rfl (by kernel_rfl))) ?_
        have he08 := he07.trans h78
        have Q8 := (Q7.ext h78).more (Nat.le_trans z7 h78.le)
        have H8 := H7.ext h78
        refine L.call rfl en_36 rfl (rqcheck H8 Q8) ?_
        rintro e w9 ⟨rfl, he9⟩
        refine ⟨_, rfl, ?_⟩
        have he09 := he08.trans he9
        replace hk7 := hk7.ext he9
        replace hk127 := hk127.ext he9
        replace hk27 := hk27.ext he9
        refine L.va rfl (X.assign (by conv => lhs; whnf)) ?_
        refine L.nil ?_
        refine J.seq ?_
        refine J.region ?_
        refine L.va rfl (X.move (by conv => lhs; whnf)) ?_
        refine L.va rfl (X.neq rfl rfl) ?_
        refine L.nil ?_
        refine J.ndecT rfl (by exact hc) ?_
        refine J.seq ?_
        refine J.region ?_
        refine L.va rfl (X.move (by conv => lhs; whnf)) ?_
        refine L.va rfl (X.move (by conv => lhs; whnf)) ?_
        refine L.va rfl (X.eql rfl rfl) ?_
        refine L.va rfl (X.move (by conv => lhs; whnf)) ?_
        refine L.caseDecT (k := 45) rfl (by rfl) ?_
        refine L.va rfl ((by first | exact X.loadAgg rfl (range_l hk7) Try.underlying54 rfl (by kernel_rfl) | exact X.loadAgg rfl (range_blk hk7) Try.underlying54 rfl (by kernel_rfl) | exact X.loadAgg rfl (range_l hk127) Try.underlying54 rfl (by kernel_rfl) | exact X.loadAgg rfl (range_blk hk127) Try.underlying54 rfl (by kernel_rfl) | exact X.loadAgg rfl (range_l hk27) Try.underlying54 rfl (by kernel_rfl) | exact X.loadAgg rfl (range_blk hk27) Try.underlying54 rfl (by kernel_rfl))) ?_
        refine L.va rfl (X.build (l := [_, _, _, _, _]) Evs.nil (bld_run Try.underlying54 (bp_54 Try.underlying54) zr_54 rfl)) ?_
        refine L.call rfl en_37 rfl (rqsame (a := q0) (b := q0) q0_at q0_at) ?_
        rintro e wa ⟨rfl, hea⟩
        refine ⟨_, rfl, ?_⟩
        refine L.va rfl (X.pickT rfl (by conv => lhs; whnf)) ?_
        refine L.va rfl (X.move (by conv => lhs; whnf)) ?_
        refine L.caseBT (k := 50) rfl (by exact decide_eq_true ⟨rfl, rfl, rfl, rfl, rfl⟩) ?_
        refine L.call rfl en_31 rfl (awake29 _) ?_
        rintro e wb ⟨rfl, heb⟩
        refine ⟨_, rfl, ?_⟩
        refine L.va rfl (X.pickT rfl (by conv => lhs; whnf)) ?_
        refine L.va rfl (X.assign (by conv => lhs; whnf)) ?_
        refine L.nil ?_
        refine J.ret ?_
        refine thn_ret <| ?_
        refine fin1 ?_
        exact ⟨rfl, (he09.trans hea).trans heb⟩
end Go.Proofs.Ytlipeplfjkgamaa
