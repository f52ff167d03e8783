/-
  filter.Norm: the plain form of filters.
-/
import Derived.Test.YtlipeplfjkgamaaWNrmC
import Derived.Test.YtlipeplfjkgamaaWFilA
namespace Go.Proofs.Ytlipeplfjkgamaa
set_option maxRecDepth 100000
open Go.RowKit H
open Nrm (Up sel mem_sel eq_sel up_sel kp sm nrm nf take_next)
set_option linter.unusedVariables false
/-- the sizes of a schema's dimensions -/
def szN (s : Sch) (i : Nat) : Nat := (s.ds.getD i d0).2.toNat
def szs (s : Sch) (n : Nat) : List Nat := (List.range n).map (szN s)
theorem szs_next (s : Sch) (n : Nat) : szs s (n + 1) = szs s n ++ [szN s n] := by unfold szs; rw [List.range_succ, List.map_append]; rfl
theorem szs_len (s : Sch) (n : Nat) : (szs s n).length = n := by simp [szs]
theorem szs_at (s : Sch) {n i : Nat} (h : i < n) : (szs s n).getD i 0 = szN s i := by
  unfold szs
  rw [List.getD, List.getElem?_map, List.getElem?_range h]
  rfl
abbrev Fi.key (f : Fi) : Int × List Int := (f.d, f.l)
theorem key_at {l : List Fi} {i : Nat} (h : i < l.length) : (l.map Fi.key).take (i + 1) = (l.map Fi.key).take i ++ [(l.getD i fi0).key] := by
  rw [take_next _ (0, []) (by rw [List.length_map]; exact h)]
  congr 2
  rw [List.getD, List.getElem?_map, gtF h]
  rfl
/-- filters that may be -/
structure FOk (s : Sch) (f : Fis) : Prop where
  c : s.code = 0
  n : f.n ≤ 20
  d : ∀ i, i < f.n → 0 ≤ (f.l.getD i fi0).d ∧ (f.l.getD i fi0).d < s.nd
  m : ∀ i, i < f.n → (f.l.getD i fi0).n ≤ 4096
  k : ∀ i j, i < f.n → j < (f.l.getD i fi0).n → cOk s (f.l.getD i fi0).d ((f.l.getD i fi0).l.getD j 0)
theorem fE_ok {s : Sch} {x : Fi} (h : fE s x = 0) : (0 ≤ x.d ∧ x.d < s.nd) ∧ x.n ≤ 4096 ∧ ∀ j, j < x.n → cOk s x.d (x.l.getD j 0) := by
  unfold fE at h
  by_cases h1 : x.d < 0 ∨ (s.nd : Int) ≤ x.d
  · rw [if_pos h1] at h; exact absurd h (by decide)
  · rw [if_neg h1] at h
    by_cases h2 : 4096 < x.n
    · rw [if_pos h2] at h; exact absurd h (by decide)
    · rw [if_neg h2] at h
      by_cases h3 : ∃ i, i < x.n ∧ ¬ cOk s x.d (x.l.getD i 0)
      · rw [if_pos h3] at h; exact absurd h (by decide)
      · refine ⟨by omega, by omega, fun j hj => Decidable.byContradiction fun hn => h3 ⟨j, hj, hn⟩⟩
theorem fok {s : Sch} {f : Fis} (hl : f.l.length = f.n) (h : fcode s f = 0) : FOk s f := by
  unfold fcode at h
  by_cases h1 : s.code = 0
  · rw [if_neg (fun k => k h1)] at h
    by_cases h2 : 20 < f.n
    · rw [if_pos h2] at h; exact absurd h (by decide)
    · rw [if_neg h2] at h
      have := fst_ok (d := fi0) h
      exact ⟨h1, by omega, fun i hi => (fE_ok (this i (by omega))).1, fun i hi => (fE_ok (this i (by omega))).2.1, fun i j hi hj => (fE_ok (this i (by omega))).2.2 j hj⟩
  · rw [if_pos h1] at h; exact absurd h (by decide)
/-- a filter of a call's own -/
def FiOwn (x : Fi) (N : Nat) (w : World) : Prop := w.ownsRow N 3 1 (.slice x.A x.n x.c) x.n (nums .i64 x.l)
theorem FiOwn.at {x : Fi} {N : Nat} {w : World} (h : FiOwn x N w) : x.At w.heap.size w := ⟨Reads.of_own h, own_max h⟩
structure FisOwn (f : Fis) (N : Nat) (w : World) : Prop where
  o : w.ownsRow N 150 2 (.slice f.A f.n f.c) f.n (f.l.flatMap Fi.vs)
  h : ∀ x, x ∈ f.l → FiOwn x N w
  l : f.l.length = f.n
theorem FisOwn.at {f : Fis} {N : Nat} {w : World} (h : FisOwn f N w) : f.At w.heap.size w := ⟨Reads.of_own h.o, fun x hx => (h.h x hx).at, h.l, own_max h.o⟩
theorem FisOwn.ext {f : Fis} {N : Nat} {w w' : World} (h : FisOwn f N w) (he : Ext w w') : FisOwn f N w' := ⟨h.o.ext he, fun x hx => World.ownsRow.ext (h.h x hx) he, h.l⟩
theorem FisOwn.lower {f : Fis} {N N' : Nat} {w : World} (h : FisOwn f N w) (hb : N' ≤ N) : FisOwn f N' w := ⟨own_lower h.o hb, fun x hx => own_lower (h.h x hx) hb, h.l⟩
theorem fnorm_no {s : Sch} {f : Fis} {w : World} (H : s.Here w) (hf : f.At w.heap.size w) (hc : fcode s f ≠ 0) : Calls Try.prog 87 #[s.val, f.val] w fun e w' => e = .returned (.tuple #[.slice none 0 0, .int .i64 (fcode s f)]) ∧ Ext w w' := by
  refine enter Try.func87 rfl (by kernel_rfl) ?_
  refine J.seq ?_
  refine J.region ?_
  -- box
  refine L.boxA (l := [_, _, _, _]) rfl rfl ?_
  intro b1 w1 hb1 hs1 hk1 he1
  refine L.va rfl (X.assign (by conv => lhs; whnf)) ?_
  refine L.va rfl (X.assign (by conv => lhs; whnf)) ?_
  refine L.nil ?_
  refine J.seq ?_
  refine J.seq ?_
  refine J.region ?_
  refine L.va rfl ((by first | exact X.loadAgg rfl (range_l hk1) Try.underlying49 rfl (by kernel_rfl) | exact X.loadAgg rfl (range_blk hk1) Try.underlying49 rfl (by kernel_rfl))) ?_
  refine L.va rfl (X.move (by conv => lhs; whnf)) ?_
  -- callfn bushel/filter.Check
  refine L.call rfl en_91 rfl (fcheck (H.ext he1) ((hf.ext he1).more he1.le)) ?_
  rintro e w2 ⟨rfl, he2⟩
  refine ⟨_, rfl, ?_⟩
  refine L.va rfl (X.assign (by conv => lhs; whnf)) ?_
  refine L.nil ?_
  refine J.seq ?_
  refine J.region ?_
  refine L.va rfl (X.move (by conv => lhs; whnf)) ?_
  refine L.va rfl (X.neq rfl rfl) ?_
  refine L.nil ?_
  -- cond
  refine J.ndecT rfl (by exact hc) ?_
  refine J.seq ?_
  refine J.region ?_
  refine L.va rfl (X.move (by conv => lhs; whnf)) ?_
  refine L.va rfl (X.assign (by conv => lhs; whnf)) ?_
  refine L.va rfl (X.assign (by conv => lhs; whnf)) ?_
  refine L.nil ?_
  -- ret
  refine J.ret ?_
  refine thn_ret <| ?_
  refine fin2 ?_
  exact ⟨rfl, he1.trans he2⟩
theorem fnorm_ok {s : Sch} {f : Fis} {w : World} (H : s.Here w) (hf : f.At w.heap.size w) (hc : fcode s f = 0) : Calls Try.prog 87 #[s.val, f.val] w fun e w' => ∃ r : Fis, e = .returned (.tuple #[r.val, .int .i64 0]) ∧ FisOwn r w.heap.size w' ∧ r.l.map Fi.key = nrm (f.l.map Fi.key) 0 (szs s s.nd) ∧ Ext w w' := by
  have K := fok hf.l hc
  have hl := hf.l
  have hsl := H.len
  have G := Sch.good K.c
  have hnd := G.1
  have hfn := K.n
  obtain ⟨ky, eky⟩ : ∃ ky, ky = f.l.map Fi.key := ⟨_, rfl⟩
  refine enter Try.func87 rfl (by kernel_rfl) ?_
  refine J.seq ?_
  refine J.region ?_
  -- box
  refine L.boxA (l := [_, _, _, _]) rfl rfl ?_
  intro b1 w1 hb1 hs1 hk1 he1
  refine L.va rfl (X.assign (by conv => lhs; whnf)) ?_
  refine L.va rfl (X.assign (by conv => lhs; whnf)) ?_
  refine L.nil ?_
  refine J.seq ?_
  refine J.seq ?_
  refine J.region ?_
  refine L.va rfl ((by first | exact X.loadAgg rfl (range_l hk1) Try.underlying49 rfl (by kernel_rfl) | exact X.loadAgg rfl (range_blk hk1) Try.underlying49 rfl (by kernel_rfl))) ?_
  refine L.va rfl (X.move (by conv => lhs; whnf)) ?_
  -- callfn bushel/filter.Check
  refine L.call rfl en_91 rfl (fcheck (H.ext he1) ((hf.ext he1).more he1.le)) ?_
  rintro e w2 ⟨rfl, he2⟩
  refine ⟨_, rfl, ?_⟩
  rw [hc]
  have he02 := he1.trans he2
  replace hk1 := hk1.ext he2
  refine L.va rfl (X.assign (by conv => lhs; whnf)) ?_
  refine L.nil ?_
  refine J.seq ?_
  refine J.region ?_
  refine L.va rfl (X.move (by conv => lhs; whnf)) ?_
  refine L.va rfl (X.neq rfl rfl) ?_
  refine L.nil ?_
  -- cond
  refine J.iteF rfl ?_
  refine J.skip ?_
  refine J.seq ?_
  refine J.region ?_
  refine L.va rfl (X.assign (by conv => lhs; whnf)) ?_
  refine L.nil ?_
  refine J.seq ?_
  refine J.seq ?_
  refine J.region ?_
  refine L.va rfl (X.fieldAddr rfl Try.underlying49 rfl sz_45 (by decide)) ?_
  refine L.va rfl (X.load rfl sc_45 (by first | exact Ld.blk hk1 rfl)) ?_
  refine L.va rfl (X.len rfl Try.underlying45) ?_
  refine L.va rfl (X.move (by conv => lhs; whnf)) ?_
  refine L.nil ?_
  refine J.block ?_
  -- loop
  refine J.loop (X := Nat × Fis) [7, 8, 9, 10, 11, 13, 23, 24, 25, 26, 27, 28, 29, 30, 31, 32, 33, 34, 35, 36, 37, 38, 39, 40, 41, 42, 43, 44, 45, 46, 47, 48, 49, 50, 51, 52, 53, 54, 55, 56, 57, 58, 59, 60, 61, 62] (fun (i, r) => [(23, .int .i64 (i : Int)), (7, r.val)]) (fun (i, r) w' => i ≤ s.nd ∧ FisOwn r w.heap.size w' ∧ r.l.map Fi.key = nrm ky 0 (szs s i) ∧ Ext w w') (fun (i, _) => s.nd - i) ((0, ⟨none, 0, 0, []⟩)) (At2 (by first | rfl | exact at_int rfl (by omega) | exact at_slice rfl (by omega) | exact at_int rfl (by simp)) (by first | rfl | exact at_int rfl (by omega) | exact at_slice rfl (by omega) | exact at_int rfl (by simp))) ?_ ?_
  · exact ⟨Nat.zero_le _, ⟨own_nil _ _ _ _, (fun x hx => by cases hx), rfl⟩, rfl, he02⟩
  · rintro ⟨i, r⟩ g w3 ⟨hi, hr, hrk, he3⟩
    have hd3 := (H.ext he3).hd
    have z3 := he3.le
    refine J.seq ?_
    refine J.region ?_
    refine L.va rfl (X.lss rfl rfl) ?_
    refine L.nil ?_
    refine J.seq ?_
    -- cond
    refine J.dec rfl (fun hlt => ?_) (fun hlt => ?_)
    · have hil : i < s.nd := by omega
      have hA := hd3.some_ (by omega)
      have hrow := dims_row (l := s.ds) (i := i) (by omega)
      have hbd := szB_at (mono_b (szB_s s.ds) (by omega : i + 1 ≤ s.nd) G.2)
      have hn : ((szN s i : Nat) : Int) = (s.ds.getD i d0).2 := by unfold szN; omega
      -- t27
      refine J.skip ?_
      refine J.seq ?_
      refine J.block ?_
      refine J.seq ?_
      refine J.region ?_
      refine L.va rfl (X.move (by conv => lhs; whnf)) ?_
      refine L.va rfl ((by first | exact X.indexAddrn rfl rfl Try.underlying45 sz_128 (by first | exact Option.some_ne_none _ | exact hA) (by omega) | exact X.indexAddr rfl rfl Try.underlying45 sz_128 (by first | exact Option.some_ne_none _ | exact hA) (by omega))) ?_
      refine L.va rfl (X.loadRow (cs := [.string (s.ds.getD i d0).1, .int .i64 (s.ds.getD i d0).2]) rfl hd3 hrow (Nat.zero_lt_succ _) Try.underlying128 rfl (by kernel_rfl)) ?_
      -- alloc
      refine L.alloc rfl zr_128 ?_
      intro b4 w4 hb4 hs4 hk4 he4
      refine L.va rfl (X.assign (by conv => lhs; whnf)) ?_
      -- store
      refine L.storeAgg (vs := [_, _]) rfl rfl rfl rfl sz_128 (hk4) rfl ?_
      intro w5 hk5 hg5 hs5
      have hk5 : Blk w5 b4 128 #[.string (s.ds.getD i d0).1, .int .i64 (s.ds.getD i d0).2] := hk5
      have he35 : Ext w3 w5 := he4.grw hg5 (by intro g hg; injection hg with hg; omega)
      have he5 := he3.trans he35
      have hr5 := hr.ext he35
      have z5 := he5.le
      rw [← hn] at hk5
      refine L.nil ?_
      refine J.seq ?_
      refine J.region ?_
      refine L.va rfl (X.assign (by conv => lhs; whnf)) ?_
      refine L.nil ?_
      refine J.seq ?_
      refine J.region ?_
      refine L.va rfl (X.assign (by conv => lhs; whnf)) ?_
      refine L.nil ?_
      refine J.seq ?_
      refine J.seq ?_
      refine J.region ?_
      refine L.va rfl (X.move (by conv => lhs; whnf)) ?_
      refine L.va rfl (X.len rfl Try.underlying51) ?_
      refine L.va rfl (X.move (by conv => lhs; whnf)) ?_
      refine L.nil ?_
      refine J.block ?_
      -- loop
      refine J.loop (X := Nat × Bool × Cs) [10, 11, 13, 30, 31, 32, 33, 34, 35, 36, 37, 38, 39, 40, 41, 42, 43, 44, 45, 46, 47] (fun (j, b, cs) => [(30, .int .i64 (j : Int)), (10, .bool b), (11, cs.val)]) (fun (j, b, cs) w' => j ≤ f.n ∧ b = sm (ky.take j) i ∧ (b = true → cs.l = sel (szN s i) (kp (ky.take j) i)) ∧ w'.ownsRow w.heap.size 3 1 cs.val cs.n (nums .i64 cs.l) ∧ Ext w5 w') (fun (j, _) => f.n - j) ((0, false, ⟨none, 0, 0, []⟩)) (At3 (by first | rfl | exact at_int rfl (by omega) | exact at_slice rfl (by omega) | exact at_int rfl (by simp)) (by first | rfl | exact at_int rfl (by omega) | exact at_slice rfl (by omega) | exact at_int rfl (by simp)) (by first | rfl | exact at_int rfl (by omega) | exact at_slice rfl (by omega) | exact at_int rfl (by simp))) ?_ ?_
      · exact ⟨Nat.zero_le _, rfl, (fun h => by cases h), own_nilN _ _ _ _, Ext.refl _⟩
      · rintro ⟨j, b, cs⟩ g w6 ⟨hj, hb, hcs, hoc, he6⟩
        have hk6 := hk5.ext he6
        have he06 := he5.trans he6
        have z6 := he06.le
        have hf6 := hf.ext he06
        refine J.seq ?_
        refine J.region ?_
        refine L.va rfl (X.lss rfl rfl) ?_
        refine L.nil ?_
        refine J.seq ?_
        -- cond
        refine J.dec rfl (fun hlt2 => ?_) (fun hlt2 => ?_)
        · have hjn : j < f.n := by omega
          have hA2 := hf6.r.some_ (by omega)
          obtain ⟨x, hx⟩ : ∃ x, x = f.l.getD j fi0 := ⟨_, rfl⟩
          have hX := hf6.one hjn
          have hgt := gtF (l := f.l) (i := j) (by omega)
          have hxm := K.m j hjn
          have hxk := K.k j
          have hnk := key_at (l := f.l) (i := j) (by omega)
          rw [← hx] at hX hgt hxm hxk hnk
          rw [← eky] at hnk
          have hxl := hX.len
          -- t33
          refine J.skip ?_
          refine J.seq ?_
          refine J.block ?_
          refine J.seq ?_
          refine J.region ?_
          refine L.va rfl ((by first | exact X.indexAddrn rfl rfl Try.underlying51 sz_150 (by first | exact Option.some_ne_none _ | exact hA2) (by omega) | exact X.indexAddr rfl rfl Try.underlying51 sz_150 (by first | exact Option.some_ne_none _ | exact hA2) (by omega))) ?_
          refine L.va rfl (X.loadRow (cs := x.vs) rfl hf6.r (fun r u hu => flat_row fi_len hgt r u hu) (Nat.zero_lt_succ _) Try.underlying150 rfl (by kernel_rfl)) ?_
          -- alloc
          refine L.alloc rfl zr_150 ?_
          intro b7 w7 hb7 hs7 hk7 he7
          -- store
          refine L.storeAgg (vs := [_, _]) rfl rfl rfl rfl sz_150 (hk7) rfl ?_
          intro w8 hk8 hg8 hs8
          have he68 : Ext w6 w8 := he7.grw hg8 (by intro g hg; injection hg with hg; omega)
          have hk8 : Blk w8 b7 150 x.vs.toArray := hk8
          have hX8 := hX.ext he68
          have hoc8 := hoc.ext he68
          have he58 := he6.trans he68
          have he08 := he06.trans he68
          refine L.nil ?_
          refine J.seq ?_
          refine J.seq ?_
          refine J.region ?_
          refine L.va rfl (X.fieldAddr rfl Try.underlying150 rfl sz_3 (by decide)) ?_
          refine L.va rfl (X.load rfl sc_3 (by first | exact Ld.blk hk1 rfl | exact Ld.blk hk8 rfl | exact hA2)) ?_
          refine L.va rfl (X.move (by conv => lhs; whnf)) ?_
          refine L.va rfl (X.neq rfl rfl) ?_
          refine L.nil ?_
          -- cond
          refine J.ndec rfl (fun hne => ?_) (fun hne => ?_)
          · skip
            refine J.exit ?_
            refine J.region ?_
            refine L.va rfl (X.add rfl rfl (by omega)) ?_
            refine L.va rfl (X.move (by conv => lhs; whnf)) ?_
            refine L.nil ?_
            -- loopend
            refine ⟨(j + 1, b, cs), At3 (by first | rfl | exact at_int rfl (by omega) | exact at_slice rfl (by omega) | exact at_int rfl (by simp)) (by first | rfl | exact at_int rfl (by omega) | exact at_slice rfl (by omega) | exact at_int rfl (by simp)) (by first | rfl | exact at_int rfl (by omega) | exact at_slice rfl (by omega) | exact at_int rfl (by simp)), (by (iterate 10 refine Agr.lk rfl ?_); exact Agr.lk rfl (Agr.hav rfl Agr.rfl')), ?_⟩
            have e1 : decide (x.d = (i : Int)) = false := by simpa using hne
            refine ⟨⟨by omega, ?_, fun h => ?_, hoc8, he58⟩, by show f.n - (j + 1) < f.n - j; omega⟩
            · rw [hnk, Nrm.sm_next, e1, Bool.or_false]; exact hb
            · rw [hcs h, hnk]
              refine Nrm.sel_congr fun c _ _ => ?_
              rw [Nrm.kp_next, e1]
              simp
          · have hxd : x.d = (i : Int) := by simpa using hne
            have e1 : decide (x.d = (i : Int)) = true := by simpa using hxd
            have hsm : sm (ky.take (j + 1)) i = true := by rw [hnk, Nrm.sm_next, e1, Bool.or_true]
            have hrng : ∀ c, c ∈ x.l → 0 ≤ c ∧ c < (szN s i : Int) := by
              intro c hcx
              obtain ⟨q, hq, rfl⟩ := List.getElem_of_mem hcx
              have := hxk q hjn (by omega)
              rw [List.getD, List.getElem?_eq_getElem hq, hxd] at this
              rw [hn]
              exact this
            have c1 := fun (w' : World) (h : x.At w'.heap.size w') => plainI x.A x.n x.c x.l w' h.r (by omega)
            refine J.skip ?_
            refine J.seq ?_
            refine J.region ?_
            refine L.va rfl (X.move (by conv => lhs; whnf)) ?_
            refine L.nil ?_
            -- cond
            cases b
            · refine J.iteF rfl ?_
              refine J.region ?_
              refine L.va rfl (X.fieldAddr rfl Try.underlying150 rfl sz_23 (by decide)) ?_
              refine L.va rfl (X.load rfl sc_23 (by first | exact Ld.blk hk1 rfl | exact Ld.blk hk8 rfl | exact hA2)) ?_
              -- callfn bushel/filter.plain
              refine L.call rfl en_175 rfl ((c1 w8 (hX8.more he08.le))) ?_
              rintro e w9 ⟨cs2, rfl, ho9, he9, hu9, hm9⟩
              refine ⟨_, rfl, ?_⟩
              refine L.va rfl (X.assign (by conv => lhs; whnf)) ?_
              refine L.va rfl (X.assign (by conv => lhs; whnf)) ?_
              refine L.nil ?_
              refine J.region ?_
              refine L.va rfl (X.add rfl rfl (by omega)) ?_
              refine L.va rfl (X.move (by conv => lhs; whnf)) ?_
              refine L.nil ?_
              -- loopend
              refine ⟨(j + 1, true, cs2), At3 (by first | rfl | exact at_int rfl (by omega) | exact at_slice rfl (by omega) | exact at_int rfl (by simp)) (by first | rfl | exact at_int rfl (by omega) | exact at_slice rfl (by omega) | exact at_int rfl (by simp)) (by first | rfl | exact at_int rfl (by omega) | exact at_slice rfl (by omega) | exact at_int rfl (by simp)), (by (iterate 16 refine Agr.lk rfl ?_); exact Agr.lk rfl (Agr.hav rfl Agr.rfl')), ?_⟩
              refine ⟨⟨by omega, hsm.symm, fun _ => ?_, own_lower ho9 he08.le, he58.trans he9⟩, by show f.n - (j + 1) < f.n - j; omega⟩
              refine eq_sel hu9 fun c => ?_
              rw [hm9, hnk, Nrm.kp_next, Nrm.kp_none hb.symm, e1]
              constructor
              · intro h; exact ⟨hrng c h, by simpa using h⟩
              · rintro ⟨_, h⟩; simpa using h
            · refine J.iteT rfl ?_
              refine J.region ?_
              refine L.va rfl (X.move (by conv => lhs; whnf)) ?_
              refine L.va rfl (X.fieldAddr rfl Try.underlying150 rfl sz_23 (by decide)) ?_
              refine L.va rfl (X.load rfl sc_23 (by first | exact Ld.blk hk1 rfl | exact Ld.blk hk8 rfl | exact hA2)) ?_
              -- callfn bushel/filter.plain
              refine L.call rfl en_175 rfl ((c1 w8 (hX8.more he08.le))) ?_
              rintro e w9 ⟨cs2, rfl, ho9, he9, hu9, hm9⟩
              refine ⟨_, rfl, ?_⟩
              have hoc9 := hoc8.ext he9
              have hcs' := hcs rfl
              have hcn : cs.n ≤ 5000 := by
                have h1 := (Cs.At.own hoc9).len
                have h2 := Nrm.sel_le (szN s i) (kp (ky.take j) i)
                rw [← hcs'] at h2
                have h1 : cs.l.length = cs.n := h1
                omega
              -- callfn bushel/filter.common
              refine L.call rfl en_174 rfl (commonI cs cs2 w9 (.own hoc9) (.own ho9) (by rw [hcs']; exact up_sel _ _) hu9 hcn) ?_
              rintro e wa ⟨cs3, rfl, hoa, hea, hua, hma⟩
              refine ⟨_, rfl, ?_⟩
              refine L.va rfl (X.assign (by conv => lhs; whnf)) ?_
              refine L.nil ?_
              refine J.region ?_
              refine L.va rfl (X.add rfl rfl (by omega)) ?_
              refine L.va rfl (X.move (by conv => lhs; whnf)) ?_
              refine L.nil ?_
              -- loopend
              have he0a := he08.trans he9
              refine ⟨(j + 1, true, cs3), At3 (by first | rfl | exact at_int rfl (by omega) | exact at_slice rfl (by omega) | exact at_int rfl (by simp)) (by first | rfl | exact at_int rfl (by omega) | exact at_slice rfl (by omega) | exact at_int rfl (by simp)) (by first | rfl | exact at_int rfl (by omega) | exact at_slice rfl (by omega) | exact at_int rfl (by simp)), (by (iterate 17 refine Agr.lk rfl ?_); exact Agr.lk rfl (Agr.hav rfl Agr.rfl')), ?_⟩
              refine ⟨⟨by omega, hsm.symm, fun _ => ?_, own_lower hoa he0a.le, (he58.trans he9).trans hea⟩, by show f.n - (j + 1) < f.n - j; omega⟩
              refine eq_sel hua fun c => ?_
              rw [hma, hcs', mem_sel, hm9, hnk, Nrm.kp_next, e1, Bool.and_eq_true]
              constructor
              · rintro ⟨⟨h1, h2⟩, h3⟩; exact ⟨h1, h2, by simpa using h3⟩
              · rintro ⟨h1, h2, h3⟩; exact ⟨⟨h1, h2⟩, by simpa using h3⟩
        · obtain rfl : j = f.n := by omega
          have hky : ky.take f.n = ky := List.take_of_length_le (by rw [eky, List.length_map]; omega)
          rw [hky] at hb hcs
          have hr6 := hr5.ext he6
          have hrl := hr6.l
          have hrn : r.n ≤ i := by
            have h1 := congrArg List.length hrk
            rw [List.length_map] at h1
            have h2 := Nrm.nrm_len ky (szs s i) 0
            rw [szs_len] at h2
            omega
          have hnx : nrm ky 0 (szs s (i + 1)) = nrm ky 0 (szs s i) ++ nf ky i (szN s i) := by
            rw [szs_next, Nrm.nrm_snoc, szs_len, Nat.zero_add]
          refine J.exit ?_
          refine J.seq ?_
          refine J.region ?_
          refine L.va rfl (X.move (by conv => lhs; whnf)) ?_
          refine L.va rfl (X.move (by conv => lhs; whnf)) ?_
          -- case t49
          cases b
          · refine L.caseBF (k := 49) rfl (by rfl) ?_
            refine L.no rfl ?_
            refine L.no rfl ?_
            refine L.no rfl ?_
            refine L.no rfl ?_
            refine L.no rfl ?_
            refine L.va rfl (X.pickF rfl (by conv => lhs; whnf)) ?_
            refine L.nil ?_
            -- cond
            refine J.iteF rfl ?_
            refine J.skip ?_
            refine J.region ?_
            refine L.va rfl (X.add rfl rfl (by omega)) ?_
            refine L.va rfl (X.move (by conv => lhs; whnf)) ?_
            refine L.nil ?_
            -- loopend
            refine ⟨(i + 1, r), At2 (by first | rfl | exact at_int rfl (by omega) | exact at_slice rfl (by omega) | exact at_int rfl (by simp)) (by first | rfl | exact at_int rfl (by omega) | exact at_slice rfl (by omega) | exact at_int rfl (by simp)), (by (iterate 12 refine Agr.lk rfl ?_); refine Agr.lk rfl ?_; refine Agr.hav rfl ?_; (iterate 11 refine Agr.lk rfl ?_); exact Agr.lk rfl (Agr.hav rfl Agr.rfl')), ?_⟩
            refine ⟨⟨by omega, hr6, ?_, he06⟩, by show s.nd - (i + 1) < s.nd - i; omega⟩
            rw [hnx, Nrm.nf_none hb.symm, List.append_nil]
            exact hrk
          · have hcs' := hcs rfl
            have hcl : cs.l.length = cs.n := (Cs.At.own hoc).len
            refine L.caseBT (k := 49) rfl (by rfl) ?_
            refine L.va rfl (X.move (by conv => lhs; whnf)) ?_
            refine L.va rfl (X.len rfl Try.underlying23) ?_
            refine L.va rfl (X.fieldAddr rfl Try.underlying128 rfl sz_3 (by decide)) ?_
            refine L.va rfl (X.load rfl sc_3 (by first | exact Ld.blk hk1 rfl | exact Ld.blk hk6 rfl | exact hA)) ?_
            refine L.va rfl (X.lss rfl rfl) ?_
            refine L.va rfl (X.pickT rfl (by conv => lhs; whnf)) ?_
            refine L.nil ?_
            -- cond
            refine J.dec rfl (fun hlt3 => ?_) (fun hlt3 => ?_)
            · refine J.region ?_
              refine L.va rfl (X.move (by conv => lhs; whnf)) ?_
              refine L.va rfl (X.move (by conv => lhs; whnf)) ?_
              refine L.va rfl (X.move (by conv => lhs; whnf)) ?_
              refine L.va rfl (X.build (l := [_, _]) (Evs.cons (by conv => lhs; whnf) (Evs.cons (by conv => lhs; whnf) Evs.nil)) (bld_run Try.underlying150 (bp_150 Try.underlying150) zr_150 rfl)) ?_
              -- buildSlice
              refine L.bslice1 (l := [_, _]) rfl rfl rfl Try.underlying51 sz_150 zr_150 rfl ?_
              intro b8 w8 hb8 hs8 hk8 he8
              have hoX := hr6.o.ext he8
              -- append
              refine L.appendV (q := r.n + 1) (ys := ((r.l ++ [Fi.mk i cs.A cs.n cs.c cs.l]).flatMap Fi.vs)) rfl rfl rfl Try.underlying51 el_150 (hoX) ((blk_readsN (sz := 2) (q := 1) (l := (Fi.mk i cs.A cs.n cs.c cs.l).vs) hk8 hk8.lt rfl)) (by first | rfl | exact strs_ones _ | assumption) (by omega) (by simp) (by unfold maxLen; omega) (by omega) ?_
              intro A9 c9 w9 ho9 hg9 hb9 hor9
              refine L.va rfl (X.assign (by conv => lhs; whnf)) ?_
              refine L.nil ?_
              refine J.region ?_
              refine L.va rfl (X.add rfl rfl (by omega)) ?_
              refine L.va rfl (X.move (by conv => lhs; whnf)) ?_
              refine L.nil ?_
              -- loopend
              refine ⟨(i + 1, ⟨A9, r.n + 1, c9, r.l ++ [Fi.mk i cs.A cs.n cs.c cs.l]⟩), At2 (by first | rfl | exact at_int rfl (by omega) | exact at_slice rfl (by omega) | exact at_int rfl (by simp)) (by first | rfl | exact at_int rfl (by omega) | exact at_slice rfl (by omega) | exact at_int rfl (by simp)), (by (iterate 19 refine Agr.lk rfl ?_); refine Agr.lk rfl ?_; refine Agr.hav rfl ?_; (iterate 11 refine Agr.lk rfl ?_); exact Agr.lk rfl (Agr.hav rfl Agr.rfl')), ?_⟩
              have he08 := he06.trans he8
              refine ⟨⟨by omega, ⟨ho9, fun y hy => ?_, by show (r.l ++ [_]).length = r.n + 1; rw [List.length_append, hrl]; rfl⟩, ?_, he08.low hb9 (Nat.le_refl _)⟩, by show s.nd - (i + 1) < s.nd - i; omega⟩
              · rcases List.mem_append.1 hy with hy | hy
                · exact World.ownsRow.kept (World.ownsRow.ext (hr6.h y hy) he8) hg9 (own_or (World.ownsRow.ext (hr6.h y hy) he8) hoX (by decide))
                · rw [List.mem_singleton] at hy
                  subst hy
                  exact (hoc.ext he8).kept hg9 (own_or (hoc.ext he8) hoX (by decide))
              · show (r.l ++ [Fi.mk i cs.A cs.n cs.c cs.l]).map Fi.key = _
                rw [List.map_append, hrk, hnx]
                congr 1
                unfold nf
                rw [← hcs', if_pos (by omega)]
                rfl
            · skip
              refine J.skip ?_
              refine J.region ?_
              refine L.va rfl (X.add rfl rfl (by omega)) ?_
              refine L.va rfl (X.move (by conv => lhs; whnf)) ?_
              refine L.nil ?_
              -- loopend
              refine ⟨(i + 1, r), At2 (by first | rfl | exact at_int rfl (by omega) | exact at_slice rfl (by omega) | exact at_int rfl (by simp)) (by first | rfl | exact at_int rfl (by omega) | exact at_slice rfl (by omega) | exact at_int rfl (by simp)), (by (iterate 12 refine Agr.lk rfl ?_); refine Agr.lk rfl ?_; refine Agr.hav rfl ?_; (iterate 11 refine Agr.lk rfl ?_); exact Agr.lk rfl (Agr.hav rfl Agr.rfl')), ?_⟩
              refine ⟨⟨by omega, hr6, ?_, he06⟩, by show s.nd - (i + 1) < s.nd - i; omega⟩
              rw [hnx]
              unfold nf
              rw [← hcs', if_neg (by omega), List.append_nil]
              exact hrk
    · obtain rfl : i = s.nd := by omega
      refine J.exit ?_
      refine J.seq ?_
      refine J.region ?_
      refine L.va rfl (X.move (by conv => lhs; whnf)) ?_
      refine L.va rfl (X.assign (by conv => lhs; whnf)) ?_
      refine L.va rfl (X.assign (by conv => lhs; whnf)) ?_
      refine L.nil ?_
      -- ret
      refine J.ret ?_
      refine fin2 ?_
      rw [eky] at hrk
      exact ⟨r, rfl, hr, hrk, he3⟩
end Go.Proofs.Ytlipeplfjkgamaa
