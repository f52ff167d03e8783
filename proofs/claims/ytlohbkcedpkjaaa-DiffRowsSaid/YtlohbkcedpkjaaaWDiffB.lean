/-
  agg.Same of cells without sums; awake of the laws on differences.
-/
import Derived.Test.YtlohbkcedpkjaaaWDiffA
namespace Go.Proofs.Ytlohbkcedpkjaaa
set_option maxRecDepth 100000
open Go.RowKit H
set_option linter.unusedVariables false
theorem eqf_whole0 {w : World} (f : Value) : Calls Try.prog 136 #[.slice none 0 0, .slice none 0 0, f] w fun e w' => e = .returned (.bool true) ∧ Ext w w' := by
  refine enter Try.func136 rfl (by kernel_rfl) ?_
  refine J.seq ?_
  refine J.region ?_
  refine L.va rfl (X.assign (by conv => lhs; whnf)) ?_
  refine L.nil ?_
  refine J.seq ?_
  refine J.seq ?_
  refine J.region ?_
  refine L.va rfl (X.move (by conv => lhs; whnf)) ?_
  refine L.va rfl (X.len rfl Try.underlying74) ?_
  refine L.va rfl (X.move (by conv => lhs; whnf)) ?_
  refine L.va rfl (X.len rfl Try.underlying74) ?_
  refine L.va rfl (X.neq rfl rfl) ?_
  refine L.nil ?_
  -- cond
  refine J.ndecF rfl (by exact rfl) ?_
  refine J.skip ?_
  refine J.seq ?_
  refine J.seq ?_
  refine J.region ?_
  refine L.va rfl (X.move (by conv => lhs; whnf)) ?_
  refine L.va rfl (X.len rfl Try.underlying74) ?_
  refine L.va rfl (X.move (by conv => lhs; whnf)) ?_
  refine L.nil ?_
  refine J.block ?_
  -- loop
  refine J.loop (X := Unit) [6, 7, 8, 9, 17, 18, 19, 20, 21, 22, 23, 24, 25, 26, 27, 28, 29, 30, 31] (fun _ => [(17, .int .i64 0)]) (fun _ w' => w = w') (fun _ => 0) (()) (At1 (by first | rfl | exact at_int rfl (by omega) | exact at_slice rfl (by omega) | exact at_int rfl (by simp))) ?_ ?_
  · rfl
  · rintro ⟨⟩ g w2 rfl
    refine J.seq ?_
    refine J.region ?_
    refine L.va rfl (X.lss rfl rfl) ?_
    refine L.nil ?_
    refine J.seq ?_
    -- cond
    refine J.iteF rfl ?_
    refine J.exit ?_
    refine J.seq ?_
    refine J.region ?_
    refine L.va rfl (X.assign (by conv => lhs; whnf)) ?_
    refine L.nil ?_
    -- ret
    refine J.ret ?_
    refine fin1 ?_
    exact ⟨rfl, Ext.refl _⟩
theorem eqf_real0 {w : World} (f : Value) : Calls Try.prog 139 #[.slice none 0 0, .slice none 0 0, f] w fun e w' => e = .returned (.bool true) ∧ Ext w w' := by
  refine enter Try.func139 rfl (by kernel_rfl) ?_
  refine J.seq ?_
  refine J.region ?_
  refine L.va rfl (X.assign (by conv => lhs; whnf)) ?_
  refine L.nil ?_
  refine J.seq ?_
  refine J.seq ?_
  refine J.region ?_
  refine L.va rfl (X.move (by conv => lhs; whnf)) ?_
  refine L.va rfl (X.len rfl Try.underlying75) ?_
  refine L.va rfl (X.move (by conv => lhs; whnf)) ?_
  refine L.va rfl (X.len rfl Try.underlying75) ?_
  refine L.va rfl (X.neq rfl rfl) ?_
  refine L.nil ?_
  -- cond
  refine J.ndecF rfl (by exact rfl) ?_
  refine J.skip ?_
  refine J.seq ?_
  refine J.seq ?_
  refine J.region ?_
  refine L.va rfl (X.move (by conv => lhs; whnf)) ?_
  refine L.va rfl (X.len rfl Try.underlying75) ?_
  refine L.va rfl (X.move (by conv => lhs; whnf)) ?_
  refine L.nil ?_
  refine J.block ?_
  -- loop
  refine J.loop (X := Unit) [6, 7, 8, 9, 17, 18, 19, 20, 21, 22, 23, 24, 25, 26, 27, 28, 29, 30, 31] (fun _ => [(17, .int .i64 0)]) (fun _ w' => w = w') (fun _ => 0) (()) (At1 (by first | rfl | exact at_int rfl (by omega) | exact at_slice rfl (by omega) | exact at_int rfl (by simp))) ?_ ?_
  · rfl
  · rintro ⟨⟩ g w2 rfl
    refine J.seq ?_
    refine J.region ?_
    refine L.va rfl (X.lss rfl rfl) ?_
    refine L.nil ?_
    refine J.seq ?_
    -- cond
    refine J.iteF rfl ?_
    refine J.exit ?_
    refine J.seq ?_
    refine J.region ?_
    refine L.va rfl (X.assign (by conv => lhs; whnf)) ?_
    refine L.nil ?_
    -- ret
    refine J.ret ?_
    refine fin1 ?_
    exact ⟨rfl, Ext.refl _⟩
abbrev ce (k n : Int) : Ce := ⟨k, n, none, 0, 0, none, 0, 0⟩
theorem aggsame0 {w : World} (k n k' n' : Int) : Calls Try.prog 99 #[(ce k n).v, (ce k' n').v] w fun e w' => e = .returned (.bool (decide (k = k') && decide (n = n'))) ∧ Ext w w' := by
  refine enter Try.func99 rfl (by kernel_rfl) ?_
  refine J.seq ?_
  refine J.region ?_
  -- box
  refine L.boxA (l := [_, _, _, _]) rfl rfl ?_
  intro b1 w1 hb1 hs1 hk1 he1
  -- box
  refine L.boxA (l := [_, _, _, _]) rfl rfl ?_
  intro b2 w2 hb2 hs2 hk2 he2
  have hk12 := hk1.ext he2
  have he := he1.trans he2
  refine L.va rfl (X.assign (by conv => lhs; whnf)) ?_
  refine L.nil ?_
  refine J.seq ?_
  refine J.region ?_
  refine L.va rfl (X.fieldAddr rfl Try.underlying77 rfl sz_73 (by decide)) ?_
  refine L.va rfl (X.load rfl sc_73 (by first | exact Ld.blk hk12 rfl | exact Ld.blk hk2 rfl)) ?_
  refine L.va rfl (X.fieldAddr rfl Try.underlying77 rfl sz_73 (by decide)) ?_
  refine L.va rfl (X.load rfl sc_73 (by first | exact Ld.blk hk12 rfl | exact Ld.blk hk2 rfl)) ?_
  refine L.va rfl (X.eql rfl rfl) ?_
  refine L.va rfl (X.move (by conv => lhs; whnf)) ?_
  -- case t10
  refine L.caseDec (k := 10) rfl (fun h1 => ?_) (fun h1 => ?_)
  · rw [decide_eq_true h1]
    refine L.va rfl (X.fieldAddr rfl Try.underlying77 rfl sz_2 (by decide)) ?_
    refine L.va rfl (X.load rfl sc_2 (by first | exact Ld.blk hk12 rfl | exact Ld.blk hk2 rfl)) ?_
    refine L.va rfl (X.fieldAddr rfl Try.underlying77 rfl sz_2 (by decide)) ?_
    refine L.va rfl (X.load rfl sc_2 (by first | exact Ld.blk hk12 rfl | exact Ld.blk hk2 rfl)) ?_
    refine L.va rfl (X.eql rfl rfl) ?_
    refine L.va rfl (X.pickT rfl (by conv => lhs; whnf)) ?_
    refine L.va rfl (X.move (by conv => lhs; whnf)) ?_
    -- case t17
    refine L.caseDec (k := 17) rfl (fun h2 => ?_) (fun h2 => ?_)
    · rw [decide_eq_true h2]
      refine L.va rfl (X.fieldAddr rfl Try.underlying77 rfl sz_74 (by decide)) ?_
      refine L.va rfl (X.load rfl sc_74 (by first | exact Ld.blk hk12 rfl | exact Ld.blk hk2 rfl)) ?_
      refine L.va rfl (X.fieldAddr rfl Try.underlying77 rfl sz_74 (by decide)) ?_
      refine L.va rfl (X.load rfl sc_74 (by first | exact Ld.blk hk12 rfl | exact Ld.blk hk2 rfl)) ?_
      -- callfn slices.EqualFunc[[]bushel/api.Whole,[]bushel/api.Whole,bushel/api.Whole,bushel/api.Whole]
      refine L.call rfl en_136 rfl (eqf_whole0 _) ?_
      rintro e w3 ⟨rfl, he3⟩
      refine ⟨_, rfl, ?_⟩
      have he3 : Ext w2 w3 := he3
      replace hk12 := hk12.ext he3
      replace hk2 := hk2.ext he3
      refine L.va rfl (X.pickT rfl (by conv => lhs; whnf)) ?_
      refine L.va rfl (X.move (by conv => lhs; whnf)) ?_
      -- case t24
      refine L.caseBT (k := 24) rfl (by rfl) ?_
      refine L.va rfl (X.fieldAddr rfl Try.underlying77 rfl sz_75 (by decide)) ?_
      refine L.va rfl (X.load rfl sc_75 (by first | exact Ld.blk hk12 rfl | exact Ld.blk hk2 rfl)) ?_
      refine L.va rfl (X.fieldAddr rfl Try.underlying77 rfl sz_75 (by decide)) ?_
      refine L.va rfl (X.load rfl sc_75 (by first | exact Ld.blk hk12 rfl | exact Ld.blk hk2 rfl)) ?_
      -- callfn slices.EqualFunc[[]bushel/api.Real,[]bushel/api.Real,bushel/api.Real,bushel/api.Real]
      refine L.call rfl en_139 rfl (eqf_real0 _) ?_
      rintro e w4 ⟨rfl, he4⟩
      refine ⟨_, rfl, ?_⟩
      refine L.va rfl (X.pickT rfl (by conv => lhs; whnf)) ?_
      refine L.va rfl (X.assign (by conv => lhs; whnf)) ?_
      refine L.nil ?_
      -- ret
      refine J.ret ?_
      refine fin1 ?_
      exact ⟨rfl, (he.trans he3).trans he4⟩
    · rw [decide_eq_false h2]
      refine L.no rfl ?_
      refine L.no rfl ?_
      refine L.no rfl ?_
      refine L.no rfl ?_
      refine L.no rfl ?_
      refine L.va rfl (X.pickF rfl (by conv => lhs; whnf)) ?_
      refine L.va rfl (X.move (by conv => lhs; whnf)) ?_
      refine L.no rfl ?_
      refine L.no rfl ?_
      refine L.no rfl ?_
      refine L.no rfl ?_
      refine L.no rfl ?_
      refine L.va rfl (X.pickF rfl (by conv => lhs; whnf)) ?_
      refine L.va rfl (X.assign (by conv => lhs; whnf)) ?_
      refine L.nil ?_
      -- ret
      refine J.ret ?_
      refine fin1 ?_
      exact ⟨rfl, he⟩
  · rw [decide_eq_false h1]
    refine L.no rfl ?_
    refine L.no rfl ?_
    refine L.no rfl ?_
    refine L.no rfl ?_
    refine L.no rfl ?_
    refine L.va rfl (X.pickF rfl (by conv => lhs; whnf)) ?_
    refine L.va rfl (X.move (by conv => lhs; whnf)) ?_
    refine L.no rfl ?_
    refine L.no rfl ?_
    refine L.no rfl ?_
    refine L.no rfl ?_
    refine L.no rfl ?_
    refine L.va rfl (X.pickF rfl (by conv => lhs; whnf)) ?_
    refine L.va rfl (X.move (by conv => lhs; whnf)) ?_
    refine L.no rfl ?_
    refine L.no rfl ?_
    refine L.no rfl ?_
    refine L.no rfl ?_
    refine L.no rfl ?_
    refine L.va rfl (X.pickF rfl (by conv => lhs; whnf)) ?_
    refine L.va rfl (X.assign (by conv => lhs; whnf)) ?_
    refine L.nil ?_
    -- ret
    refine J.ret ?_
    refine fin1 ?_
    exact ⟨rfl, he⟩
theorem two_change : Two Try.prog 83 73 3 := ⟨by kernel_rfl, by kernel_rfl, by kernel_rfl, by kernel_rfl⟩
theorem awake43 (w : World) : Calls Try.prog 11 #[] w fun e w' => e = .returned (.bool true) ∧ Ext w w' := by
  refine enter Try.func11 rfl (by kernel_rfl) ?_
  refine J.seq ?_
  refine J.region ?_
  refine L.va rfl (X.assign (by conv => lhs; whnf)) ?_
  refine L.nil ?_
  refine J.seq ?_
  refine J.region ?_
  refine L.va rfl (X.build (l := [_, _, _, _]) (Evs.cons (by conv => lhs; whnf) (Evs.cons (by conv => lhs; whnf) Evs.nil)) (bld_run Try.underlying77 (bp_77 Try.underlying77) zr_77 rfl)) ?_
  refine L.va rfl (X.build (l := [_, _, _, _]) (Evs.cons (by conv => lhs; whnf) (Evs.cons (by conv => lhs; whnf) Evs.nil)) (bld_run Try.underlying77 (bp_77 Try.underlying77) zr_77 rfl)) ?_
  -- buildSlice
  refine L.bsliceR (ls := [[_, _, _, _], [_, _, _, _]]) rfl (Evs.cons (by conv => lhs; whnf) (Evs.cons (by conv => lhs; whnf) Evs.nil)) rfl rfl rfl rfl Try.underlying78 sz_77 zr_77 (by decide) ?_
  intro b1 w1 hb1 hs1 hk1 he1
  refine L.va rfl (X.assign (by conv => lhs; whnf)) ?_
  refine L.nil ?_
  refine J.seq ?_
  refine J.region ?_
  refine L.va rfl (X.build (l := [_, _, _, _]) (Evs.cons (by conv => lhs; whnf) (Evs.cons (by conv => lhs; whnf) Evs.nil)) (bld_run Try.underlying77 (bp_77 Try.underlying77) zr_77 rfl)) ?_
  refine L.va rfl (X.build (l := [_, _, _, _]) (Evs.cons (by conv => lhs; whnf) (Evs.cons (by conv => lhs; whnf) Evs.nil)) (bld_run Try.underlying77 (bp_77 Try.underlying77) zr_77 rfl)) ?_
  -- buildSlice
  refine L.bsliceR (ls := [[_, _, _, _], [_, _, _, _]]) rfl (Evs.cons (by conv => lhs; whnf) (Evs.cons (by conv => lhs; whnf) Evs.nil)) rfl rfl rfl rfl Try.underlying78 sz_77 zr_77 (by decide) ?_
  intro b2 w2 hb2 hs2 hk2 he2
  have he02 := he1.trans he2
  have hr1 : Reads w2 w2.heap.size 4 (some ⟨b1, 0, none⟩) 2 ([ce 1 1, ce 2 1].flatMap Ce.vals) := blk_readsN (hk1.ext he2) (hk1.ext he2).lt rfl
  have hr2 : Reads w2 w2.heap.size 4 (some ⟨b2, 0, none⟩) 2 ([ce 2 1, ce 3 1].flatMap Ce.vals) := blk_readsN hk2 hk2.lt rfl
  have em : mergeD (fun x y => decide (x.key = y.key) && decide (x.cnt = y.cnt)) [ce 1 1, ce 2 1] [ce 2 1, ce 3 1] = [(1, 1), (3, 2)] := by
    simp [mergeD]
  have cC := cells_ (Nat.le_refl _) (fun x y => decide (x.key = y.key) && decide (x.cnt = y.cnt)) (some ⟨b1, 0, none⟩) 2 [ce 1 1, ce 2 1] hr1 (by simp) (some ⟨b2, 0, none⟩) 2 [ce 2 1, ce 3 1] hr2 (by simp) (by simp) (fun x hx y hy w' hw => by
    simp only [List.mem_cons, List.not_mem_nil, or_false] at hx hy
    rcases hx with rfl | rfl <;> rcases hy with rfl | rfl <;> exact aggsame0 _ _ _ _) ⟨by decide, by decide⟩
  rw [em] at cC
  refine L.va rfl (X.assign (by conv => lhs; whnf)) ?_
  refine L.nil ?_
  refine J.seq ?_
  refine J.region ?_
  refine L.va rfl (X.move (by conv => lhs; whnf)) ?_
  refine L.va rfl (X.move (by conv => lhs; whnf)) ?_
  -- callfn bushel/diff.Cells
  refine L.call rfl en_43 rfl (cC) ?_
  rintro e w3 ⟨oA, oc, rfl, ho3, he3⟩
  refine ⟨_, rfl, ?_⟩
  have he3 : Ext w2 w3 := he3
  have hro := Reads.of_own ho3
  have hA := hro.some_ (by decide)
  have hl2 : ([(1, 1), (3, 2)] : List (Int × Int)).length = 2 := rfl
  refine L.va rfl (X.move (by conv => lhs; whnf)) ?_
  refine L.va rfl (X.extract rfl rfl) ?_
  refine L.va rfl (X.extract rfl rfl) ?_
  refine L.va rfl (X.assign (by conv => lhs; whnf)) ?_
  refine L.va rfl (X.assign (by conv => lhs; whnf)) ?_
  refine L.nil ?_
  refine J.seq ?_
  refine J.region ?_
  refine L.va rfl (X.move (by conv => lhs; whnf)) ?_
  refine L.va rfl (X.eql rfl rfl) ?_
  refine L.va rfl (X.move (by conv => lhs; whnf)) ?_
  -- case t19
  refine L.caseDecT (k := 19) rfl (by rfl) ?_
  refine L.va rfl (X.move (by conv => lhs; whnf)) ?_
  refine L.va rfl (X.len rfl Try.underlying79) ?_
  refine L.va rfl (X.eql rfl rfl) ?_
  refine L.va rfl (X.pickT rfl (by conv => lhs; whnf)) ?_
  refine L.va rfl (X.move (by conv => lhs; whnf)) ?_
  -- case t24
  refine L.caseDecT (k := 24) rfl (by rfl) ?_
  -- t27
  -- t34
  -- t29
  -- t36
  refine L.va rfl (X.move (by conv => lhs; whnf)) ?_
  refine L.va rfl (X.indexAddrn (j := 0) rfl rfl Try.underlying79 sz_83 (by first | exact Option.some_ne_none _ | exact hA) (by omega)) ?_
  refine L.va rfl (X.loadRow (cs := [.int .u64 1, .int .i64 1]) rfl hro (fun r u hu => flat_row (f := chV) (i := 0) ch_len rfl r u hu) (Nat.zero_lt_succ _) Try.underlying83 rfl (by kernel_rfl)) ?_
  refine L.va rfl (X.build (l := [_, _]) (Evs.cons (by conv => lhs; whnf) (Evs.cons (by conv => lhs; whnf) Evs.nil)) (bld_run Try.underlying83 (bp_83 Try.underlying83) zr_83 rfl)) ?_
  refine L.va rfl (X.eqlTwo two_change rfl rfl sc_73 sc_3 (eq_int Try.underlying73) (eq_int Try.underlying3)) ?_
  refine L.va rfl (X.pickT rfl (by conv => lhs; whnf)) ?_
  refine L.va rfl (X.move (by conv => lhs; whnf)) ?_
  -- case t31
  refine L.caseBT (k := 31) rfl (by rfl) ?_
  refine L.va rfl (X.move (by conv => lhs; whnf)) ?_
  refine L.va rfl (X.indexAddrn (j := 1) rfl rfl Try.underlying79 sz_83 (by first | exact Option.some_ne_none _ | exact hA) (by omega)) ?_
  refine L.va rfl (X.loadRow (cs := [.int .u64 3, .int .i64 2]) rfl hro (fun r u hu => flat_row (f := chV) (i := 1) ch_len rfl r u hu) (Nat.zero_lt_succ _) Try.underlying83 rfl (by kernel_rfl)) ?_
  refine L.va rfl (X.build (l := [_, _]) (Evs.cons (by conv => lhs; whnf) (Evs.cons (by conv => lhs; whnf) Evs.nil)) (bld_run Try.underlying83 (bp_83 Try.underlying83) zr_83 rfl)) ?_
  refine L.va rfl (X.eqlTwo two_change rfl rfl sc_73 sc_3 (eq_int Try.underlying73) (eq_int Try.underlying3)) ?_
  refine L.va rfl (X.pickT rfl (by conv => lhs; whnf)) ?_
  refine L.va rfl (X.assign (by conv => lhs; whnf)) ?_
  refine L.nil ?_
  -- ret
  refine J.ret ?_
  refine fin1 ?_
  exact ⟨rfl, he02.trans he3⟩
end Go.Proofs.Ytlohbkcedpkjaaa
