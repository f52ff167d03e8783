/-
  The reference's space: New, Do, Count.
-/
import Derived.Test.YtdmfikedojgjbaaWFreeC
namespace Go.Proofs.Ytdmfikedojgjbaa
set_option maxRecDepth 100000
open Go.RowKit H
set_option linter.unusedVariables false
abbrev rsv (A : Option Addr) (n c : Nat) : Value := .agg #[.slice A n c]
theorem rfnew {w : World} (pages : Int) (hpg : -9223372036854775808 ≤ pages ∧ pages ≤ 9223372036854775807) (A : Option Addr) (n c : Nat) (live : List Int) (hr : Reads w w.heap.size 1 A n (nums .i64 live)) (hn : n ≤ 1000000) : Calls Try.prog 36 #[.int .i64 pages, .slice A n c] w fun e w' =>
    ((pages < 1 ∨ 8192 < pages) ∧ e = .returned (.tuple #[rsv none 0 0, .int .i64 2]) ∧ Ext w w') ∨ ((1 ≤ pages ∧ pages ≤ 8192) ∧ allThere pages.toNat live = false ∧ e = .returned (.tuple #[rsv none 0 0, .int .i64 11]) ∧ Ext w w') ∨
    ((1 ≤ pages ∧ pages ≤ 8192) ∧ allThere pages.toNat live = true ∧ ∃ A' c', e = .returned (.tuple #[rsv A' (mark (List.replicate pages.toNat 0) live).length c', .int .i64 0]) ∧ w'.ownsRow w.heap.size 3 1 (.slice A' (mark (List.replicate pages.toNat 0) live).length c') (mark (List.replicate pages.toNat 0) live).length (nums .i64 (mark (List.replicate pages.toNat 0) live)) ∧ Ext w w') := by
  have hll : live.length = n := by have := hr.1; simpa [nums] using this
  refine enter Try.func36 rfl (by kernel_rfl) ?_
  refine J.seq ?_
  refine J.region ?_
  -- alloc
  refine L.alloc rfl zr_71 ?_
  intro b4 w1 hb4 hs1 hk4 he1
  refine L.va rfl (X.assign (by conv => lhs; whnf)) ?_
  refine L.nil ?_
  -- until
  refine J.cut (X := Unit) [5, 8, 9, 10, 11, 12, 13, 14] (fun _ => []) (fun _ w' => w' = w1 ∧ 1 ≤ pages ∧ pages ≤ 8192) ?_ ?_
  · refine J.seq ?_
    refine J.region ?_
    refine L.va rfl (X.move (by conv => lhs; whnf)) ?_
    refine L.va rfl (X.lss rfl rfl) ?_
    refine L.va rfl (X.move (by conv => lhs; whnf)) ?_
    -- case t10
    refine L.caseDec (k := 10) rfl (fun h1 => ?_) (fun h1 => ?_)
    · refine L.no rfl ?_
      refine L.no rfl ?_
      refine L.va rfl (X.pickT rfl (by conv => lhs; whnf)) ?_
      refine L.nil ?_
      -- cond
      refine J.iteT rfl ?_
      refine J.seq ?_
      refine J.region ?_
      refine L.va rfl (X.build (l := [_]) Evs.nil (bld_run Try.underlying71 (bp_71 Try.underlying71) zr_71 rfl)) ?_
      -- store
      refine L.storeAgg (vs := [_]) rfl rfl rfl rfl sz_71 (hk4) rfl ?_
      intro w2 hk2 hg2 hs2
      refine L.va rfl (X.assign (by conv => lhs; whnf)) ?_
      refine L.nil ?_
      -- ret
      refine J.ret ?_
      refine thn_ret <| ?_
      -- results [['ResultVar.cell', 4, 71], ['ResultVar.tmp', 5]]
      refine finCT rfl (run_cell hk2 Try.underlying71 rfl (by kernel_rfl)) ?_
      exact .inl ⟨.inl h1, rfl, he1.grw hg2 (by intro g hg; injection hg with hg; omega)⟩
    · refine L.va rfl (X.move (by conv => lhs; whnf)) ?_
      refine L.va rfl (X.gtr rfl rfl) ?_
      refine L.va rfl (X.pickF rfl (by conv => lhs; whnf)) ?_
      refine L.nil ?_
      -- cond
      refine J.dec rfl (fun h2 => ?_) (fun h2 => ?_)
      · refine J.seq ?_
        refine J.region ?_
        refine L.va rfl (X.build (l := [_]) Evs.nil (bld_run Try.underlying71 (bp_71 Try.underlying71) zr_71 rfl)) ?_
        -- store
        refine L.storeAgg (vs := [_]) rfl rfl rfl rfl sz_71 (hk4) rfl ?_
        intro w2 hk2 hg2 hs2
        refine L.va rfl (X.assign (by conv => lhs; whnf)) ?_
        refine L.nil ?_
        -- ret
        refine J.ret ?_
        refine thn_ret <| ?_
        -- results [['ResultVar.cell', 4, 71], ['ResultVar.tmp', 5]]
        refine finCT rfl (run_cell hk2 Try.underlying71 rfl (by kernel_rfl)) ?_
        exact .inl ⟨.inr h2, rfl, he1.grw hg2 (by intro g hg; injection hg with hg; omega)⟩
      · refine J.skip ?_
        -- cutend
        refine ⟨(), At0 , (by (iterate 7 refine Agr.lk rfl ?_); exact Agr.rfl'), ?_⟩
        exact ⟨rfl, by omega, by omega⟩
  · rintro ⟨⟩ g w2 ⟨rfl, hp1, hp2⟩
    obtain ⟨q, hq⟩ := Int.eq_ofNat_of_zero_le (show 0 ≤ pages by omega)
    subst hq
    rw [Int.toNat_natCast]
    have hrl : (List.replicate q (0 : Int)).length = q := by simp
    refine J.seq ?_
    refine J.region ?_
    refine L.va rfl (X.move (by conv => lhs; whnf)) ?_
    -- makeSlice
    refine L.make rfl rfl rfl Try.underlying62 el_3 (by omega) ?_
    intro b3 w3 hb3 hs3 hk3 he3
    rw [made_nums] at hk3
    have ho3 : w3.ownsRow w.heap.size 3 1 (.slice (some ⟨b3, 0, none⟩) q q) q (nums .i64 (List.replicate q 0)) := by
      have := blk_own1 (q := q) hk3 (by omega : w.heap.size ≤ b3) (by unfold maxLen; omega) (by simp [nums])
      exact this
    refine L.va rfl (X.build (l := [_]) (Evs.cons (by conv => lhs; whnf) Evs.nil) (bld_run Try.underlying71 (bp_71 Try.underlying71) zr_71 rfl)) ?_
    -- alloc
    refine L.alloc rfl zr_71 ?_
    intro b5 w5 hb5 hs5 hk5 he5
    -- store
    refine L.storeAgg (vs := [_]) rfl rfl rfl rfl sz_71 (hk5) rfl ?_
    intro w6 hk6 hg6 hs6
    have hk6 : Blk w6 b5 71 #[.slice (some ⟨b3, 0, none⟩) q q] := hk6
    have e36 : Ext w3 w6 := he5.grw hg6 (by intro g hg; injection hg with hg; omega)
    have e26 : Ext w2 w6 := he3.trans e36
    have e06 : Ext w w6 := he1.trans e26
    have ho6 := ho3.ext e36
    have hk46 := hk4.ext e26
    have n45 : some b4 ≠ some b5 := by intro e; injection e with e; omega
    refine L.nil ?_
    refine J.seq ?_
    refine J.seq ?_
    refine J.region ?_
    refine L.va rfl (X.assign (by conv => lhs; whnf)) ?_
    refine L.nil ?_
    refine J.block ?_
    -- loop
    refine J.loop (X := Nat) [5, 7, 18, 19, 20, 21, 22, 23, 24, 25, 26, 27, 28, 29, 30, 31, 32, 33, 34, 35, 36, 37, 38, 39, 40, 41, 42, 43, 44, 45] (fun i => [(7, .int .i64 (i : Int))]) (fun i w' => i ≤ n ∧ w'.ownsRow w.heap.size 3 1 (.slice (some ⟨b3, 0, none⟩) q q) q (nums .i64 (mark (List.replicate q 0) (live.take i))) ∧ Blk w' b5 71 #[.slice (some ⟨b3, 0, none⟩) q q] ∧ Blk w' b4 71 #[.slice none 0 0] ∧ Ext w w' ∧ (∀ j, j < i → 1 ≤ live.getD j 0 ∧ live.getD j 0 ≤ (q : Int))) (fun i => n - i) (0) (At1 (by first | rfl | exact at_int rfl (by omega) | exact at_slice rfl (by omega) | exact at_int rfl (by simp))) ?_ ?_
    · exact ⟨Nat.zero_le _, ho6, hk6, hk46, e06, fun j hj => absurd hj (Nat.not_lt_zero _)⟩
    · rintro i g w7 ⟨hi, ho, hk5, hk4, he, hall⟩
      have hr7 := hr.ext he
      have hml : (mark (List.replicate q (0 : Int)) (live.take i)).length = q := by rw [mark_length]; simp
      refine J.seq ?_
      refine J.seq ?_
      refine J.region ?_
      refine L.va rfl (X.move (by conv => lhs; whnf)) ?_
      refine L.va rfl (X.move (by conv => lhs; whnf)) ?_
      refine L.va rfl (X.len rfl Try.underlying62) ?_
      refine L.va rfl (X.lss rfl rfl) ?_
      refine L.nil ?_
      -- cond
      refine J.dec rfl (fun hlt => ?_) (fun hlt => ?_)
      · have hil : i < n := by omega
        refine J.skip ?_
        refine J.seq ?_
        refine J.block ?_
        refine J.seq ?_
        refine J.seq ?_
        refine J.region ?_
        refine L.va rfl (X.move (by conv => lhs; whnf)) ?_
        refine L.va rfl (X.move (by conv => lhs; whnf)) ?_
        refine L.va rfl ((by first | exact X.index1n rfl rfl Try.underlying62 sz_3 (by first | exact Option.some_ne_none _ | exact hr7.some_ (by omega)) (by omega) | exact X.index1 rfl rfl Try.underlying62 sz_3 (by first | exact Option.some_ne_none _ | exact hr7.some_ (by omega)) (by omega))) ?_
        refine L.va rfl (X.load rfl sc_3 (by first | exact Ld.num hr7 (by omega) | exact Ld.blk hk5 rfl)) ?_
        refine L.va rfl (X.lss rfl rfl) ?_
        refine L.va rfl (X.move (by conv => lhs; whnf)) ?_
        -- case t29
        refine L.caseDec (k := 29) rfl (fun h1 => ?_) (fun h1 => ?_)
        · refine L.no rfl ?_
          refine L.no rfl ?_
          refine L.no rfl ?_
          refine L.no rfl ?_
          refine L.no rfl ?_
          refine L.no rfl ?_
          refine L.va rfl (X.pickT rfl (by conv => lhs; whnf)) ?_
          refine L.nil ?_
          -- cond
          refine J.iteT rfl ?_
          have e : allThere q live = false := by
            rw [← Bool.not_eq_true]
            intro ht
            have := allThere_at.1 ht i (by omega)
            omega
          refine J.seq ?_
          refine J.region ?_
          refine L.va rfl (X.build (l := [_]) Evs.nil (bld_run Try.underlying71 (bp_71 Try.underlying71) zr_71 rfl)) ?_
          -- store
          refine L.storeAgg (vs := [_]) rfl rfl rfl rfl sz_71 (hk4) rfl ?_
          intro w8 hk8 hg8 hs8
          refine L.va rfl (X.assign (by conv => lhs; whnf)) ?_
          refine L.nil ?_
          -- ret
          refine J.ret ?_
          refine thn_ret <|  inB_ret <|  thn_ret <|  thn_ret <|  inB_ret <|  thn_ret <| ?_
          -- results [['ResultVar.cell', 4, 71], ['ResultVar.tmp', 5]]
          refine finCT rfl (run_cell hk8 Try.underlying71 rfl (by kernel_rfl)) ?_
          exact .inr (.inl ⟨⟨hp1, hp2⟩, e, rfl, he.grw hg8 (by intro g hg; injection hg with hg; omega)⟩)
        · refine L.va rfl (X.move (by conv => lhs; whnf)) ?_
          refine L.va rfl (X.move (by conv => lhs; whnf)) ?_
          refine L.va rfl ((by first | exact X.index1n rfl rfl Try.underlying62 sz_3 (by first | exact Option.some_ne_none _ | exact hr7.some_ (by omega)) (by omega) | exact X.index1 rfl rfl Try.underlying62 sz_3 (by first | exact Option.some_ne_none _ | exact hr7.some_ (by omega)) (by omega))) ?_
          refine L.va rfl (X.load rfl sc_3 (by first | exact Ld.num hr7 (by omega) | exact Ld.blk hk5 rfl)) ?_
          refine L.va rfl (X.move (by conv => lhs; whnf)) ?_
          refine L.va rfl (X.gtr rfl rfl) ?_
          refine L.va rfl (X.pickF rfl (by conv => lhs; whnf)) ?_
          refine L.nil ?_
          -- cond
          refine J.dec rfl (fun h2 => ?_) (fun h2 => ?_)
          · have e : allThere q live = false := by
              rw [← Bool.not_eq_true]
              intro ht
              have := allThere_at.1 ht i (by omega)
              omega
            refine J.seq ?_
            refine J.region ?_
            refine L.va rfl (X.build (l := [_]) Evs.nil (bld_run Try.underlying71 (bp_71 Try.underlying71) zr_71 rfl)) ?_
            -- store
            refine L.storeAgg (vs := [_]) rfl rfl rfl rfl sz_71 (hk4) rfl ?_
            intro w8 hk8 hg8 hs8
            refine L.va rfl (X.assign (by conv => lhs; whnf)) ?_
            refine L.nil ?_
            -- ret
            refine J.ret ?_
            refine thn_ret <|  inB_ret <|  thn_ret <|  thn_ret <|  inB_ret <|  thn_ret <| ?_
            -- results [['ResultVar.cell', 4, 71], ['ResultVar.tmp', 5]]
            refine finCT rfl (run_cell hk8 Try.underlying71 rfl (by kernel_rfl)) ?_
            exact .inr (.inl ⟨⟨hp1, hp2⟩, e, rfl, he.grw hg8 (by intro g hg; injection hg with hg; omega)⟩)
          · obtain ⟨p, hp⟩ : ∃ p : Nat, live.getD i 0 = ((p + 1 : Nat) : Int) := ⟨(live.getD i 0).toNat - 1, by omega⟩
            have hst := mark_take (List.replicate q (0 : Int)) live (i := i) (by omega)
            rw [hp, Int.toNat_natCast, show p + 1 - 1 = p by omega] at hst
            refine J.skip ?_
            -- draw
            refine J.draw (ℓ := 8) (S := Ext w7) mixed (fun w8 hS hS_h => ?_)
            -- t45
            refine D.va 0 rfl (by kernel_rfl) (fun _ _ _ h => h) rfl (fun w' hw => X.fieldAddr rfl Try.underlying71 rfl sz_62 (by decide)) hS ?_
            refine D.va 1 rfl (by kernel_rfl) (fun _ _ _ h => h) rfl (fun w' hw => X.load rfl sc_62 (by first | exact Ld.num (hr7.ext hw) (by omega) | exact Ld.blk (hk5.ext hw) rfl)) hS ?_
            refine D.va 2 rfl (by kernel_rfl) (fun _ _ _ h => h) rfl (fun w' hw => X.move (by conv => lhs; whnf)) hS ?_
            refine D.va 3 rfl (by kernel_rfl) (fun _ _ _ h => h) rfl (fun w' hw => X.move (by conv => lhs; whnf)) hS ?_
            refine D.va 4 rfl (by kernel_rfl) (fun _ _ _ h => h) rfl (fun w' hw => (by first | exact X.index1n rfl rfl Try.underlying62 sz_3 (by first | exact Option.some_ne_none _ | exact hr7.some_ (by omega)) (by omega) | exact X.index1 rfl rfl Try.underlying62 sz_3 (by first | exact Option.some_ne_none _ | exact hr7.some_ (by omega)) (by omega))) hS ?_
            refine D.va 5 rfl (by kernel_rfl) (fun _ _ _ h => h) rfl (fun w' hw => X.load rfl sc_3 (by first | exact Ld.num (hr7.ext hw) (by omega) | exact Ld.blk (hk5.ext hw) rfl)) hS ?_
            refine D.va 6 rfl (by kernel_rfl) (fun _ _ _ h => h) rfl (fun w' hw => X.sub rfl rfl (by omega)) hS ?_
            refine D.va 7 rfl (by kernel_rfl) (fun _ _ _ h => h) rfl (fun w' hw => X.index1n (j := p) rfl (show Value.int .i64 (live.getD i 0 - 1) = _ by rw [hp, show (((p + 1 : Nat) : Int) - 1) = ((p : Nat) : Int) by omega]) Try.underlying62 sz_3 (Option.some_ne_none _) (by omega)) hS ?_
            -- store
            have ho8 := ho.ext hS
            refine D.one 8 (by kernel_rfl) rfl ?_
            refine L.storeON rfl rfl (by conv => lhs; whnf) sz_3 (ho8) (by omega) ?_
            intro w9 ho9 hg9 hbl9 hs9
            refine L.nil ?_
            refine ⟨fun h => absurd rfl h, ?_⟩
            rw [← hst] at ho9
            have hk59 := (hk5.ext hS).grown hg9 (fun e => own_blk_ne ho8 (hk5.ext hS) (by decide) e.symm)
            have hk49 := (hk4.ext hS).grown hg9 (fun e => own_blk_ne ho8 (hk4.ext hS) (by decide) e.symm)
            refine D.done (by kernel_rfl) ?_
            refine J.region ?_
            refine L.va rfl (X.move (by conv => lhs; whnf)) ?_
            refine L.va rfl (X.add rfl rfl (by omega)) ?_
            refine L.va rfl (X.assign (by conv => lhs; whnf)) ?_
            refine L.nil ?_
            -- loopend
            refine ⟨i + 1, At1 (by first | rfl | exact at_int rfl (by omega) | exact at_slice rfl (by omega) | exact at_int rfl (by simp)), (by (iterate 29 refine Agr.lk rfl ?_); exact Agr.lk rfl (Agr.hav rfl Agr.rfl')), ?_⟩
            refine ⟨⟨by omega, ho9, hk59, hk49, (he.trans hS).grw hg9 (fun g hg => (ho8.lt g hg).1), fun j hj => ?_⟩, by omega⟩
            rcases Nat.lt_or_ge j i with hj2 | hj2
            · exact hall j hj2
            · obtain rfl : j = i := by omega
              omega
      · obtain rfl : i = n := by omega
        rw [List.take_of_length_le (by omega)] at ho
        refine J.exit ?_
        refine J.seq ?_
        refine J.region ?_
        refine L.va rfl ((by first | exact X.loadAgg rfl (range_l hk5) Try.underlying71 rfl (by kernel_rfl) | exact X.loadAgg rfl (range_blk hk5) Try.underlying71 rfl (by kernel_rfl))) ?_
        -- store
        refine L.storeAgg (vs := [_]) rfl rfl rfl rfl sz_71 (hk4) rfl ?_
        intro w8 hk8 hg8 hs8
        refine L.va rfl (X.assign (by conv => lhs; whnf)) ?_
        refine L.nil ?_
        -- ret
        refine J.ret ?_
        -- results [['ResultVar.cell', 4, 71], ['ResultVar.tmp', 5]]
        refine finCT rfl (run_cell hk8 Try.underlying71 rfl (by kernel_rfl)) ?_
        have hml2 : (mark (List.replicate q (0 : Int)) live).length = q := by rw [mark_length]; simp
        refine .inr (.inr ⟨⟨hp1, hp2⟩, allThere_at.2 (fun j hj => hall j (by omega)), some ⟨b3, 0, none⟩, q, ?_, ?_, he.grw hg8 (by intro g hg; injection hg with hg; omega)⟩)
        · rw [hml2]; rfl
        · rw [hml2]
          exact ho.kept hg8 (.inr (own_blk_ne ho hk4 (by decide)))
theorem rfcount {w : World} {N : Nat} (A : Option Addr) (c : Nat) (R : List Int) (ho : w.ownsRow N 3 1 (.slice A R.length c) R.length (nums .i64 R)) (q : Int) (hm : R.length ≤ 1000000) : Calls Try.prog 75 #[rsv A R.length c, .int .i64 q] w fun e w' => e = .returned (.int .i64 ((fK q R R.length).length : Int)) ∧ Ext w w' := by
  have hr := Reads.of_own ho
  refine enter Try.func75 rfl (by kernel_rfl) ?_
  refine J.seq ?_
  refine J.region ?_
  -- box
  refine L.boxA (l := [_]) rfl rfl ?_
  intro b1 w1 hb1 hs1 hk1 he1
  have hr1 := hr.ext he1
  refine L.va rfl (X.assign (by conv => lhs; whnf)) ?_
  refine L.nil ?_
  refine J.seq ?_
  refine J.region ?_
  refine L.va rfl (X.assign (by conv => lhs; whnf)) ?_
  refine L.nil ?_
  refine J.seq ?_
  refine J.seq ?_
  refine J.region ?_
  refine L.va rfl (X.assign (by conv => lhs; whnf)) ?_
  refine L.nil ?_
  refine J.block ?_
  -- loop
  refine J.loop (X := Nat) [5, 6, 7, 8, 9, 10, 11, 12, 13, 14, 15, 16, 17, 18, 19, 20, 21, 22] (fun i => [(6, .int .i64 (i : Int)), (5, .int .i64 ((fK q R i).length : Int))]) (fun i w' => w' = w1 ∧ i ≤ R.length) (fun i => R.length - i) (0) (At2 (by first | rfl | exact at_int rfl (by omega) | exact at_slice rfl (by omega) | exact at_int rfl (by simp)) (by first | rfl | exact at_int rfl (by omega) | exact at_slice rfl (by omega) | exact at_int rfl (by simp))) ?_ ?_
  · exact ⟨rfl, Nat.zero_le _⟩
  · rintro i g w2 ⟨rfl, hi⟩
    have hs := fK_succ q R i
    have hfl := fK_len q R i
    refine J.seq ?_
    refine J.seq ?_
    refine J.region ?_
    refine L.va rfl (X.move (by conv => lhs; whnf)) ?_
    refine L.va rfl (X.fieldAddr rfl Try.underlying71 rfl sz_62 (by decide)) ?_
    refine L.va rfl (X.load rfl sc_62 (by first | exact Ld.blk hk1 rfl | exact Ld.num hr1 (by omega))) ?_
    refine L.va rfl (X.len rfl Try.underlying62) ?_
    refine L.va rfl (X.lss rfl rfl) ?_
    refine L.nil ?_
    -- cond
    refine J.dec rfl (fun hlt => ?_) (fun hlt => ?_)
    · have hil : i < R.length := by omega
      refine J.skip ?_
      refine J.seq ?_
      refine J.block ?_
      refine J.seq ?_
      refine J.region ?_
      refine L.va rfl (X.fieldAddr rfl Try.underlying71 rfl sz_62 (by decide)) ?_
      refine L.va rfl (X.load rfl sc_62 (by first | exact Ld.blk hk1 rfl | exact Ld.num hr1 (by omega))) ?_
      refine L.va rfl (X.move (by conv => lhs; whnf)) ?_
      refine L.va rfl ((by first | exact X.index1n rfl rfl Try.underlying62 sz_3 (by first | exact Option.some_ne_none _ | exact hr1.some_ (by omega)) (by omega) | exact X.index1 rfl rfl Try.underlying62 sz_3 (by first | exact Option.some_ne_none _ | exact hr1.some_ (by omega)) (by omega))) ?_
      refine L.va rfl (X.load rfl sc_3 (by first | exact Ld.blk hk1 rfl | exact Ld.num hr1 (by omega))) ?_
      refine L.va rfl (X.move (by conv => lhs; whnf)) ?_
      refine L.va rfl (X.eql rfl rfl) ?_
      refine L.nil ?_
      -- cond
      refine J.dec rfl (fun he => ?_) (fun he => ?_)
      · rw [if_pos he] at hs
        have hsl : (fK q R (i + 1)).length = (fK q R i).length + 1 := by rw [hs]; simp
        refine J.region ?_
        refine L.va rfl (X.move (by conv => lhs; whnf)) ?_
        refine L.va rfl (X.add rfl rfl (by omega)) ?_
        refine L.va rfl (X.assign (by conv => lhs; whnf)) ?_
        refine L.nil ?_
        refine J.region ?_
        refine L.va rfl (X.move (by conv => lhs; whnf)) ?_
        refine L.va rfl (X.add rfl rfl (by omega)) ?_
        refine L.va rfl (X.assign (by conv => lhs; whnf)) ?_
        refine L.nil ?_
        -- loopend
        refine ⟨i + 1, At2 (by first | rfl | exact at_int rfl (by omega) | exact at_slice rfl (by omega) | exact at_int rfl (by simp)) (by first | rfl | exact at_int rfl (by omega) | exact at_slice rfl (by omega) | exact at_int rfl (by simp)), (by (iterate 18 refine Agr.lk rfl ?_); exact Agr.lk rfl (Agr.hav rfl Agr.rfl')), ?_⟩
        exact ⟨⟨rfl, by omega⟩, by omega⟩
      · rw [if_neg he, List.append_nil] at hs
        refine J.skip ?_
        refine J.region ?_
        refine L.va rfl (X.move (by conv => lhs; whnf)) ?_
        refine L.va rfl (X.add rfl rfl (by omega)) ?_
        refine L.va rfl (X.assign (by conv => lhs; whnf)) ?_
        refine L.nil ?_
        -- loopend
        refine ⟨i + 1, At2 (at_int rfl (by omega)) (at_int rfl (by rw [hs])), (by (iterate 15 refine Agr.lk rfl ?_); exact Agr.lk rfl (Agr.hav rfl Agr.rfl')), ?_⟩
        exact ⟨⟨rfl, by omega⟩, by omega⟩
    · obtain rfl : i = R.length := by omega
      refine J.exit ?_
      refine J.seq ?_
      refine J.region ?_
      refine L.va rfl (X.move (by conv => lhs; whnf)) ?_
      refine L.va rfl (X.assign (by conv => lhs; whnf)) ?_
      refine L.nil ?_
      -- ret
      refine J.ret ?_
      refine fin1 ?_
      exact ⟨rfl, he1⟩
end Go.Proofs.Ytdmfikedojgjbaa
