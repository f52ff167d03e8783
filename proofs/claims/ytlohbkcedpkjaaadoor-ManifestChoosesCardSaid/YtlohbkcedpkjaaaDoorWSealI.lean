/-
  The reference's Get of package seal, walked.
-/
import Derived.Test.YtlohbkcedpkjaaaDoorTyps
import Derived.Test.YtlohbkcedpkjaaaDoorWSealGet
import Derived.Test.YtlohbkcedpkjaaaDoorWSealR
namespace Go.Proofs.YtlohbkcedpkjaaaDoor
open Go.RowKit H
open Byts Seal
open Fram (getD_nn)
set_option linter.unusedVariables false
/-- seal.Get at any bytes -/
theorem sget_anyC (A : Option Addr) (n c : Nat) (zs : List Int) (w : World) (ht : Tab w) (hr : Reads w w.heap.size 1 A n (nums .u8 zs)) (hz : ∀ z ∈ zs, 0 ≤ z ∧ z < 256) (hnc : n ≤ c) (hc0 : c ≤ 9223372036854775807) :
    Calls Tryd.prog 26 #[.slice A n c] w (SGetC zs w) := by
  by_cases hn : n = 1024
  · subst hn; exact sget_main A c zs w ht hr hz hnc hc0
  · exact sget_form A n c zs w hr hn
theorem sget_any (A : Option Addr) (n c : Nat) (zs : List Int) (w : World) (ht : Tab w) (hr : Reads w w.heap.size 1 A n (nums .u8 zs)) (hz : ∀ z ∈ zs, 0 ≤ z ∧ z < 256) (hnc : n ≤ c) (hc0 : c ≤ 9223372036854775807) :
    Calls Tryd.prog 26 #[.slice A n c] w (SGet zs w) := (sget_anyC A n c zs w ht hr hz hnc hc0).mono fun _ _ h => h.weak
set_option maxRecDepth 100000 in
set_option maxHeartbeats 1000000 in
theorem srefget_anyC (A : Option Addr) (n c : Nat) (zs : List Int) (w : World) (hr : Reads w w.heap.size 1 A n (nums .u8 zs)) (hz : ∀ z ∈ zs, 0 ≤ z ∧ z < 256) (hnc : n ≤ c) (hc0 : c ≤ 9223372036854775807) :
    Calls Tryd.prog 31 #[.slice A n c] w (SGetC zs w) := by
  have hl : zs.length = n := by have := hr.1; simpa [nums] using this
  refine enter Tryd.func31 rfl (by kernel_rfl) ?_
  refine J.seq ?_
  refine J.region ?_
  -- alloc
  refine L.alloc rfl zr_25 ?_
  intro b w1 hb hs hk he
  replace hr := hr.ext he
  refine L.va rfl (X.assign (by conv => lhs; whnf)) ?_
  refine L.nil ?_
  refine J.seq ?_
  refine J.seq ?_
  refine J.region ?_
  refine L.va rfl (X.move (by conv => lhs; whnf)) ?_
  refine L.va rfl (X.len rfl Tryd.underlying23) ?_
  refine L.va rfl (X.neq rfl rfl) ?_
  refine L.nil ?_
  -- cond
  refine J.ndec rfl (fun h1 => ?_) (fun h1 => ?_)
  · have he6 : sE smZ zs = 6 := by unfold sE; rw [if_pos (by omega)]
    refine J.seq ?_
    refine J.region ?_
    refine L.va rfl (X.build (l := [_, _, _, _]) Evs.nil (bld_run Tryd.underlying25 (bp_25 Tryd.underlying25) zr_25 rfl)) ?_
    -- store
    refine L.storeAgg (vs := [_, _, _, _]) rfl rfl rfl rfl sz_25 (hk) rfl ?_
    intro w2 hk2 hg2 hs2
    refine L.va rfl (X.assign (by conv => lhs; whnf)) ?_
    refine L.nil ?_
    -- ret
    refine J.ret ?_
    refine thn_ret <| ?_
    -- results [['ResultVar.cell', 2, 25], ['ResultVar.tmp', 3]]
    refine finCT rfl (run_cell hk2 Tryd.underlying25 rfl (by kernel_rfl)) ?_
    exact SGetC_bad (by decide) he6 (he.grw hg2 (by intro g hg; injection hg with hg; omega))
  · obtain rfl : n = 1024 := by omega
    have hE : sE smZ zs = if zs.drop 1020 ≠ smZ (zs.take 1020) then 13 else if zs.getD 0 0 = 0 ∨ 1001 < sN zs then 6 else if ∃ z ∈ sT zs, z ≠ 0 then 6 else 0 := by
      unfold sE; rw [if_neg (by rw [hl]; simp)]
    have hrl := (Crc.more 0#32 (zs.take 1020)).isLt
    refine J.skip ?_
    refine J.seq ?_
    refine J.region ?_
    refine L.va rfl (X.move (by conv => lhs; whnf)) ?_
    refine L.va rfl ((by first | exact X.sliceTon (j := 1020) rfl rfl Tryd.underlying23 sz_5 (by omega) | exact X.sliceTo rfl rfl Tryd.underlying23 sz_5 (by omega))) ?_
    -- callfn bushel/bushelref06.Sum
    refine L.call rfl en_25 rfl (refsum_any A 1020 c (zs.take 1020) _ (by have := (hr.first (k := 1020) (by omega)).here (by omega); simpa [nums] using this) (fun z h => hz z (List.mem_of_mem_take h)) (by omega)) ?_
    rintro e _ ⟨rfl, rfl⟩
    refine ⟨_, rfl, ?_⟩
    obtain ⟨r, hr0⟩ : ∃ r, Crc.more 0#32 (zs.take 1020) = r := ⟨_, rfl⟩
    have hsm : smZ (zs.take 1020) = bytesZ r := by unfold smZ; rw [hr0]
    rw [hsm] at hE
    rw [hr0] at hrl
    rw [hr0]
    refine L.va rfl (X.assign (by conv => lhs; whnf)) ?_
    refine L.nil ?_
    refine J.seq ?_
    refine J.seq ?_
    refine J.region ?_
    refine L.va rfl (X.assign (by conv => lhs; whnf)) ?_
    refine L.nil ?_
    refine J.block ?_
    -- loop
    refine J.loop (X := Nat) [3, 4, 5, 15, 16, 17, 18, 19, 20, 21, 22, 23, 24, 25, 26, 27, 28, 29, 30] (fun k => [(5, .int .i64 (k : Int)), (4, .int .u32 ((r.toNat : Int) / 256 ^ k))]) (fun k w' => k ≤ 4 ∧ w' = w1 ∧ ∀ j, j < k → zs.getD (1020 + j) 0 = (bytesZ r).getD j 0) (fun k => 4 - k) (0) (At2 (by first | rfl | exact at_int rfl (by omega) | exact at_slice rfl (by omega) | exact at_int rfl (by simp)) (by first | rfl | exact at_int rfl (by omega) | exact at_slice rfl (by omega) | exact at_int rfl (by simp))) ?_ ?_
    · exact ⟨by omega, rfl, fun j hj => absurd hj (by omega)⟩
    · rintro k g w2 ⟨hk4, rfl, hP⟩
      refine J.seq ?_
      refine J.seq ?_
      refine J.region ?_
      refine L.va rfl (X.move (by conv => lhs; whnf)) ?_
      refine L.va rfl (X.lss rfl rfl) ?_
      refine L.nil ?_
      -- cond
      refine J.dec rfl (fun hlt => ?_) (fun hlt => ?_)
      · have y0 : 0 ≤ (r.toNat : Int) / 256 ^ k := Int.ediv_nonneg (by omega) (Int.pow_nonneg (by decide))
        have y1 : (r.toNat : Int) / 256 ^ k ≤ 4294967295 := Int.le_trans (Int.ediv_le_self _ (by omega)) (by omega)
        have hb := bytesZ_shr' r k (by omega)
        refine J.skip ?_
        refine J.seq ?_
        refine J.block ?_
        refine J.seq ?_
        refine J.seq ?_
        refine J.region ?_
        refine L.va rfl (X.move (by conv => lhs; whnf)) ?_
        refine L.va rfl (X.move (by conv => lhs; whnf)) ?_
        refine L.va rfl (X.add rfl rfl (by omega)) ?_
        refine L.va rfl ((by first | exact X.index1n rfl rfl Tryd.underlying23 sz_5 (by first | exact Option.some_ne_none _ | exact hr.some_ (by omega)) (by omega) | exact X.index1 rfl rfl Tryd.underlying23 sz_5 (by first | exact Option.some_ne_none _ | exact hr.some_ (by omega)) (by omega))) ?_
        refine L.va rfl (X.load rfl sc_5 (by first | exact Ld.num hr (by omega) | exact Ld.blk hk rfl)) ?_
        refine L.va rfl (X.move (by conv => lhs; whnf)) ?_
        refine L.va rfl (X.rem rfl rfl (by omega)) ?_
        refine L.va rfl ((by first | exact X.conv8 rfl is_61 Tryd.underlying5 (by omega) | exact X.convw rfl is_61 Tryd.underlying5)) ?_
        refine L.va rfl (X.neq rfl rfl) ?_
        refine L.nil ?_
        -- cond
        refine J.ndec rfl (fun hne => ?_) (fun hne => ?_)
        · have he13 : sE smZ zs = 13 := by
            rw [hE, if_pos]
            have := tail_ne zs 1020 k r (by omega) (by omega) (by rw [hb]; exact hne)
            rwa [List.take_of_length_le (by simp; omega)] at this
          refine J.seq ?_
          refine J.region ?_
          refine L.va rfl (X.build (l := [_, _, _, _]) Evs.nil (bld_run Tryd.underlying25 (bp_25 Tryd.underlying25) zr_25 rfl)) ?_
          -- store
          refine L.storeAgg (vs := [_, _, _, _]) rfl rfl rfl rfl sz_25 (hk) rfl ?_
          intro w3 hk2 hg2 hs2
          refine L.va rfl (X.assign (by conv => lhs; whnf)) ?_
          refine L.nil ?_
          -- ret
          refine J.ret ?_
          refine thn_ret <|  inB_ret <|  thn_ret <|  thn_ret <|  inB_ret <|  thn_ret <| ?_
          -- results [['ResultVar.cell', 2, 25], ['ResultVar.tmp', 3]]
          refine finCT rfl (run_cell hk2 Tryd.underlying25 rfl (by kernel_rfl)) ?_
          exact SGetC_bad (by decide) he13 (he.grw hg2 (by intro g hg; injection hg with hg; omega))
        · have hd := div256 r k
          refine J.skip ?_
          refine J.region ?_
          refine L.va rfl (X.move (by conv => lhs; whnf)) ?_
          refine L.va rfl (X.quo32 rfl rfl (by omega)) ?_
          refine L.va rfl (X.assign (by conv => lhs; whnf)) ?_
          refine L.nil ?_
          refine J.region ?_
          refine L.va rfl (X.move (by conv => lhs; whnf)) ?_
          refine L.va rfl (X.add rfl rfl (by omega)) ?_
          refine L.va rfl (X.assign (by conv => lhs; whnf)) ?_
          refine L.nil ?_
          -- loopend
          refine ⟨k + 1, At2 (by first | rfl | exact at_int rfl (by omega) | exact at_slice rfl (by omega) | exact at_int rfl (by simp)) (by first | rfl | exact at_int rfl (by omega) | exact at_slice rfl (by omega) | exact at_int rfl (by simp)), (by (iterate 17 refine Agr.lk rfl ?_); exact Agr.lk rfl (Agr.hav rfl Agr.rfl')), ?_⟩
          refine ⟨⟨by omega, rfl, fun j hj => ?_⟩, by omega⟩
          rcases Nat.lt_or_ge j k with h | h
          · exact hP j h
          · obtain rfl : j = k := by omega
            rw [hb]; exact hne
      · obtain rfl : k = 4 := by omega
        have hgood : zs.drop 1020 = bytesZ r := by
          have := tail_eq zs 1020 r (by omega) hP
          rwa [List.take_of_length_le (by simp; omega)] at this
        rw [if_neg (by rw [hgood]; simp)] at hE
        obtain ⟨n0, n1⟩ := sN_bd hz
        obtain ⟨z0, z1⟩ := getD_nn hz 0
        refine J.exit ?_
        refine J.seq ?_
        refine J.region ?_
        refine L.va rfl (X.move (by conv => lhs; whnf)) ?_
        refine L.va rfl ((by first | exact X.slicen (i := 17) (j := 19) rfl rfl rfl Tryd.underlying23 sz_5 (by omega) | exact X.slice rfl rfl rfl Tryd.underlying23 sz_5 (by omega))) ?_
        -- callfn bushel/bushelref20.number
        refine L.call rfl en_54 rfl (refnumber_any _ _ _ _ _ ((part_nums (i := 17) (j := 19) hr (by omega) (by omega) hnc).here (by omega)) (mid_bytes hz _ _) (by omega)) ?_
        rintro e _ ⟨rfl, rfl⟩
        refine ⟨_, rfl, ?_⟩
        rw [show num ((zs.drop 17).take (19 - 17)) = sN zs from rfl]
        obtain ⟨m, hm⟩ := Int.eq_ofNat_of_zero_le n0
        rw [hm] at hE n1
        rw [hm]
        refine L.va rfl ((by first | exact X.convI rfl is_22 Tryd.underlying3 (by omega) | exact X.convw rfl is_22 Tryd.underlying3)) ?_
        refine L.va rfl (X.assign (by conv => lhs; whnf)) ?_
        refine L.nil ?_
        refine J.seq ?_
        refine J.seq ?_
        refine J.region ?_
        refine L.va rfl (X.move (by conv => lhs; whnf)) ?_
        refine L.va rfl (X.index1n (j := 0) rfl rfl Tryd.underlying23 sz_5 (by first | exact Option.some_ne_none _ | exact hr.some_ (by omega)) (by omega)) ?_
        refine L.va rfl (X.load rfl sc_5 (by first | exact Ld.num hr (by omega) | exact Ld.blk hk rfl)) ?_
        refine L.va rfl (X.eql rfl rfl) ?_
        refine L.va rfl (X.move (by conv => lhs; whnf)) ?_
        -- case t39
        refine L.caseDec (k := 39) rfl (fun hz0 => ?_) (fun hz0 => ?_)
        · have he6 : sE smZ zs = 6 := by rw [hE, if_pos (.inl hz0)]
          refine L.no rfl ?_
          refine L.no rfl ?_
          refine L.va rfl (X.pickT rfl (by conv => lhs; whnf)) ?_
          refine L.nil ?_
          -- cond
          refine J.iteT rfl ?_
          refine J.seq ?_
          refine J.region ?_
          refine L.va rfl (X.build (l := [_, _, _, _]) Evs.nil (bld_run Tryd.underlying25 (bp_25 Tryd.underlying25) zr_25 rfl)) ?_
          -- store
          refine L.storeAgg (vs := [_, _, _, _]) rfl rfl rfl rfl sz_25 (hk) rfl ?_
          intro w3 hk2 hg2 hs2
          refine L.va rfl (X.assign (by conv => lhs; whnf)) ?_
          refine L.nil ?_
          -- ret
          refine J.ret ?_
          refine thn_ret <| ?_
          -- results [['ResultVar.cell', 2, 25], ['ResultVar.tmp', 3]]
          refine finCT rfl (run_cell hk2 Tryd.underlying25 rfl (by kernel_rfl)) ?_
          exact SGetC_bad (by decide) he6 (he.grw hg2 (by intro g hg; injection hg with hg; omega))
        · refine L.va rfl (X.move (by conv => lhs; whnf)) ?_
          refine L.va rfl (X.gtr rfl rfl) ?_
          refine L.va rfl (X.pickF rfl (by conv => lhs; whnf)) ?_
          refine L.nil ?_
          -- cond
          refine J.dec rfl (fun hgt => ?_) (fun hgt => ?_)
          · have he6 : sE smZ zs = 6 := by rw [hE, if_pos (.inr hgt)]
            refine J.seq ?_
            refine J.region ?_
            refine L.va rfl (X.build (l := [_, _, _, _]) Evs.nil (bld_run Tryd.underlying25 (bp_25 Tryd.underlying25) zr_25 rfl)) ?_
            -- store
            refine L.storeAgg (vs := [_, _, _, _]) rfl rfl rfl rfl sz_25 (hk) rfl ?_
            intro w3 hk2 hg2 hs2
            refine L.va rfl (X.assign (by conv => lhs; whnf)) ?_
            refine L.nil ?_
            -- ret
            refine J.ret ?_
            refine thn_ret <| ?_
            -- results [['ResultVar.cell', 2, 25], ['ResultVar.tmp', 3]]
            refine finCT rfl (run_cell hk2 Tryd.underlying25 rfl (by kernel_rfl)) ?_
            exact SGetC_bad (by decide) he6 (he.grw hg2 (by intro g hg; injection hg with hg; omega))
          · have hE2 := hE
            rw [if_neg (by intro h; rcases h with h | h; exact hz0 h; exact hgt h)] at hE
            refine J.skip ?_
            -- until
            have hnm : m ≤ 1001 := by omega
            have hVl : ((zs.drop 19).take m).length = m := by simp; omega
            have hrV : ∀ w', Ext w2 w' → Reads w' w.heap.size 1 (if c = (19 : Int).toNat then A else A.map (·.add ((19 : Int).toNat * 1))) ((19 + (m : Int)).toNat - (19 : Int).toNat) (nums .u8 ((zs.drop 19).take m)) := by
              intro w' hw'
              have := part_nums (i := 19) (j := 19 + m) (hr.ext hw') (by omega) (by omega) hnc
              rw [show 19 + m - 19 = m by omega] at this
              have e : (19 + (m : Int)).toNat - (19 : Int).toNat = m := by omega
              rw [e]
              exact this
            refine J.cut (X := Nat × Option Addr × Nat) [7, 44, 45, 46, 47, 48, 49, 50, 51, 52, 53, 54, 55, 56, 57, 58, 59, 60] (fun x => [(7, .pointer (some ⟨x.1, 0, none⟩))]) (fun x w' => Blk w' x.1 25 #[.int .i64 (zs.getD 0 0), .int .u64 (num ((zs.drop 1).take 8)), .int .u64 (num ((zs.drop 9).take 8)), .slice x.2.1 m x.2.2] ∧ w2.heap.size ≤ x.1 ∧ w'.ownsRow w2.heap.size 5 1 (.slice x.2.1 m x.2.2) m (nums .u8 ((zs.drop 19).take m)) ∧ Ext w2 w') ?_ ?_
            · -- draw
              refine J.draw (ℓ := 1000000) (S := Ext w2) mixed (fun w4 hS hS_h => ?_)
              refine D.va 0 rfl (by kernel_rfl) (fun _ _ _ h => h) rfl (fun w' hw => X.move (by conv => lhs; whnf)) hS ?_
              refine D.va 1 rfl (by kernel_rfl) (fun _ _ _ h => h) rfl (fun w' hw => X.index1n (j := 0) rfl rfl Tryd.underlying23 sz_5 (by first | exact Option.some_ne_none _ | exact hr.some_ (by omega)) (by omega)) hS ?_
              refine D.va 2 rfl (by kernel_rfl) (fun _ _ _ h => h) rfl (fun w' hw => X.load rfl sc_5 (by first | exact Ld.num (hr.ext hw) (by omega) | exact Ld.blk (hk.ext hw) rfl)) hS ?_
              refine D.va 3 rfl (by kernel_rfl) (fun _ _ _ h => h) rfl (fun w' hw => (by first | exact X.convI rfl is_5 Tryd.underlying3 (by omega) | exact X.convw rfl is_5 Tryd.underlying3)) hS ?_
              refine D.va 4 rfl (by kernel_rfl) (fun _ _ _ h => h) rfl (fun w' hw => X.move (by conv => lhs; whnf)) hS ?_
              refine D.va 5 rfl (by kernel_rfl) (fun _ _ _ h => h) rfl (fun w' hw => (by first | exact X.slicen (i := 1) (j := 9) rfl rfl rfl Tryd.underlying23 sz_5 (by omega) | exact X.slice rfl rfl rfl Tryd.underlying23 sz_5 (by omega))) hS ?_
              refine D.va 7 rfl (by kernel_rfl) (fun _ _ _ h => h) rfl (fun w' hw => X.move (by conv => lhs; whnf)) hS ?_
              refine D.va 8 rfl (by kernel_rfl) (fun _ _ _ h => h) rfl (fun w' hw => (by first | exact X.slicen (i := 9) (j := 17) rfl rfl rfl Tryd.underlying23 sz_5 (by omega) | exact X.slice rfl rfl rfl Tryd.underlying23 sz_5 (by omega))) hS ?_
              refine D.va 11 rfl (by kernel_rfl) (fun _ _ _ h => h) rfl (fun w' hw => X.move (by conv => lhs; whnf)) hS ?_
              refine D.va 12 rfl (by kernel_rfl) (fun _ _ _ h => h) rfl (fun w' hw => X.move (by conv => lhs; whnf)) hS ?_
              refine D.va 13 rfl (by kernel_rfl) (fun _ _ _ h => h) rfl (fun w' hw => X.add rfl rfl (by omega)) hS ?_
              refine D.va 14 rfl (by kernel_rfl) (fun _ _ _ h => h) rfl (fun w' hw => (by first | exact X.slicen (i := 19) rfl rfl rfl Tryd.underlying23 sz_5 (by omega) | exact X.slice rfl rfl rfl Tryd.underlying23 sz_5 (by omega))) hS ?_
              -- many [6, 10, 17]
              refine D.call 6 rfl (by kernel_rfl) (fun _ _ _ h => h) rfl en_54 rfl (fun w' hw => refnumber_any _ _ _ _ _ ((part_nums (i := 1) (j := 9) (hr.ext hw) (by omega) (by omega) hnc).here (by omega)) (mid_bytes hz _ _) (by omega)) hS ?_
              -- many [9, 10, 17]
              refine D.call 9 rfl (by kernel_rfl) (fun _ _ _ h => h) rfl en_54 rfl (fun w' hw => refnumber_any _ _ _ _ _ ((part_nums (i := 9) (j := 17) (hr.ext hw) (by omega) (by omega) hnc).here (by omega)) (mid_bytes hz _ _) (by omega)) hS ?_
              -- many [10, 17]
              refine D.two 10 17 (by kernel_rfl) rfl rfl ?_ ?_
              · refine L.bslice (vs := []) rfl Evs.nil rfl rfl rfl rfl Tryd.underlying23 sz_5 zr_5 (by decide) ?_
                intro b5 w5 hb5 hs5 hk5 he5
                have hS1 := hS.trans he5
                refine L.nil ?_
                refine ⟨fun _ => hS1, ?_⟩
                have ho5 : w5.ownsRow w2.heap.size 5 1 (.slice (some ⟨b5, 0, none⟩) 0 0) 0 (nums .u8 []) := blk_own1 hk5 (by rw [hb5]; exact hS.le) (by decide) rfl
                have hz5 := hS1.le
                -- many [15, 17]
                refine D.two 15 17 (by kernel_rfl) rfl rfl ?_ ?_
                · refine L.appendQ (q := m) (ys := ((zs.drop 19).take m)) rfl rfl rfl Tryd.underlying23 el_5 (ho5) (hrV _ hS1) (by omega) (by simp) (by unfold maxLen; omega) (by omega) ?_
                  intro A6 c6 w6 ho6 hg6 hb6 hor6
                  have hS2 := hS1.low hb6 (Nat.le_refl _)
                  refine L.nil ?_
                  refine ⟨fun _ => hS2, ?_⟩
                  have hz6 := hS2.le
                  refine D.va 16 rfl (by kernel_rfl) (fun _ _ _ h => h) rfl (fun w' hw => X.build (l := [_, _, _, _]) (Evs.cons (by conv => lhs; whnf) (Evs.cons (by conv => lhs; whnf) (Evs.cons (by conv => lhs; whnf) (Evs.cons (by conv => lhs; whnf) Evs.nil)))) (bld_run Tryd.underlying25 (bp_25 Tryd.underlying25) zr_25 rfl)) hS2 ?_
                  -- alloc
                  refine D.one 17 (by kernel_rfl) rfl ?_
                  refine L.alloc rfl zr_25 ?_
                  intro b7 w7 hb7 hs7 hk7 he7
                  have hS3 := hS2.trans he7
                  refine L.nil ?_
                  refine ⟨fun _ => hS3, ?_⟩
                  -- store
                  refine D.one 18 (by kernel_rfl) rfl ?_
                  refine L.storeAgg (vs := [_, _, _, _]) rfl rfl rfl rfl sz_25 (hk7) rfl ?_
                  intro w8 hk8 hg8 hs8
                  have hS4 := hS3.grw hg8 (by intro g hg; injection hg with hg; omega)
                  refine L.nil ?_
                  refine ⟨fun _ => hS4, ?_⟩
                  refine D.done (by kernel_rfl) ?_
                  replace hr := hr.ext hS4
                  replace hk := hk.ext hS4
                  -- cutend
                  refine ⟨(b7, A6, c6), At1 (by first | rfl | exact at_int rfl (by omega) | exact at_slice rfl (by omega) | exact at_int rfl (by simp)), (by (iterate 18 refine Agr.lk rfl ?_); exact Agr.rfl'), ?_⟩
                  exact ⟨hk8, by omega, (ho6.ext he7).kept hg8 (.inr (own_blk_ne (ho6.ext he7) hk7 (by decide))), hS4⟩
                · refine L.alloc rfl zr_25 ?_
                  intro b7 w7 hb7 hs7 hk7 he7
                  have hS2 := hS1.trans he7
                  refine L.nil ?_
                  refine ⟨fun _ => hS2, ?_⟩
                  have hz7 := hS2.le
                  -- append
                  refine D.one 15 (by kernel_rfl) rfl ?_
                  refine L.appendQ (q := m) (ys := ((zs.drop 19).take m)) rfl rfl rfl Tryd.underlying23 el_5 (ho5.ext he7) (hrV _ hS2) (by omega) (by simp) (by unfold maxLen; omega) (by omega) ?_
                  intro A6 c6 w6 ho6 hg6 hb6 hor6
                  have hS3 := hS2.low hb6 (Nat.le_refl _)
                  refine L.nil ?_
                  refine ⟨fun _ => hS3, ?_⟩
                  have hz6 := hS3.le
                  have hk7 := hk7.grown hg6 (fun e => own_blk_ne (ho5.ext he7) hk7 (by decide) e.symm)
                  refine D.va 16 rfl (by kernel_rfl) (fun _ _ _ h => h) rfl (fun w' hw => X.build (l := [_, _, _, _]) (Evs.cons (by conv => lhs; whnf) (Evs.cons (by conv => lhs; whnf) (Evs.cons (by conv => lhs; whnf) (Evs.cons (by conv => lhs; whnf) Evs.nil)))) (bld_run Tryd.underlying25 (bp_25 Tryd.underlying25) zr_25 rfl)) hS3 ?_
                  -- store
                  refine D.one 18 (by kernel_rfl) rfl ?_
                  refine L.storeAgg (vs := [_, _, _, _]) rfl rfl rfl rfl sz_25 (hk7) rfl ?_
                  intro w8 hk8 hg8 hs8
                  have hS4 := hS3.grw hg8 (by intro g hg; injection hg with hg; omega)
                  refine L.nil ?_
                  refine ⟨fun _ => hS4, ?_⟩
                  refine D.done (by kernel_rfl) ?_
                  replace hr := hr.ext hS4
                  replace hk := hk.ext hS4
                  -- cutend
                  refine ⟨(b7, A6, c6), At1 (by first | rfl | exact at_int rfl (by omega) | exact at_slice rfl (by omega) | exact at_int rfl (by simp)), (by (iterate 18 refine Agr.lk rfl ?_); exact Agr.rfl'), ?_⟩
                  exact ⟨hk8, by omega, ho6.kept hg8 (.inr (own_blk_ne ho6 hk7 (by decide))), hS4⟩
              · refine L.alloc rfl zr_25 ?_
                intro b7 w7 hb7 hs7 hk7 he7
                have hS1 := hS.trans he7
                refine L.nil ?_
                refine ⟨fun _ => hS1, ?_⟩
                -- buildSlice
                refine D.one 10 (by kernel_rfl) rfl ?_
                refine L.bslice (vs := []) rfl Evs.nil rfl rfl rfl rfl Tryd.underlying23 sz_5 zr_5 (by decide) ?_
                intro b5 w5 hb5 hs5 hk5 he5
                have hS2 := hS1.trans he5
                refine L.nil ?_
                refine ⟨fun _ => hS2, ?_⟩
                have ho5 : w5.ownsRow w2.heap.size 5 1 (.slice (some ⟨b5, 0, none⟩) 0 0) 0 (nums .u8 []) := blk_own1 hk5 (by rw [hb5]; exact hS1.le) (by decide) rfl
                have hz5 := hS2.le
                -- append
                refine D.one 15 (by kernel_rfl) rfl ?_
                refine L.appendQ (q := m) (ys := ((zs.drop 19).take m)) rfl rfl rfl Tryd.underlying23 el_5 (ho5) (hrV _ hS2) (by omega) (by simp) (by unfold maxLen; omega) (by omega) ?_
                intro A6 c6 w6 ho6 hg6 hb6 hor6
                have hS3 := hS2.low hb6 (Nat.le_refl _)
                refine L.nil ?_
                refine ⟨fun _ => hS3, ?_⟩
                have hz6 := hS3.le
                have hz4 := hS.le
                have hk7 := (hk7.ext he5).grown hg6 (fun e => own_blk_ne ho5 (hk7.ext he5) (by decide) e.symm)
                refine D.va 16 rfl (by kernel_rfl) (fun _ _ _ h => h) rfl (fun w' hw => X.build (l := [_, _, _, _]) (Evs.cons (by conv => lhs; whnf) (Evs.cons (by conv => lhs; whnf) (Evs.cons (by conv => lhs; whnf) (Evs.cons (by conv => lhs; whnf) Evs.nil)))) (bld_run Tryd.underlying25 (bp_25 Tryd.underlying25) zr_25 rfl)) hS3 ?_
                -- store
                refine D.one 18 (by kernel_rfl) rfl ?_
                refine L.storeAgg (vs := [_, _, _, _]) rfl rfl rfl rfl sz_25 (hk7) rfl ?_
                intro w8 hk8 hg8 hs8
                have hS4 := hS3.grw hg8 (by intro g hg; injection hg with hg; omega)
                refine L.nil ?_
                refine ⟨fun _ => hS4, ?_⟩
                refine D.done (by kernel_rfl) ?_
                replace hr := hr.ext hS4
                replace hk := hk.ext hS4
                -- cutend
                refine ⟨(b7, A6, c6), At1 (by first | rfl | exact at_int rfl (by omega) | exact at_slice rfl (by omega) | exact at_int rfl (by simp)), (by (iterate 18 refine Agr.lk rfl ?_); exact Agr.rfl'), ?_⟩
                exact ⟨hk8, by omega, ho6.kept hg8 (.inr (own_blk_ne ho6 hk7 (by decide))), hS4⟩
            · rintro ⟨b7, x7, c7⟩ g2 w7 ⟨hk7, hb7, ho7, he7⟩
              have hrw := own_reads ho7
              have hrz := hr.ext he7
              replace hk := hk.ext he7
              have hzle := he7.le
              obtain ⟨a0, a1⟩ := num_mid hz 1 8 (by omega)
              obtain ⟨b0, b1⟩ := num_mid hz 9 8 (by omega)
              have hVb := mid_bytes hz 19 m
              have hsec : sec (zs.getD 0 0) (num ((zs.drop 1).take 8)) (num ((zs.drop 9).take 8)) ((zs.drop 19).take m) (smZ (hd (zs.getD 0 0) (num ((zs.drop 1).take 8)) (num ((zs.drop 9).take 8)) ((zs.drop 19).take m))) = zs ↔ ¬ ∃ z ∈ sT zs, z ≠ 0 := by
                have := sec_same smZ smZ_length zs hz hl (by rw [hgood, hsm]) (by omega)
                rwa [hm, Int.toNat_natCast] at this
              refine J.seq ?_
              refine J.seq ?_
              -- draw
              refine J.draw (ℓ := 1000000) (S := Ext w7) mixed (fun w8 hS hS_h => ?_)
              -- t65
              refine D.va 0 rfl (by kernel_rfl) (fun _ _ _ h => h) rfl (fun w' hw => (by first | exact X.loadAgg rfl (range_l (hk.ext hw)) Tryd.underlying25 rfl (by kernel_rfl) | exact X.loadAgg rfl (range_blk (hk.ext hw)) Tryd.underlying25 rfl (by kernel_rfl) | exact X.loadAgg rfl (range_l (hk7.ext hw)) Tryd.underlying25 rfl (by kernel_rfl) | exact X.loadAgg rfl (range_blk (hk7.ext hw)) Tryd.underlying25 rfl (by kernel_rfl))) hS ?_
              refine D.va 3 rfl (by kernel_rfl) (fun _ _ _ h => h) rfl (fun w' hw => X.move (by conv => lhs; whnf)) hS ?_
              refine D.va 4 rfl (by kernel_rfl) (fun _ _ _ h => h) rfl (fun w' hw => X.conv rfl ((hrz.ext hw).conv Tryd.underlying23 Tryd.underlying5 Tryd.underlying9)) hS ?_
              -- callfn bushel/bushelref20.Put
              refine D.one 1 (by kernel_rfl) rfl ?_
              refine L.call rfl en_9 rfl (frefput20 _ _ _ x7 m c7 ((zs.drop 19).take m) _ (by omega) (by omega) a0 (by omega) b0 (by omega) hnm ((hrw.ext hS).here (by omega)) hVb) ?_
              rintro e w9 ⟨A9, c9, rfl, ho9, hb9⟩
              refine ⟨_, rfl, ?_⟩
              have hS1 := hS.trans hb9
              refine L.nil ?_
              refine ⟨fun _ => hS1, ?_⟩
              -- convert
              refine D.one 2 (by kernel_rfl) rfl ?_
              refine L.va rfl (X.conv rfl ((own_reads ho9).conv Tryd.underlying23 Tryd.underlying5 Tryd.underlying9)) ?_
              refine L.nil ?_
              refine ⟨fun _ => hS1, ?_⟩
              refine D.va 5 rfl (by kernel_rfl) (fun _ _ _ h => h) rfl (fun w' hw => X.neqS rfl rfl) hS1 ?_
              refine D.done (by kernel_rfl) ?_
              replace hk := hk.ext hS1
              replace hk7 := hk7.ext hS1
              replace hrw := hrw.ext hS1
              replace he7 := he7.ext hS1
              replace ho7 := ho7.ext hS1
              replace hrz := hrz.ext hS1
              -- cond
              have hq : strOfNums (sec (zs.getD 0 0) (num ((zs.drop 1).take 8)) (num ((zs.drop 9).take 8)) ((zs.drop 19).take m) (smZ (hd (zs.getD 0 0) (num ((zs.drop 1).take 8)) (num ((zs.drop 9).take 8)) ((zs.drop 19).take m)))) = strOfNums zs ↔ ¬ ∃ z ∈ sT zs, z ≠ 0 := by
                rw [← hsec]
                constructor
                · intro h
                  refine strOfNums_inj ?_ hz (by rw [h])
                  intro z hzm
                  unfold sec at hzm
                  rw [List.mem_append] at hzm
                  rcases hzm with h | h
                  · exact hd_bytes _ _ _ _ (by omega) hVb z h
                  · exact smZ_bytes _ z h
                · intro h; rw [h]
              refine J.ndec rfl (fun hcmp => ?_) (fun hcmp => ?_)
              · have he6 : sE smZ zs = 6 := by
                  rw [hE, if_pos]
                  exact Classical.byContradiction fun h => hcmp (hq.2 h)
                refine J.seq ?_
                refine J.region ?_
                refine L.va rfl (X.build (l := [_, _, _, _]) Evs.nil (bld_run Tryd.underlying25 (bp_25 Tryd.underlying25) zr_25 rfl)) ?_
                -- store
                refine L.storeAgg (vs := [_, _, _, _]) rfl rfl rfl rfl sz_25 (hk) rfl ?_
                intro wa hka hga hsa
                refine L.va rfl (X.assign (by conv => lhs; whnf)) ?_
                refine L.nil ?_
                -- ret
                refine J.ret ?_
                refine thn_ret <| ?_
                -- results [['ResultVar.cell', 2, 25], ['ResultVar.tmp', 3]]
                refine finCT rfl (run_cell hka Tryd.underlying25 rfl (by kernel_rfl)) ?_
                exact SGetC_bad (by decide) he6 ((he.trans he7).grw hga (by intro g hg; injection hg with hg; omega))
              · have hok : sE smZ zs = 0 := by
                  rw [hE, if_neg (hq.1 hcmp)]
                refine J.skip ?_
                refine J.seq ?_
                refine J.region ?_
                refine L.va rfl ((by first | exact X.loadAgg rfl (range_l hk) Tryd.underlying25 rfl (by kernel_rfl) | exact X.loadAgg rfl (range_blk hk) Tryd.underlying25 rfl (by kernel_rfl) | exact X.loadAgg rfl (range_l hk7) Tryd.underlying25 rfl (by kernel_rfl) | exact X.loadAgg rfl (range_blk hk7) Tryd.underlying25 rfl (by kernel_rfl))) ?_
                -- store
                refine L.storeAgg (vs := [_, _, _, _]) rfl rfl rfl rfl sz_25 (hk) rfl ?_
                intro wa hka hga hsa
                refine L.va rfl (X.assign (by conv => lhs; whnf)) ?_
                refine L.nil ?_
                -- ret
                refine J.ret ?_
                -- results [['ResultVar.cell', 2, 25], ['ResultVar.tmp', 3]]
                refine finCT rfl (run_cell hka Tryd.underlying25 rfl (by kernel_rfl)) ?_
                have eK : sK smZ zs = zs.getD 0 0 := by unfold sK; rw [if_pos hok]
                have eA : sA smZ zs = num ((zs.drop 1).take 8) := by unfold sA; rw [if_pos hok]
                have eB : sB smZ zs = num ((zs.drop 9).take 8) := by unfold sB; rw [if_pos hok]
                have eV : sV smZ zs = (zs.drop 19).take m := by unfold sV; rw [if_pos hok, hm, Int.toNat_natCast]
                refine ⟨x7, c7, ?_, ?_, ?_, by rw [eV, hVl]; exact (own_bd ho7).1⟩
                · rw [eK, eA, eB, eV, hVl, hok]; rfl
                · rw [eV, hVl]; exact own_reads (ho7.kept hga (.inr (fun e => by have := (ho7.lt _ e).1; omega)))
                · exact (he.trans he7).grw hga (by intro g hg; injection hg with hg; omega)
theorem srefget_any (A : Option Addr) (n c : Nat) (zs : List Int) (w : World) (hr : Reads w w.heap.size 1 A n (nums .u8 zs)) (hz : ∀ z ∈ zs, 0 ≤ z ∧ z < 256) (hnc : n ≤ c) (hc0 : c ≤ 9223372036854775807) :
    Calls Tryd.prog 31 #[.slice A n c] w (SGet zs w) := (srefget_anyC A n c zs w hr hz hnc hc0).mono fun _ _ h => h.weak
end Go.Proofs.YtlohbkcedpkjaaaDoor
