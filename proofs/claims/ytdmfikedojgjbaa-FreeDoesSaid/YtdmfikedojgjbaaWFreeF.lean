/-
  The law's is; awake; spaces that are none.
-/
import Derived.Test.YtdmfikedojgjbaaWFreeE
namespace Go.Proofs.Ytdmfikedojgjbaa
set_option maxRecDepth 100000
open Go.RowKit H
set_option linter.unusedVariables false
theorem fis {s : Sp} {N N' : Nat} {w : World} {R : List Int} (h : s.At N w) (hi : s.Is R) (A : Option Addr) (c : Nat) (ho : w.ownsRow N' 3 1 (.slice A R.length c) R.length (nums .i64 R)) : Calls Try.prog 37 #[s.ptr, rsv A R.length c] w fun e w' => e = .returned (.bool true) ∧ Ext w w' := by
  have hl := h.hl
  have hlen := hi.len
  have hks := hi.hk
  have hr := Reads.of_own ho
  have hsh := fK_shift 0 (-1) R R.length (by decide)
  have hfl0 : s.fr.length = (fK 0 R R.length).length := by rw [hi.hf.len, hks]; exact hsh
  refine enter Try.func37 rfl (by kernel_rfl) ?_
  refine J.seq ?_
  refine J.region ?_
  -- box
  refine L.boxA (l := [_]) rfl rfl ?_
  intro b1 w1 hb1 hs1 hk1 he1
  have h1 := h.ext he1
  refine L.va rfl (X.assign (by conv => lhs; whnf)) ?_
  refine L.nil ?_
  refine J.seq ?_
  refine J.region ?_
  refine L.va rfl (X.move (by conv => lhs; whnf)) ?_
  -- callfn (*bushel/free.Space).Fresh
  refine L.call rfl en_42 rfl (h1.fresh_) ?_
  rintro e w2 ⟨fA, fc, rfl, ho2, he2⟩
  refine ⟨_, rfl, ?_⟩
  have he2 : Ext w1 w2 := he2
  have h2 := h1.ext he2
  have hk2 := hk1.ext he2
  have he02 := he1.trans he2
  have hr2 := hr.ext he02
  have hrf := Reads.of_own ho2
  refine L.va rfl (X.assign (by conv => lhs; whnf)) ?_
  refine L.nil ?_
  refine J.seq ?_
  refine J.region ?_
  refine L.va rfl (X.assign (by conv => lhs; whnf)) ?_
  refine L.nil ?_
  refine J.seq ?_
  refine J.seq ?_
  refine J.region ?_
  refine L.va rfl (X.assign (by conv => lhs; whnf)) ?_
  refine L.nil ?_
  refine J.block ?_
  -- loop
  refine J.loop (X := Nat) [4, 6, 7, 8, 11, 12, 13, 14, 15, 16, 17, 18, 19, 20, 21, 22, 23, 24, 25, 26, 27, 28, 29, 30, 31, 32, 33, 34, 35, 36, 37, 38, 39, 40, 41, 42, 43, 44, 45, 46, 47, 48, 49, 50, 51, 52, 53, 54] (fun p => [(7, .int .i64 (p : Int)), (6, .int .i64 ((fK 2 s.ks p).length : Int))]) (fun p w' => w' = w2 ∧ p ≤ R.length + 2) (fun p => R.length + 2 - p) (0) (At2 (by first | rfl | exact at_int rfl (by omega) | exact at_slice rfl (by omega) | exact at_int rfl (by simp)) (by first | rfl | exact at_int rfl (by omega) | exact at_slice rfl (by omega) | exact at_int rfl (by simp))) ?_ ?_
  · exact ⟨rfl, by omega⟩
  · rintro p g w3 ⟨rfl, hp⟩
    have hfK := fK_succ 2 s.ks p
    have hfl := fK_len 2 s.ks p
    refine J.seq ?_
    refine J.seq ?_
    refine J.region ?_
    refine L.va rfl (X.move (by conv => lhs; whnf)) ?_
    refine L.va rfl (X.fieldAddr rfl Try.underlying71 rfl sz_62 (by decide)) ?_
    refine L.va rfl (X.load rfl sc_62 (by first | exact Ld.blk hk2 rfl | exact Ld.num hr2 (by omega) | exact Ld.num hrf (by omega))) ?_
    refine L.va rfl (X.len rfl Try.underlying62) ?_
    refine L.va rfl (X.add rfl rfl (by omega)) ?_
    refine L.va rfl (X.leq rfl rfl) ?_
    refine L.nil ?_
    -- cond
    refine J.dec rfl (fun hlt => ?_) (fun hlt => ?_)
    · have hpl : p ≤ R.length + 1 := by omega
      have hkd : (if (p : Int) < 1 ∨ (s.ks.length : Int) ≤ (p : Int) then -1 else s.ks.getD p 0) = kdO R p := by
        have := kdO_ks R p
        rw [← hks, Int.toNat_natCast] at this
        exact this.symm
      refine J.skip ?_
      refine J.seq ?_
      refine J.block ?_
      refine J.seq ?_
      refine J.region ?_
      refine L.va rfl (X.assign (by conv => lhs; whnf)) ?_
      refine L.nil ?_
      -- until
      refine J.cut (X := Unit) [8, 19, 20, 21, 22, 23, 24, 25, 26, 27, 28, 29, 30, 31, 32, 33] (fun _ => [(8, .int .i64 (kdO R (p : Int)))]) (fun _ w' => w' = w3) ?_ ?_
      · refine J.seq ?_
        refine J.region ?_
        refine L.va rfl (X.move (by conv => lhs; whnf)) ?_
        refine L.va rfl (X.geq rfl rfl) ?_
        refine L.va rfl (X.move (by conv => lhs; whnf)) ?_
        -- case t21
        refine L.caseDec (k := 21) rfl (fun h3 => ?_) (fun h3 => ?_)
        · refine L.va rfl (X.move (by conv => lhs; whnf)) ?_
          refine L.va rfl (X.fieldAddr rfl Try.underlying71 rfl sz_62 (by decide)) ?_
          refine L.va rfl (X.load rfl sc_62 (by first | exact Ld.blk hk2 rfl | exact Ld.num hr2 (by omega) | exact Ld.num hrf (by omega))) ?_
          refine L.va rfl (X.len rfl Try.underlying62) ?_
          refine L.va rfl (X.leq rfl rfl) ?_
          refine L.va rfl (X.pickT rfl (by conv => lhs; whnf)) ?_
          refine L.nil ?_
          -- cond
          refine J.dec rfl (fun h4 => ?_) (fun h4 => ?_)
          · have e1 : ((p : Int) - 1).toNat = p - 1 := by omega
            refine J.region ?_
            refine L.va rfl (X.fieldAddr rfl Try.underlying71 rfl sz_62 (by decide)) ?_
            refine L.va rfl (X.load rfl sc_62 (by first | exact Ld.blk hk2 rfl | exact Ld.num hr2 (by omega) | exact Ld.num hrf (by omega))) ?_
            refine L.va rfl (X.move (by conv => lhs; whnf)) ?_
            refine L.va rfl (X.sub rfl rfl (by omega)) ?_
            refine L.va rfl ((by first | exact X.index1n rfl rfl Try.underlying62 sz_3 (by first | exact Option.some_ne_none _ | exact hr2.some_ (by omega) | exact hrf.some_ (by omega)) (by omega) | exact X.index1 rfl rfl Try.underlying62 sz_3 (by first | exact Option.some_ne_none _ | exact hr2.some_ (by omega) | exact hrf.some_ (by omega)) (by omega))) ?_
            refine L.va rfl (X.load rfl sc_3 (by first | exact Ld.blk hk2 rfl | exact Ld.num hr2 (by omega) | exact Ld.num hrf (by omega))) ?_
            refine L.va rfl (X.assign (by conv => lhs; whnf)) ?_
            refine L.nil ?_
            -- cutend
            rw [e1]
            refine ⟨(), At1 (at_int rfl (by unfold kdO; rw [if_neg (by omega)]; rfl)), (by (iterate 17 refine Agr.lk rfl ?_); exact Agr.rfl'), ?_⟩
            rfl
          · refine J.skip ?_
            -- cutend
            refine ⟨(), At1 (at_int rfl (by unfold kdO; rw [if_pos (.inr (by omega))])), (by (iterate 10 refine Agr.lk rfl ?_); exact Agr.rfl'), ?_⟩
            rfl
        · refine L.no rfl ?_
          refine L.no rfl ?_
          refine L.no rfl ?_
          refine L.no rfl ?_
          refine L.no rfl ?_
          refine L.va rfl (X.pickF rfl (by conv => lhs; whnf)) ?_
          refine L.nil ?_
          -- cond
          refine J.iteF rfl ?_
          refine J.skip ?_
          -- cutend
          refine ⟨(), At1 (at_int rfl (by unfold kdO; rw [if_pos (.inl (by omega))])), (by (iterate 10 refine Agr.lk rfl ?_); exact Agr.rfl'), ?_⟩
          rfl
      · rintro ⟨⟩ g w4 rfl
        have cK := h2.kind_ (p : Int)
        rw [Int.toNat_natCast, hkd] at cK
        refine J.seq ?_
        refine J.seq ?_
        refine J.region ?_
        refine L.va rfl (X.move (by conv => lhs; whnf)) ?_
        refine L.va rfl (X.move (by conv => lhs; whnf)) ?_
        -- callfn (*bushel/free.Space).Kind
        refine L.call rfl en_41 rfl (cK) ?_
        rintro e _ ⟨rfl, rfl⟩
        refine ⟨_, rfl, ?_⟩
        refine L.va rfl (X.move (by conv => lhs; whnf)) ?_
        refine L.va rfl (X.neq rfl rfl) ?_
        refine L.nil ?_
        -- cond
        refine J.ndecF rfl (by exact rfl) ?_
        refine J.skip ?_
        refine J.seq ?_
        refine J.region ?_
        refine L.va rfl (X.move (by conv => lhs; whnf)) ?_
        refine L.va rfl (X.eql rfl rfl) ?_
        refine L.nil ?_
        -- cond
        refine J.dec rfl (fun h5 => ?_) (fun h5 => ?_)
        · have hp1 : 1 ≤ p ∧ p ≤ R.length := by
            apply Decidable.byContradiction
            intro hn
            have : kdO R p = -1 := by unfold kdO; rw [if_pos (by omega)]
            rw [this] at h5
            exact absurd h5 (by decide)
          have hkp : s.ks.getD p 0 = 2 := by
            rw [if_neg (by omega)] at hkd
            rw [hkd]; exact h5
          rw [if_pos hkp] at hfK
          have hsl : (fK 2 s.ks (p + 1)).length = (fK 2 s.ks p).length + 1 := by rw [hfK]; simp
          obtain ⟨f1, f2⟩ := fK_at (q := 2) (ks := s.ks) (p := p) (n := s.ks.length) (by omega) hkp
          refine J.seq ?_
          refine J.seq ?_
          refine J.region ?_
          refine L.va rfl (X.move (by conv => lhs; whnf)) ?_
          refine L.va rfl (X.move (by conv => lhs; whnf)) ?_
          refine L.va rfl (X.len rfl Try.underlying62) ?_
          refine L.va rfl (X.geq rfl rfl) ?_
          refine L.va rfl (X.move (by conv => lhs; whnf)) ?_
          -- case t45
          refine L.caseDecF (k := 45) rfl (by omega) ?_
          refine L.va rfl (X.move (by conv => lhs; whnf)) ?_
          refine L.va rfl (X.move (by conv => lhs; whnf)) ?_
          refine L.va rfl ((by first | exact X.index1n rfl rfl Try.underlying62 sz_3 (by first | exact Option.some_ne_none _ | exact hr2.some_ (by omega) | exact hrf.some_ (by omega)) (by omega) | exact X.index1 rfl rfl Try.underlying62 sz_3 (by first | exact Option.some_ne_none _ | exact hr2.some_ (by omega) | exact hrf.some_ (by omega)) (by omega))) ?_
          refine L.va rfl (X.load rfl sc_3 (by first | exact Ld.blk hk2 rfl | exact Ld.num hr2 (by omega) | exact Ld.num hrf (by omega))) ?_
          refine L.va rfl (X.move (by conv => lhs; whnf)) ?_
          refine L.va rfl (X.neq rfl rfl) ?_
          refine L.va rfl (X.pickF rfl (by conv => lhs; whnf)) ?_
          refine L.nil ?_
          -- cond
          rw [f2, show (!decide ((p : Int) = (p : Int))) = false by simp]
          refine J.iteF rfl ?_
          refine J.skip ?_
          refine J.region ?_
          refine L.va rfl (X.move (by conv => lhs; whnf)) ?_
          refine L.va rfl (X.add rfl rfl (by omega)) ?_
          refine L.va rfl (X.assign (by conv => lhs; whnf)) ?_
          refine L.nil ?_
          refine J.region ?_
          refine L.va rfl (X.move (by conv => lhs; whnf)) ?_
          refine L.va rfl (X.add rfl rfl (by omega)) ?_
          refine L.va rfl (X.assign (by conv => lhs; whnf)) ?_
          refine L.nil ?_
          -- loopend
          refine ⟨p + 1, At2 (at_int rfl (by omega)) (at_int rfl (by omega)), (by (iterate 26 refine Agr.lk rfl ?_); refine Agr.lk rfl ?_; refine Agr.hav rfl ?_; (iterate 7 refine Agr.lk rfl ?_); exact Agr.lk rfl (Agr.hav rfl Agr.rfl')), ?_⟩
          exact ⟨⟨rfl, by omega⟩, by omega⟩
        · have hkp : ¬ s.ks.getD p 0 = 2 := by
            by_cases hin : (p : Int) < 1 ∨ (s.ks.length : Int) ≤ (p : Int)
            · rcases hin with h6 | h6
              · obtain rfl : p = 0 := by omega
                rw [hks]
                exact (show ¬ (-1 : Int) = 2 by decide)
              · rw [List.getD, List.getElem?_eq_none (by omega)]
                decide
            · rw [if_neg hin] at hkd
              rw [hkd]; exact h5
          rw [if_neg hkp, List.append_nil] at hfK
          refine J.skip ?_
          refine J.region ?_
          refine L.va rfl (X.move (by conv => lhs; whnf)) ?_
          refine L.va rfl (X.add rfl rfl (by omega)) ?_
          refine L.va rfl (X.assign (by conv => lhs; whnf)) ?_
          refine L.nil ?_
          -- loopend
          refine ⟨p + 1, At2 (at_int rfl (by omega)) (at_int rfl (by rw [hfK])), (by (iterate 10 refine Agr.lk rfl ?_); refine Agr.lk rfl ?_; refine Agr.hav rfl ?_; (iterate 7 refine Agr.lk rfl ?_); exact Agr.lk rfl (Agr.hav rfl Agr.rfl')), ?_⟩
          exact ⟨⟨rfl, by omega⟩, by omega⟩
    · obtain rfl : p = R.length + 2 := by omega
      have hend : fK 2 s.ks (R.length + 2) = fK 2 s.ks s.ks.length := by
        rw [hlen, fK_succ 2 s.ks (R.length + 1), List.getD, List.getElem?_eq_none (by omega), if_neg (by decide), List.append_nil]
      rw [hend]
      refine J.exit ?_
      refine J.seq ?_
      -- draw
      refine J.draw (ℓ := 1000000) (S := Ext w3) mixed (fun w4 hS hS_h => ?_)
      -- t62
      refine D.va 0 rfl (by kernel_rfl) (fun _ _ _ h => h) rfl (fun w' hw => X.move (by conv => lhs; whnf)) hS ?_
      refine D.va 1 rfl (by kernel_rfl) (fun _ _ _ h => h) rfl (fun w' hw => X.move (by conv => lhs; whnf)) hS ?_
      refine D.va 2 rfl (by kernel_rfl) (fun _ _ _ h => h) rfl (fun w' hw => X.len rfl Try.underlying62) hS ?_
      refine D.va 3 rfl (by kernel_rfl) (fun _ _ _ h => h) rfl (fun w' hw => X.eql rfl rfl) hS ?_
      refine D.va 4 rfl (by kernel_rfl) (fun _ _ _ h => h) rfl (fun w' hw => X.move (by conv => lhs; whnf)) hS ?_
      -- case t59
      refine D.caseDecT (k := 59) rfl (by rfl) ?_
      refine D.va 5 rfl (by kernel_rfl) (fun _ _ _ h => h) rfl (fun w' hw => X.move (by conv => lhs; whnf)) hS ?_
      refine D.va 7 rfl (by kernel_rfl) (fun _ _ _ h => h) rfl (fun w' hw => X.loadAgg rfl (range_l (hk2.ext hw)) Try.underlying71 rfl (by kernel_rfl)) hS ?_
      -- callfn (*bushel/free.Space).Free
      refine D.call 6 rfl (by kernel_rfl) (fun _ _ _ h => h) rfl en_34 rfl (fun w' hw => ((h2.ext hw).free_)) hS ?_
      -- callfn bushel/bushelref24.Count
      refine D.one 8 (by kernel_rfl) rfl ?_
      refine L.call rfl en_75 rfl ((rfcount A c R ((ho.ext he02).ext hS) 0 (by omega))) ?_
      rintro e w5 ⟨rfl, he5⟩
      refine ⟨_, rfl, ?_⟩
      have hS1 := hS.trans he5
      refine L.nil ?_
      refine ⟨fun _ => hS1, ?_⟩
      refine D.va 9 rfl (by kernel_rfl) (fun _ _ _ h => h) rfl (fun w' hw => X.eql rfl rfl) hS1 ?_
      refine D.va 10 rfl (by kernel_rfl) (fun _ _ _ h => h) rfl (fun w' hw => X.pickT rfl (by conv => lhs; whnf)) hS1 ?_
      refine D.va 11 rfl (by kernel_rfl) (fun _ _ _ h => h) rfl (fun w' hw => X.assign (by conv => lhs; whnf)) hS1 ?_
      refine D.done (by kernel_rfl) ?_
      -- ret
      refine J.ret ?_
      refine fin1 ?_
      refine ⟨?_, he02.trans (hS.trans he5)⟩
      show Ending.returned (.bool (decide (((s.fr.length : Nat) : Int) = ((fK 0 R R.length).length : Int)))) = _
      rw [decide_eq_true (by omega)]
theorem fnew_yes {w : World} (q : Nat) (hq : 1 ≤ q ∧ q ≤ 8192) (A : Option Addr) (n c : Nat) (live : List Int) (hr : Reads w w.heap.size 1 A n (nums .i64 live)) (hn : n ≤ 1000000) (ht : allThere q live = true) : Calls Try.prog 33 #[.int .i64 (q : Int), .slice A n c] w fun e w' =>
    ∃ s : Sp, e = .returned (.tuple #[s.ptr, .int .i64 0]) ∧ s.At w.heap.size w' ∧ s.Is (mark (List.replicate q 0) live) ∧ Ext w w' :=
  (fnew_ok q hq A n c live hr hn).mono fun e w' h => by
    rcases h with ⟨h, _⟩ | ⟨_, h⟩
    · rw [ht] at h; cases h
    · exact h
theorem fnew_no {w : World} (q : Nat) (hq : 1 ≤ q ∧ q ≤ 8192) (A : Option Addr) (n c : Nat) (live : List Int) (hr : Reads w w.heap.size 1 A n (nums .i64 live)) (hn : n ≤ 1000000) (ht : allThere q live = false) : Calls Try.prog 33 #[.int .i64 (q : Int), .slice A n c] w fun e w' =>
    e = .returned (.tuple #[.pointer none, .int .i64 11]) ∧ Ext w w' :=
  (fnew_ok q hq A n c live hr hn).mono fun e w' h => by
    rcases h with ⟨_, h⟩ | ⟨h, _⟩
    · exact h
    · rw [ht] at h; cases h
theorem rfnew_yes {w : World} (q : Nat) (hq : 1 ≤ q ∧ q ≤ 8192) (A : Option Addr) (n c : Nat) (live : List Int) (hr : Reads w w.heap.size 1 A n (nums .i64 live)) (hn : n ≤ 1000000) (ht : allThere q live = true) : Calls Try.prog 36 #[.int .i64 (q : Int), .slice A n c] w fun e w' =>
    ∃ A' c', e = .returned (.tuple #[rsv A' (mark (List.replicate q 0) live).length c', .int .i64 0]) ∧ w'.ownsRow w.heap.size 3 1 (.slice A' (mark (List.replicate q 0) live).length c') (mark (List.replicate q 0) live).length (nums .i64 (mark (List.replicate q 0) live)) ∧ Ext w w' :=
  (rfnew (q : Int) (by omega) A n c live hr hn).mono fun e w' h => by
    rw [Int.toNat_natCast] at h
    rcases h with ⟨h, _⟩ | ⟨_, h, _⟩ | ⟨_, _, h⟩
    · omega
    · rw [ht] at h; cases h
    · exact h
theorem rfnew_no {w : World} (q : Nat) (hq : 1 ≤ q ∧ q ≤ 8192) (A : Option Addr) (n c : Nat) (live : List Int) (hr : Reads w w.heap.size 1 A n (nums .i64 live)) (hn : n ≤ 1000000) (ht : allThere q live = false) : Calls Try.prog 36 #[.int .i64 (q : Int), .slice A n c] w fun e w' =>
    e = .returned (.tuple #[rsv none 0 0, .int .i64 11]) ∧ Ext w w' :=
  (rfnew (q : Int) (by omega) A n c live hr hn).mono fun e w' h => by
    rw [Int.toNat_natCast] at h
    rcases h with ⟨h, _⟩ | ⟨_, _, h⟩ | ⟨_, h, _⟩
    · omega
    · exact h
    · rw [ht] at h; cases h
theorem rfnew_2 {w : World} (pages : Int) (hp : pages < 1 ∨ 8192 < pages) (hpg : -9223372036854775808 ≤ pages ∧ pages ≤ 9223372036854775807) (A : Option Addr) (n c : Nat) (live : List Int) (hr : Reads w w.heap.size 1 A n (nums .i64 live)) (hn : n ≤ 1000000) : Calls Try.prog 36 #[.int .i64 pages, .slice A n c] w fun e w' =>
    e = .returned (.tuple #[rsv none 0 0, .int .i64 2]) ∧ Ext w w' :=
  (rfnew pages hpg A n c live hr hn).mono fun e w' h => by
    rcases h with ⟨_, h⟩ | ⟨h, _⟩ | ⟨h, _⟩
    · exact h
    · omega
    · omega
/-- awake -/
theorem awake24 (w : World) : Calls Try.prog 32 #[] w fun e w' => e = .returned (.bool true) ∧ Ext w w' := by
  refine enter Try.func32 rfl (by kernel_rfl) ?_
  refine J.seq ?_
  refine J.region ?_
  refine L.va rfl (X.assign (by conv => lhs; whnf)) ?_
  refine L.nil ?_
  refine J.seq ?_
  refine J.region ?_
  -- buildSlice
  refine L.bslice (vs := [_]) rfl (Evs.cons (by conv => lhs; whnf) Evs.nil) rfl rfl rfl rfl Try.underlying62 sz_3 zr_3 (by decide) ?_
  intro b1 w1 hb1 hs1 hk1 he1
  have hr1 : Reads w1 w1.heap.size 1 (some ⟨b1, 0, none⟩) 1 (nums .i64 [2]) := blk_readsN hk1 hk1.lt rfl
  -- callfn bushel/free.New
  refine L.call rfl en_33 rfl (fnew_yes 3 (by omega) (some ⟨b1, 0, none⟩) 1 1 [2] hr1 (by omega) (by decide)) ?_
  rintro e w2 ⟨s, rfl, h2, i2, he2⟩
  refine ⟨_, rfl, ?_⟩
  have he2 : Ext w1 w2 := he2
  have he02 := he1.trans he2
  have eR : mark (List.replicate 3 0) [2] = [0, 1, 0] := by decide
  rw [eR] at i2
  have bel : ∀ {w3 : World}, Below w1.heap.size w2 w3 → Ext w w3 := fun k => Below.trans he02 (Below.mono k he1.le)
  refine L.va rfl (X.move (by conv => lhs; whnf)) ?_
  refine L.va rfl (X.extract rfl rfl) ?_
  refine L.va rfl (X.extract rfl rfl) ?_
  refine L.va rfl (X.assign (by conv => lhs; whnf)) ?_
  refine L.va rfl (X.assign (by conv => lhs; whnf)) ?_
  refine L.nil ?_
  refine J.seq ?_
  refine J.seq ?_
  refine J.region ?_
  refine L.va rfl (X.move (by conv => lhs; whnf)) ?_
  refine L.va rfl (X.neq rfl rfl) ?_
  refine L.va rfl (X.move (by conv => lhs; whnf)) ?_
  -- case t16
  refine L.caseNdecF (k := 16) rfl (by rfl) ?_
  refine L.va rfl (X.move (by conv => lhs; whnf)) ?_
  refine L.va rfl (X.eqlPn rfl rfl (by kernel_rfl)) ?_
  refine L.va rfl (X.pickF rfl (by conv => lhs; whnf)) ?_
  refine L.nil ?_
  -- cond
  refine J.iteF rfl ?_
  have d1 : doF [0, 1, 0] 0 [] = ([2, 1, 0], 1, 0) := by decide
  have d2 : doF [2, 1, 0] 0 [] = ([2, 1, 2], 3, 0) := by decide
  have d3 : doF [2, 1, 2] 0 [] = ([2, 1, 2], 0, 12) := by decide
  have c1 := h2.take_ i2
  rw [d1] at c1
  refine J.skip ?_
  refine J.seq ?_
  refine J.region ?_
  refine L.va rfl (X.move (by conv => lhs; whnf)) ?_
  -- callfn (*bushel/free.Space).Take
  refine L.call rfl en_35 rfl (c1) ?_
  rintro e w3 ⟨rfl, s3, h3, e3, i3, k3, _⟩
  refine ⟨_, rfl, ?_⟩
  have b3 := h2.below k3
  have p3 : s.ptr = s3.ptr := by unfold Sp.ptr; rw [e3]
  have c2 := h3.take_ i3
  rw [d2, ← p3] at c2
  refine L.va rfl (X.move (by conv => lhs; whnf)) ?_
  refine L.va rfl (X.extract rfl rfl) ?_
  refine L.va rfl (X.extract rfl rfl) ?_
  refine L.va rfl (X.assign (by conv => lhs; whnf)) ?_
  refine L.va rfl (X.assign (by conv => lhs; whnf)) ?_
  refine L.nil ?_
  refine J.seq ?_
  refine J.region ?_
  refine L.va rfl (X.move (by conv => lhs; whnf)) ?_
  -- callfn (*bushel/free.Space).Take
  refine L.call rfl en_35 rfl (c2) ?_
  rintro e w4 ⟨rfl, s4, h4, e4, i4, k4, _⟩
  refine ⟨_, rfl, ?_⟩
  have b4 := h3.below k4
  have p4 : s.ptr = s4.ptr := by unfold Sp.ptr; rw [e4, e3]
  have c3 := h4.take_ i4
  rw [d3, ← p4] at c3
  refine L.va rfl (X.move (by conv => lhs; whnf)) ?_
  refine L.va rfl (X.extract rfl rfl) ?_
  refine L.va rfl (X.extract rfl rfl) ?_
  refine L.va rfl (X.assign (by conv => lhs; whnf)) ?_
  refine L.va rfl (X.assign (by conv => lhs; whnf)) ?_
  refine L.nil ?_
  refine J.seq ?_
  refine J.region ?_
  refine L.va rfl (X.move (by conv => lhs; whnf)) ?_
  -- callfn (*bushel/free.Space).Take
  refine L.call rfl en_35 rfl (c3) ?_
  rintro e w5 ⟨rfl, s5, h5, e5, i5, k5, _⟩
  refine ⟨_, rfl, ?_⟩
  have b5 := h4.below k5
  have p5 : s.ptr = s5.ptr := by unfold Sp.ptr; rw [e5, e4, e3]
  have c4 := h5.kind_ 2
  rw [← p5, show (if (2 : Int) < 1 ∨ (s5.ks.length : Int) ≤ 2 then -1 else s5.ks.getD (2 : Int).toNat 0) = 1 by rw [i5.hk]; decide] at c4
  refine L.va rfl (X.move (by conv => lhs; whnf)) ?_
  refine L.va rfl (X.extract rfl rfl) ?_
  refine L.va rfl (X.extract rfl rfl) ?_
  refine L.va rfl (X.assign (by conv => lhs; whnf)) ?_
  refine L.va rfl (X.assign (by conv => lhs; whnf)) ?_
  refine L.nil ?_
  refine J.seq ?_
  refine J.region ?_
  refine L.va rfl (X.move (by conv => lhs; whnf)) ?_
  refine L.va rfl (X.eql rfl rfl) ?_
  refine L.va rfl (X.move (by conv => lhs; whnf)) ?_
  -- case t37
  refine L.caseDecT (k := 37) rfl (by rfl) ?_
  refine L.va rfl (X.move (by conv => lhs; whnf)) ?_
  refine L.va rfl (X.eql rfl rfl) ?_
  refine L.va rfl (X.pickT rfl (by conv => lhs; whnf)) ?_
  refine L.va rfl (X.move (by conv => lhs; whnf)) ?_
  -- case t41
  refine L.caseDecT (k := 41) rfl (by rfl) ?_
  refine L.va rfl (X.move (by conv => lhs; whnf)) ?_
  refine L.va rfl (X.eql rfl rfl) ?_
  refine L.va rfl (X.pickT rfl (by conv => lhs; whnf)) ?_
  refine L.va rfl (X.move (by conv => lhs; whnf)) ?_
  -- case t45
  refine L.caseDecT (k := 45) rfl (by rfl) ?_
  refine L.va rfl (X.move (by conv => lhs; whnf)) ?_
  refine L.va rfl (X.eql rfl rfl) ?_
  refine L.va rfl (X.pickT rfl (by conv => lhs; whnf)) ?_
  refine L.va rfl (X.move (by conv => lhs; whnf)) ?_
  -- case t49
  refine L.caseDecT (k := 49) rfl (by rfl) ?_
  refine L.va rfl (X.move (by conv => lhs; whnf)) ?_
  refine L.va rfl (X.eql rfl rfl) ?_
  refine L.va rfl (X.pickT rfl (by conv => lhs; whnf)) ?_
  refine L.va rfl (X.move (by conv => lhs; whnf)) ?_
  -- case t53
  refine L.caseDecT (k := 53) rfl (by rfl) ?_
  refine L.va rfl (X.move (by conv => lhs; whnf)) ?_
  -- callfn (*bushel/free.Space).Kind
  refine L.call rfl en_41 rfl (c4) ?_
  rintro e _ ⟨rfl, rfl⟩
  refine ⟨_, rfl, ?_⟩
  refine L.va rfl (X.eql rfl rfl) ?_
  refine L.va rfl (X.pickT rfl (by conv => lhs; whnf)) ?_
  refine L.va rfl (X.assign (by conv => lhs; whnf)) ?_
  refine L.nil ?_
  -- ret
  refine J.ret ?_
  refine fin1 ?_
  exact ⟨rfl, bel ((b3.trans b4).trans b5)⟩
/-- a pointer to no space -/
def Shut (p : Value) (w : World) : Prop := p = .pointer none ∨ ∃ d, p = .pointer (some ⟨d, 0, none⟩) ∧ Blk w d 83 #[.slice none 0 0, .slice none 0 0]
namespace Shut
variable {p : Value} {w w' : World}
theorem ext (h : Shut p w) (he : Ext w w') : Shut p w' := h.imp id fun ⟨d, e, hb⟩ => ⟨d, e, hb.ext he⟩
theorem is_ (h : Shut p w) : Calls Try.prog 73 #[p] w fun e w' => e = .returned (.bool false) ∧ w = w' := by
  rcases h with rfl | ⟨d, rfl, hb⟩
  · refine enter Try.func73 rfl (by kernel_rfl) ?_
    refine J.seq ?_
    refine J.region ?_
    refine L.va rfl (X.assign (by conv => lhs; whnf)) ?_
    refine L.nil ?_
    refine J.seq ?_
    refine J.region ?_
    refine L.va rfl (X.move (by conv => lhs; whnf)) ?_
    refine L.va rfl (X.neqPn rfl rfl (by kernel_rfl)) ?_
    refine L.va rfl (X.move (by conv => lhs; whnf)) ?_
    -- case t5
    refine L.caseBF (k := 5) rfl (by rfl) ?_
    refine L.no rfl ?_
    refine L.no rfl ?_
    refine L.no rfl ?_
    refine L.no rfl ?_
    refine L.no rfl ?_
    refine L.no rfl ?_
    refine L.va rfl (X.pickF rfl (by conv => lhs; whnf)) ?_
    refine L.va rfl (X.assign (by conv => lhs; whnf)) ?_
    refine L.nil ?_
    -- ret
    refine J.ret ?_
    refine fin1 ?_
    exact ⟨rfl, rfl⟩
  · refine enter Try.func73 rfl (by kernel_rfl) ?_
    refine J.seq ?_
    refine J.region ?_
    refine L.va rfl (X.assign (by conv => lhs; whnf)) ?_
    refine L.nil ?_
    refine J.seq ?_
    refine J.region ?_
    refine L.va rfl (X.move (by conv => lhs; whnf)) ?_
    refine L.va rfl (X.neqPn rfl rfl (by kernel_rfl)) ?_
    refine L.va rfl (X.move (by conv => lhs; whnf)) ?_
    -- case t5
    refine L.caseBT (k := 5) rfl (by rfl) ?_
    refine L.va rfl (X.move (by conv => lhs; whnf)) ?_
    refine L.va rfl (X.nilCheck rfl) ?_
    refine L.va rfl (X.fieldAddr rfl Try.underlying83 rfl sz_62 (by decide)) ?_
    refine L.va rfl (X.load rfl sc_62 (by first | exact Ld.blk hb rfl)) ?_
    refine L.va rfl (X.len rfl Try.underlying62) ?_
    refine L.va rfl (X.gtr rfl rfl) ?_
    refine L.va rfl (X.pickT rfl (by conv => lhs; whnf)) ?_
    refine L.va rfl (X.assign (by conv => lhs; whnf)) ?_
    refine L.nil ?_
    -- ret
    refine J.ret ?_
    refine fin1 ?_
    exact ⟨rfl, rfl⟩
theorem kind_ (h : Shut p w) (q : Int) : Calls Try.prog 41 #[p, .int .i64 q] w fun e w' => e = .returned (.int .i64 (-1)) ∧ w = w' := by
  refine enter Try.func41 rfl (by kernel_rfl) ?_
  refine J.seq ?_
  refine J.region ?_
  refine L.va rfl (X.assign (by conv => lhs; whnf)) ?_
  refine L.nil ?_
  refine J.seq ?_
  refine J.seq ?_
  refine J.region ?_
  refine L.va rfl (X.move (by conv => lhs; whnf)) ?_
  -- callfn (*bushel/free.Space).is
  refine L.call rfl en_73 rfl (h.is_) ?_
  rintro e _ ⟨rfl, rfl⟩
  refine ⟨_, rfl, ?_⟩
  refine L.va rfl (X.not rfl) ?_
  refine L.va rfl (X.move (by conv => lhs; whnf)) ?_
  -- case t8
  refine L.caseBT (k := 8) rfl (by rfl) ?_
  refine L.no rfl ?_
  refine L.no rfl ?_
  refine L.va rfl (X.pickT rfl (by conv => lhs; whnf)) ?_
  refine L.va rfl (X.move (by conv => lhs; whnf)) ?_
  refine L.no rfl ?_
  refine L.no rfl ?_
  refine L.no rfl ?_
  refine L.no rfl ?_
  refine L.no rfl ?_
  refine L.no rfl ?_
  refine L.no rfl ?_
  refine L.va rfl (X.pickT rfl (by conv => lhs; whnf)) ?_
  refine L.nil ?_
  -- cond
  refine J.iteT rfl ?_
  refine J.seq ?_
  refine J.region ?_
  refine L.va rfl (X.assign (by conv => lhs; whnf)) ?_
  refine L.nil ?_
  -- ret
  refine J.ret ?_
  refine thn_ret <| ?_
  refine fin1 ?_
  exact ⟨rfl, rfl⟩
theorem free_ (h : Shut p w) : Calls Try.prog 34 #[p] w fun e w' => e = .returned (.int .i64 0) ∧ w = w' := by
  refine enter Try.func34 rfl (by kernel_rfl) ?_
  refine J.seq ?_
  refine J.region ?_
  refine L.va rfl (X.assign (by conv => lhs; whnf)) ?_
  refine L.nil ?_
  refine J.seq ?_
  refine J.seq ?_
  refine J.region ?_
  refine L.va rfl (X.move (by conv => lhs; whnf)) ?_
  -- callfn (*bushel/free.Space).is
  refine L.call rfl en_73 rfl (h.is_) ?_
  rintro e _ ⟨rfl, rfl⟩
  refine ⟨_, rfl, ?_⟩
  refine L.va rfl (X.not rfl) ?_
  refine L.nil ?_
  -- cond
  refine J.iteT rfl ?_
  refine J.seq ?_
  refine J.region ?_
  refine L.va rfl (X.assign (by conv => lhs; whnf)) ?_
  refine L.nil ?_
  -- ret
  refine J.ret ?_
  refine thn_ret <| ?_
  refine fin1 ?_
  exact ⟨rfl, rfl⟩
theorem fresh_ (h : Shut p w) : Calls Try.prog 42 #[p] w fun e w' => e = .returned (.slice none 0 0) ∧ w = w' := by
  refine enter Try.func42 rfl (by kernel_rfl) ?_
  refine J.seq ?_
  refine J.region ?_
  refine L.va rfl (X.assign (by conv => lhs; whnf)) ?_
  refine L.nil ?_
  refine J.seq ?_
  refine J.seq ?_
  refine J.region ?_
  refine L.va rfl (X.move (by conv => lhs; whnf)) ?_
  -- callfn (*bushel/free.Space).is
  refine L.call rfl en_73 rfl (h.is_) ?_
  rintro e _ ⟨rfl, rfl⟩
  refine ⟨_, rfl, ?_⟩
  refine L.va rfl (X.not rfl) ?_
  refine L.nil ?_
  -- cond
  refine J.iteT rfl ?_
  refine J.seq ?_
  refine J.region ?_
  refine L.va rfl (X.assign (by conv => lhs; whnf)) ?_
  refine L.nil ?_
  -- ret
  refine J.ret ?_
  refine thn_ret <| ?_
  refine fin1 ?_
  exact ⟨rfl, rfl⟩
theorem take_ (h : Shut p w) : Calls Try.prog 35 #[p] w fun e w' => e = .returned (.tuple #[.int .i64 0, .int .i64 15]) ∧ w = w' := by
  refine enter Try.func35 rfl (by kernel_rfl) ?_
  refine J.seq ?_
  refine J.region ?_
  refine L.va rfl (X.assign (by conv => lhs; whnf)) ?_
  refine L.va rfl (X.assign (by conv => lhs; whnf)) ?_
  refine L.nil ?_
  refine J.seq ?_
  refine J.seq ?_
  refine J.region ?_
  refine L.va rfl (X.move (by conv => lhs; whnf)) ?_
  -- callfn (*bushel/free.Space).is
  refine L.call rfl en_73 rfl (h.is_) ?_
  rintro e _ ⟨rfl, rfl⟩
  refine ⟨_, rfl, ?_⟩
  refine L.va rfl (X.not rfl) ?_
  refine L.nil ?_
  -- cond
  refine J.iteT rfl ?_
  refine J.seq ?_
  refine J.region ?_
  refine L.va rfl (X.assign (by conv => lhs; whnf)) ?_
  refine L.va rfl (X.assign (by conv => lhs; whnf)) ?_
  refine L.nil ?_
  -- ret
  refine J.ret ?_
  refine thn_ret <| ?_
  refine fin2 ?_
  exact ⟨rfl, rfl⟩
theorem keep_ (h : Shut p w) (x : Value) : Calls Try.prog 38 #[p, x] w fun e w' => e = .returned (.int .i64 15) ∧ w = w' := by
  refine enter Try.func38 rfl (by kernel_rfl) ?_
  refine J.seq ?_
  refine J.region ?_
  refine L.va rfl (X.assign (by conv => lhs; whnf)) ?_
  refine L.nil ?_
  refine J.seq ?_
  refine J.seq ?_
  refine J.region ?_
  refine L.va rfl (X.move (by conv => lhs; whnf)) ?_
  -- callfn (*bushel/free.Space).is
  refine L.call rfl en_73 rfl (h.is_) ?_
  rintro e _ ⟨rfl, rfl⟩
  refine ⟨_, rfl, ?_⟩
  refine L.va rfl (X.not rfl) ?_
  refine L.nil ?_
  -- cond
  refine J.iteT rfl ?_
  refine J.seq ?_
  refine J.region ?_
  refine L.va rfl (X.assign (by conv => lhs; whnf)) ?_
  refine L.nil ?_
  -- ret
  refine J.ret ?_
  refine thn_ret <| ?_
  refine fin1 ?_
  exact ⟨rfl, rfl⟩
theorem drop_ (h : Shut p w) : Calls Try.prog 39 #[p] w fun e w' => e = .returned (.tuple #[]) ∧ w = w' := by
  refine enter Try.func39 rfl (by kernel_rfl) ?_
  refine J.seq ?_
  refine J.region ?_
  refine L.va rfl (X.move (by conv => lhs; whnf)) ?_
  -- callfn (*bushel/free.Space).Fresh
  refine L.call rfl en_42 rfl (h.fresh_) ?_
  rintro e _ ⟨rfl, rfl⟩
  refine ⟨_, rfl, ?_⟩
  refine L.va rfl (X.len rfl Try.underlying62) ?_
  refine L.va rfl (X.move (by conv => lhs; whnf)) ?_
  refine L.nil ?_
  refine J.block ?_
  -- loop
  refine J.loop (X := Unit) [3, 7, 8, 9, 10, 11, 12, 13, 14, 15, 16, 17, 18, 19, 20, 21, 22, 23, 24] (fun _ => [(7, .int .i64 0)]) (fun _ w' => w = w') (fun _ => 0) (()) (At1 (by first | rfl | exact at_int rfl (by omega) | exact at_slice rfl (by omega) | exact at_int rfl (by simp))) ?_ ?_
  · rfl
  · rintro ⟨⟩ g w2 rfl
    refine J.seq ?_
    refine J.region ?_
    refine L.va rfl (X.lss rfl rfl) ?_
    refine L.nil ?_
    refine J.seq ?_
    -- cond
    refine J.iteF rfl ?_
    refine J.exit ?_
    refine thn_exit <| thn_exit <| inB_eq ?_
    -- end
    refine fin0 (.inr rfl) ?_
    exact ⟨rfl, rfl⟩
end Shut
end Go.Proofs.Ytdmfikedojgjbaa
