/-
  The law FreeSafe, walked: every size and list of live pages.
-/
import Derived.Test.YtdmfikedojgjbaaWFreeF
namespace Go.Proofs.Ytdmfikedojgjbaa
set_option maxRecDepth 100000
open Go.RowKit H
set_option linter.unusedVariables false
theorem mark_at (R live : List Int) (h : ∀ p ∈ live, 1 ≤ p ∧ p ≤ (R.length : Int)) (i : Nat) (hi : i < R.length) : (mark R live).getD i 0 = if ((i + 1 : Nat) : Int) ∈ live then 1 else R.getD i 0 := by
  unfold mark
  induction live generalizing R with
  | nil => simp
  | cons a l ih =>
    have ha := h a (by simp)
    rw [List.foldl_cons, ih _ (fun p hp => by rw [List.length_set]; exact h p (by simp [hp])) (by simpa using hi), getD_set R _ i 1 (by omega)]
    by_cases hl : ((i + 1 : Nat) : Int) ∈ l
    · rw [if_pos hl, if_pos (List.mem_cons_of_mem _ hl)]
    · rw [if_neg hl]
      by_cases hp : ((i + 1 : Nat) : Int) = a
      · rw [if_pos (by omega), if_pos (by rw [hp]; exact List.mem_cons_self)]
      · rw [if_neg (by omega), if_neg (by simp only [List.mem_cons, not_or]; exact ⟨hp, hl⟩)]
theorem law_FreeSafe (w : World) (x0 : Nm .i64) (A1 : Option Addr) (n1 c1 : Nat) (xs1 : List (Nm .i64)) (hn1 : n1 ≤ c1) (hc1 : c1 ≤ maxLen) (hA1 : A1 = none → c1 = 0) (hl1 : LiesSlice w w.heap.size A1 n1 xs1) :
    Calls Try.prog 8 #[.int .i64 x0.z, .slice A1 n1 c1] w fun e w' => e = .returned (.bool true) ∧ Below w.heap.size w w' := by
  have hr := hl1.reads
  have hx0 := x0.i64
  generalize zsOf xs1 = live at hr
  have hll : live.length = n1 := by have := hr.1; simpa [nums] using this
  unfold maxLen at hc1
  refine enter Try.func8 rfl (by kernel_rfl) ?_
  refine J.seq ?_
  refine J.region ?_
  refine L.va rfl (X.assign (by conv => lhs; whnf)) ?_
  refine L.nil ?_
  -- until
  refine J.cut (X := Unit) [4, 15, 16, 17, 18, 19, 20, 21, 22] (fun _ => []) (fun _ w' => w' = w ∧ x0.z ≤ 300 ∧ n1 ≤ 300) ?_ ?_
  · refine J.seq ?_
    refine J.region ?_
    refine L.va rfl (X.move (by conv => lhs; whnf)) ?_
    refine L.va rfl (X.gtr rfl rfl) ?_
    refine L.va rfl (X.move (by conv => lhs; whnf)) ?_
    -- case t17
    refine L.caseDec (k := 17) rfl (fun h1 => ?_) (fun h1 => ?_)
    · refine L.no rfl ?_
      refine L.no rfl ?_
      refine L.no rfl ?_
      refine L.va rfl (X.pickT rfl (by conv => lhs; whnf)) ?_
      refine L.nil ?_
      -- cond
      refine J.iteT rfl ?_
      refine J.seq ?_
      refine J.region ?_
      -- callfn bushel/bushellaw24.awake
      refine L.call rfl en_32 rfl (awake24 w) ?_
      rintro e w1 ⟨rfl, he1⟩
      refine ⟨_, rfl, ?_⟩
      refine L.va rfl (X.assign (by conv => lhs; whnf)) ?_
      refine L.nil ?_
      -- ret
      refine J.ret ?_
      refine thn_ret <| ?_
      refine fin1 ?_
      exact ⟨rfl, he1⟩
    · refine L.va rfl (X.move (by conv => lhs; whnf)) ?_
      refine L.va rfl (X.len rfl Try.underlying62) ?_
      refine L.va rfl (X.gtr rfl rfl) ?_
      refine L.va rfl (X.pickF rfl (by conv => lhs; whnf)) ?_
      refine L.nil ?_
      -- cond
      refine J.dec rfl (fun h2 => ?_) (fun h2 => ?_)
      · refine J.seq ?_
        refine J.region ?_
        -- callfn bushel/bushellaw24.awake
        refine L.call rfl en_32 rfl (awake24 w) ?_
        rintro e w1 ⟨rfl, he1⟩
        refine ⟨_, rfl, ?_⟩
        refine L.va rfl (X.assign (by conv => lhs; whnf)) ?_
        refine L.nil ?_
        -- ret
        refine J.ret ?_
        refine thn_ret <| ?_
        refine fin1 ?_
        exact ⟨rfl, he1⟩
      · refine J.skip ?_
        -- cutend
        refine ⟨(), At0 , (by (iterate 8 refine Agr.lk rfl ?_); exact Agr.rfl'), ?_⟩
        exact ⟨rfl, by omega, by omega⟩
  · rintro ⟨⟩ g w0 ⟨rfl, h300, hn300⟩
    refine J.seq ?_
    refine J.region ?_
    refine L.va rfl (X.move (by conv => lhs; whnf)) ?_
    refine L.va rfl (X.move (by conv => lhs; whnf)) ?_
    -- callfn bushel/free.New
    rcases (show x0.z < 1 ∨ 1 ≤ x0.z ∧ allThere x0.z.toNat live = false ∨ 1 ≤ x0.z ∧ allThere x0.z.toNat live = true by cases allThere x0.z.toNat live <;> simp <;> omega) with h1 | ⟨h1, hth⟩ | ⟨h1, hth⟩
    · refine L.call rfl en_33 rfl (fnew_2 x0.z A1 n1 c1 (.inl h1)) ?_
      rintro e _ ⟨rfl, rfl⟩
      refine ⟨_, rfl, ?_⟩
      refine L.va rfl (X.move (by conv => lhs; whnf)) ?_
      refine L.va rfl (X.extract rfl rfl) ?_
      refine L.va rfl (X.extract rfl rfl) ?_
      refine L.va rfl (X.assign (by conv => lhs; whnf)) ?_
      refine L.va rfl (X.assign (by conv => lhs; whnf)) ?_
      refine L.nil ?_
      refine J.seq ?_
      refine J.seq ?_
      refine J.region ?_
      refine L.va rfl (X.move (by conv => lhs; whnf)) ?_
      refine L.va rfl (X.neq rfl rfl) ?_
      refine L.va rfl (X.move (by conv => lhs; whnf)) ?_
      -- case t31
      refine L.caseNdecT (k := 31) rfl (by decide) ?_
      refine L.no rfl ?_
      refine L.no rfl ?_
      refine L.va rfl (X.pickT rfl (by conv => lhs; whnf)) ?_
      refine L.nil ?_
      -- cond
      refine J.iteT rfl ?_
      refine J.seq ?_
      refine J.region ?_
      refine L.va rfl (X.move (by conv => lhs; whnf)) ?_
      refine L.va rfl (X.eqlPn rfl rfl (by kernel_rfl)) ?_
      refine L.va rfl (X.move (by conv => lhs; whnf)) ?_
      -- case t37
      refine L.caseBT (k := 37) rfl (by rfl) ?_
      -- callfn bushel/bushellaw24.awake
      refine L.call rfl en_32 rfl (awake24 w0) ?_
      rintro e w1 ⟨rfl, he1⟩
      refine ⟨_, rfl, ?_⟩
      refine L.va rfl (X.pickT rfl (by conv => lhs; whnf)) ?_
      refine L.va rfl (X.assign (by conv => lhs; whnf)) ?_
      refine L.nil ?_
      -- ret
      refine J.ret ?_
      refine thn_ret <| ?_
      refine fin1 ?_
      exact ⟨rfl, he1⟩
    · obtain ⟨q, hq⟩ := Int.eq_ofNat_of_zero_le (show 0 ≤ x0.z by omega)
      rw [hq, Int.toNat_natCast] at hth
      rw [hq]
      refine L.call rfl en_33 rfl (fnew_no q (by omega) A1 n1 c1 live hr (by omega) hth) ?_
      rintro e w1 ⟨rfl, he1⟩
      refine ⟨_, rfl, ?_⟩
      have he1 : Ext w0 w1 := he1
      refine L.va rfl (X.move (by conv => lhs; whnf)) ?_
      refine L.va rfl (X.extract rfl rfl) ?_
      refine L.va rfl (X.extract rfl rfl) ?_
      refine L.va rfl (X.assign (by conv => lhs; whnf)) ?_
      refine L.va rfl (X.assign (by conv => lhs; whnf)) ?_
      refine L.nil ?_
      refine J.seq ?_
      refine J.seq ?_
      refine J.region ?_
      refine L.va rfl (X.move (by conv => lhs; whnf)) ?_
      refine L.va rfl (X.neq rfl rfl) ?_
      refine L.va rfl (X.move (by conv => lhs; whnf)) ?_
      -- case t31
      refine L.caseNdecT (k := 31) rfl (by decide) ?_
      refine L.no rfl ?_
      refine L.no rfl ?_
      refine L.va rfl (X.pickT rfl (by conv => lhs; whnf)) ?_
      refine L.nil ?_
      -- cond
      refine J.iteT rfl ?_
      refine J.seq ?_
      refine J.region ?_
      refine L.va rfl (X.move (by conv => lhs; whnf)) ?_
      refine L.va rfl (X.eqlPn rfl rfl (by kernel_rfl)) ?_
      refine L.va rfl (X.move (by conv => lhs; whnf)) ?_
      -- case t37
      refine L.caseBT (k := 37) rfl (by rfl) ?_
      -- callfn bushel/bushellaw24.awake
      refine L.call rfl en_32 rfl (awake24 w1) ?_
      rintro e w2 ⟨rfl, he2⟩
      refine ⟨_, rfl, ?_⟩
      refine L.va rfl (X.pickT rfl (by conv => lhs; whnf)) ?_
      refine L.va rfl (X.assign (by conv => lhs; whnf)) ?_
      refine L.nil ?_
      -- ret
      refine J.ret ?_
      refine thn_ret <| ?_
      refine fin1 ?_
      exact ⟨rfl, he1.trans he2⟩
    · obtain ⟨q, hq⟩ := Int.eq_ofNat_of_zero_le (show 0 ≤ x0.z by omega)
      rw [hq, Int.toNat_natCast] at hth
      rw [hq]
      have hat := allThere_at.1 hth
      have hmem : ∀ p ∈ live, 1 ≤ p ∧ p ≤ ((List.replicate q (0 : Int)).length : Int) := fun p hp => by
        obtain ⟨j, hj, rfl⟩ := List.getElem_of_mem hp
        have := hat j hj
        have e : live.getD j 0 = live[j] := by simp [List.getD, hj]
        rw [e] at this
        simpa using this
      refine L.call rfl en_33 rfl (fnew_yes q (by omega) A1 n1 c1 live hr (by omega) hth) ?_
      rintro e w1 ⟨s, rfl, h1', i1, he1⟩
      refine ⟨_, rfl, ?_⟩
      have he1 : Ext w0 w1 := he1
      have hml : (mark (List.replicate q (0 : Int)) live).length = q := by rw [mark_length]; simp
      have hmk := fun i hi => mark_at (List.replicate q 0) live hmem i hi
      generalize mark (List.replicate q (0 : Int)) live = R0 at *
      have hfl := h1'.hfl
      refine L.va rfl (X.move (by conv => lhs; whnf)) ?_
      refine L.va rfl (X.extract rfl rfl) ?_
      refine L.va rfl (X.extract rfl rfl) ?_
      refine L.va rfl (X.assign (by conv => lhs; whnf)) ?_
      refine L.va rfl (X.assign (by conv => lhs; whnf)) ?_
      refine L.nil ?_
      refine J.seq ?_
      refine J.seq ?_
      refine J.region ?_
      refine L.va rfl (X.move (by conv => lhs; whnf)) ?_
      refine L.va rfl (X.neq rfl rfl) ?_
      refine L.va rfl (X.move (by conv => lhs; whnf)) ?_
      -- case t31
      refine L.caseNdecF (k := 31) rfl (by rfl) ?_
      refine L.va rfl (X.move (by conv => lhs; whnf)) ?_
      refine L.va rfl (X.eqlPn rfl rfl (by kernel_rfl)) ?_
      refine L.va rfl (X.pickF rfl (by conv => lhs; whnf)) ?_
      refine L.nil ?_
      -- cond
      refine J.iteF rfl ?_
      refine J.skip ?_
      refine J.seq ?_
      refine J.region ?_
      refine L.va rfl (X.move (by conv => lhs; whnf)) ?_
      -- callfn (*bushel/free.Space).Free
      refine L.call rfl en_34 rfl (h1'.free_) ?_
      rintro e _ ⟨rfl, rfl⟩
      refine ⟨_, rfl, ?_⟩
      generalize hnn : s.fr.length = nn at *
      refine L.va rfl (X.assign (by conv => lhs; whnf)) ?_
      refine L.va rfl (X.assign (by conv => lhs; whnf)) ?_
      refine L.nil ?_
      -- until
      refine J.cut (X := Sp × List Int) [4, 8, 9, 10, 11, 12, 42, 43, 44, 45, 46, 47, 48, 49, 50, 51, 52, 53, 54, 55, 56, 57, 58, 59, 60, 61, 62, 63, 64, 65, 66, 67, 68, 69, 70, 71, 72, 73, 74, 75, 76] (fun _ => []) (fun y w' => Sp.At y.1 w0.heap.size w' ∧ y.1.Is y.2 ∧ y.1.d = s.d ∧ Ext w0 w' ∧ y.1.fr.length = 0) ?_ ?_
      · refine J.seq ?_
        refine J.region ?_
        refine L.va rfl (X.assign (by conv => lhs; whnf)) ?_
        refine L.nil ?_
        refine J.block ?_
        -- loop
        refine J.loop (X := (Nat × Nat) × (Sp × List Int)) [4, 8, 9, 10, 11, 12, 42, 43, 44, 45, 46, 47, 48, 49, 50, 51, 52, 53, 54, 55, 56, 57, 58, 59, 60, 61, 62, 63, 64, 65, 66, 67, 68, 69, 70, 71, 72, 73, 74, 75, 76] (fun y => [(9, .int .i64 (y.1.1 : Int)), (8, .int .i64 (y.1.2 : Int))]) (fun y w' => y.1.1 ≤ nn ∧ Sp.At y.2.1 w0.heap.size w' ∧ y.2.1.Is y.2.2 ∧ y.2.1.d = s.d ∧ Ext w0 w' ∧ y.2.1.fr.length + y.1.1 = nn ∧ y.2.2.length = q ∧ (∀ j, j < y.1.2 → y.2.2.getD j 0 ≠ 0) ∧ (∀ j, y.1.2 ≤ j → y.2.2.getD j 0 = R0.getD j 0)) (fun y => nn - y.1.1) (((0, 0), (s, R0))) (At2 (by first | rfl | exact at_int rfl (by omega) | exact at_slice rfl (by omega) | exact at_int rfl (by simp)) (by first | rfl | exact at_int rfl (by omega) | exact at_slice rfl (by omega) | exact at_int rfl (by simp))) ?_ ?_
        · exact ⟨Nat.zero_le _, h1', i1, rfl, he1, by dsimp only; omega, hml, fun j hj => absurd hj (Nat.not_lt_zero _), fun j _ => rfl⟩
        · rintro ⟨⟨i, last⟩, ⟨u, R⟩⟩ g w2 ⟨hi, H, I, hd, he, hc, hRl, ha, hb⟩
          dsimp only at hi H I hd hc hRl ha hb
          have q1 : (((i, last), (u, R)) : (Nat × Nat) × (Sp × List Int)).1.1 = i := rfl
          have q2 : (((i, last), (u, R)) : (Nat × Nat) × (Sp × List Int)).1.2 = last := rfl
          have hptr : s.ptr = u.ptr := by unfold Sp.ptr; rw [hd]
          refine J.seq ?_
          refine J.seq ?_
          refine J.region ?_
          refine L.va rfl (X.move (by conv => lhs; whnf)) ?_
          refine L.va rfl (X.move (by conv => lhs; whnf)) ?_
          refine L.va rfl (X.lss rfl rfl) ?_
          refine L.nil ?_
          -- cond
          refine J.dec rfl (fun hlt => ?_) (fun hlt => ?_)
          · have hil : i < nn := by dsimp only at hlt; omega
            have hff : ffree R < R.length := by
              apply Decidable.byContradiction
              intro hn
              have hle := ffree_le R
              have h0 := I.hf.none_ (fun j hj => by
                rw [I.hk] at hj ⊢
                cases j with
                | zero => exact (show (-1 : Int) ≠ 0 by decide)
                | succ j => exact ffree_lt (R := R) (by simp at hj; omega))
              omega
            have hfz := ffree_at hff
            have hge : last ≤ ffree R := by
              apply Decidable.byContradiction
              intro hn
              exact ha _ (by omega) hfz
            have eD : doF R 0 [] = (R.set (ffree R) 2, ((ffree R : Nat) : Int) + 1, 0) := by unfold doF; rw [if_pos rfl, if_pos hff]
            have hR0 : R0.getD (ffree R) 0 = 0 := by rw [← hb _ hge]; exact hfz
            have hnl : ((ffree R + 1 : Nat) : Int) ∉ live := fun hm => by
              have := hmk (ffree R) (by simp; omega)
              rw [if_pos hm] at this
              omega
            have cT := H.take_ I
            rw [eD, ← hptr] at cT
            dsimp only at cT
            refine J.skip ?_
            refine J.seq ?_
            refine J.block ?_
            refine J.seq ?_
            refine J.region ?_
            refine L.va rfl (X.move (by conv => lhs; whnf)) ?_
            -- callfn (*bushel/free.Space).Take
            refine L.call rfl en_35 rfl (cT) ?_
            rintro e w3 ⟨rfl, u', H', hd', I', K', _⟩
            refine ⟨_, rfl, ?_⟩
            have hsets := fK_shift 0 (-1) R R.length (by decide)
            have hsets' := fK_shift 0 (-1) (R.set (ffree R) 2) R.length (by decide)
            have hl1 : u.fr.length = (fK 0 R R.length).length := by rw [I.hf.len, I.hk]; exact hsets
            have hl2 : u'.fr.length = (fK 0 (R.set (ffree R) 2) R.length).length := by
              rw [I'.hf.len, I'.hk]
              have e : (-1 :: R.set (ffree R) 2).length = R.length + 1 := by simp
              rw [e]
              exact hsets'
            have hp := (fK_set (q := 0) (x := 2) (ks := R) hff hfz (by decide) R.length hff).length_eq
            rw [List.length_cons] at hp
            generalize hF : ffree R = F at *
            have he3 : Ext w0 w3 := Below.trans he (H.below K')
            refine L.va rfl (X.move (by conv => lhs; whnf)) ?_
            refine L.va rfl (X.extract rfl rfl) ?_
            refine L.va rfl (X.extract rfl rfl) ?_
            refine L.va rfl (X.assign (by conv => lhs; whnf)) ?_
            refine L.va rfl (X.assign (by conv => lhs; whnf)) ?_
            refine L.nil ?_
            refine J.seq ?_
            refine J.seq ?_
            refine J.region ?_
            refine L.va rfl (X.move (by conv => lhs; whnf)) ?_
            refine L.va rfl (X.neq rfl rfl) ?_
            refine L.va rfl (X.move (by conv => lhs; whnf)) ?_
            -- case t54
            refine L.caseNdecF (k := 54) rfl (by exact rfl) ?_
            refine L.va rfl (X.move (by conv => lhs; whnf)) ?_
            refine L.va rfl (X.move (by conv => lhs; whnf)) ?_
            refine L.va rfl (X.leq rfl rfl) ?_
            refine L.va rfl (X.pickF rfl (by conv => lhs; whnf)) ?_
            refine L.va rfl (X.move (by conv => lhs; whnf)) ?_
            -- case t59
            refine L.caseDecF (k := 59) rfl (by omega) ?_
            refine L.va rfl (X.move (by conv => lhs; whnf)) ?_
            refine L.va rfl (X.move (by conv => lhs; whnf)) ?_
            refine L.va rfl (X.gtr rfl rfl) ?_
            refine L.va rfl (X.pickF rfl (by conv => lhs; whnf)) ?_
            refine L.nil ?_
            -- cond
            refine J.decF rfl (by omega) ?_
            refine J.skip ?_
            -- until
            refine J.cut (X := Unit) [4, 12, 64, 65, 66, 67, 68, 69, 70, 71, 72, 73, 74, 75] (fun _ => []) (fun _ w' => w' = w3) ?_ ?_
            · refine J.seq ?_
              refine J.region ?_
              refine L.va rfl (X.assign (by conv => lhs; whnf)) ?_
              refine L.nil ?_
              refine J.block ?_
              -- loop
              refine J.loop (X := Nat) [4, 12, 64, 65, 66, 67, 68, 69, 70, 71, 72, 73, 74, 75] (fun k => [(12, .int .i64 (k : Int))]) (fun k w' => w' = w3 ∧ k ≤ n1) (fun k => n1 - k) (0) (At1 (by first | rfl | exact at_int rfl (by omega) | exact at_slice rfl (by omega) | exact at_int rfl (by simp))) ?_ ?_
              · exact ⟨rfl, Nat.zero_le _⟩
              · rintro k g w4 ⟨rfl, hk⟩
                have hr4 := hr.ext he3
                refine J.seq ?_
                refine J.seq ?_
                refine J.region ?_
                refine L.va rfl (X.move (by conv => lhs; whnf)) ?_
                refine L.va rfl (X.move (by conv => lhs; whnf)) ?_
                refine L.va rfl (X.len rfl Try.underlying62) ?_
                refine L.va rfl (X.lss rfl rfl) ?_
                refine L.nil ?_
                -- cond
                refine J.dec rfl (fun hlt2 => ?_) (fun hlt2 => ?_)
                · have hkl : k < n1 := by omega
                  have hne : live.getD k 0 ≠ (F : Int) + 1 := fun e => by
                    apply hnl
                    have e2 : live.getD k 0 = live[k]'(by omega) := by simp [List.getD, show k < live.length by omega]
                    rw [show ((F + 1 : Nat) : Int) = (F : Int) + 1 by omega, ← e, e2]
                    exact List.getElem_mem _
                  refine J.skip ?_
                  refine J.seq ?_
                  refine J.block ?_
                  refine J.seq ?_
                  refine J.region ?_
                  refine L.va rfl (X.move (by conv => lhs; whnf)) ?_
                  refine L.va rfl (X.move (by conv => lhs; whnf)) ?_
                  refine L.va rfl ((by first | exact X.index1n rfl rfl Try.underlying62 sz_3 (by first | exact Option.some_ne_none _ | exact hr4.some_ (by omega)) (by omega) | exact X.index1 rfl rfl Try.underlying62 sz_3 (by first | exact Option.some_ne_none _ | exact hr4.some_ (by omega)) (by omega))) ?_
                  refine L.va rfl (X.load rfl sc_3 (by first | exact Ld.num hr4 (by omega))) ?_
                  refine L.va rfl (X.move (by conv => lhs; whnf)) ?_
                  refine L.va rfl (X.eql rfl rfl) ?_
                  refine L.nil ?_
                  -- cond
                  refine J.decF rfl (by exact hne) ?_
                  refine J.skip ?_
                  refine J.region ?_
                  refine L.va rfl (X.move (by conv => lhs; whnf)) ?_
                  refine L.va rfl (X.add rfl rfl (by omega)) ?_
                  refine L.va rfl (X.assign (by conv => lhs; whnf)) ?_
                  refine L.nil ?_
                  -- loopend
                  refine ⟨k + 1, At1 (by first | rfl | exact at_int rfl (by omega) | exact at_slice rfl (by omega) | exact at_int rfl (by simp)), (by (iterate 13 refine Agr.lk rfl ?_); exact Agr.lk rfl (Agr.hav rfl Agr.rfl')), ?_⟩
                  exact ⟨⟨rfl, by omega⟩, by omega⟩
                · refine J.exit ?_
                  -- cutend
                  refine ⟨(), At0 , (by (iterate 4 refine Agr.lk rfl ?_); refine Agr.lk rfl ?_; refine Agr.hav rfl ?_; (iterate 1 refine Agr.lk rfl ?_); exact Agr.rfl'), ?_⟩
                  rfl
            · rintro ⟨⟩ g w4 rfl
              refine J.region ?_
              refine L.va rfl (X.move (by conv => lhs; whnf)) ?_
              refine L.va rfl (X.assign (by conv => lhs; whnf)) ?_
              refine L.nil ?_
              refine J.region ?_
              refine L.va rfl (X.move (by conv => lhs; whnf)) ?_
              refine L.va rfl (X.add rfl rfl (by omega)) ?_
              refine L.va rfl (X.assign (by conv => lhs; whnf)) ?_
              refine L.nil ?_
              -- loopend
              refine ⟨((i + 1, F + 1), (u', R.set F 2)), At2 (by first | rfl | exact at_int rfl (by omega) | exact at_slice rfl (by omega) | exact at_int rfl (by simp)) (by first | rfl | exact at_int rfl (by omega) | exact at_slice rfl (by omega) | exact at_int rfl (by simp)), (by (iterate 5 refine Agr.lk rfl ?_); refine Agr.lk rfl ?_; refine Agr.hav rfl ?_; (iterate 24 refine Agr.lk rfl ?_); exact Agr.lk rfl (Agr.hav rfl Agr.rfl')), ?_⟩
              refine ⟨⟨by dsimp only; omega, H', I', hd'.trans hd, he3, by dsimp only; omega, by dsimp only; rw [List.length_set]; exact hRl, fun j hj => ?_, fun j hj => ?_⟩, by dsimp only; omega⟩
              · dsimp only at hj ⊢
                rw [getD_set R F j 2 hff]
                split
                · decide
                · by_cases hjl : j < last
                  · exact ha j hjl
                  · exact ffree_lt (R := R) (by omega)
              · dsimp only at hj ⊢
                rw [getD_set R F j 2 hff, if_neg (by omega)]
                exact hb j (by omega)
          · refine J.exit ?_
            -- cutend
            refine ⟨(u, R), At0 , (by (iterate 3 refine Agr.lk rfl ?_); refine Agr.lk rfl ?_; refine Agr.hav rfl ?_; (iterate 1 refine Agr.lk rfl ?_); exact Agr.rfl'), ?_⟩
            exact ⟨H, I, hd, he, by dsimp only at hlt ⊢; omega⟩
      · rintro ⟨u, R⟩ g w2 ⟨H, I, hd, he, h0⟩
        dsimp only at H I hd h0
        have hptr : s.ptr = u.ptr := by unfold Sp.ptr; rw [hd]
        have hle := ffree_le R
        have hff : ¬ ffree R < R.length := fun hff => by
          have hks : u.ks.getD (ffree R + 1) 0 = 0 := by rw [I.hk]; exact (show R.getD (ffree R) 0 = 0 from ffree_at hff)
          have := (I.hf.root (p := ffree R + 1) (by rw [I.hk]; simp; omega) hks (fun j hj => by
            rw [I.hk]
            cases j with
            | zero => exact (show (-1 : Int) ≠ 0 by decide)
            | succ j => exact ffree_lt (R := R) (by omega))).1
          omega
        have eD : doF R 0 [] = (R, 0, 12) := by unfold doF; rw [if_pos rfl, if_neg hff]
        have cT := H.take_ I
        rw [eD, ← hptr] at cT
        dsimp only at cT
        refine J.seq ?_
        refine J.region ?_
        refine L.va rfl (X.move (by conv => lhs; whnf)) ?_
        -- callfn (*bushel/free.Space).Take
        refine L.call rfl en_35 rfl (cT) ?_
        rintro e w3 ⟨rfl, u', H', hd', I', K', _⟩
        refine ⟨_, rfl, ?_⟩
        have he3 : Ext w0 w3 := Below.trans he (H.below K')
        have h0' : u'.fr.length = 0 := by rw [I'.hf.len, I'.hk, ← I.hk, ← I.hf.len]; exact h0
        have cF := H'.free_
        have hp' : s.ptr = u'.ptr := by unfold Sp.ptr; rw [hd', hd]
        rw [← hp', h0'] at cF
        refine L.va rfl (X.move (by conv => lhs; whnf)) ?_
        refine L.va rfl (X.extract rfl rfl) ?_
        refine L.va rfl (X.extract rfl rfl) ?_
        refine L.va rfl (X.assign (by conv => lhs; whnf)) ?_
        refine L.va rfl (X.assign (by conv => lhs; whnf)) ?_
        refine L.nil ?_
        refine J.seq ?_
        refine J.region ?_
        refine L.va rfl (X.move (by conv => lhs; whnf)) ?_
        refine L.va rfl (X.eql rfl rfl) ?_
        refine L.va rfl (X.move (by conv => lhs; whnf)) ?_
        -- case t84
        refine L.caseDecT (k := 84) rfl (by rfl) ?_
        refine L.va rfl (X.move (by conv => lhs; whnf)) ?_
        refine L.va rfl (X.eql rfl rfl) ?_
        refine L.va rfl (X.pickT rfl (by conv => lhs; whnf)) ?_
        refine L.va rfl (X.move (by conv => lhs; whnf)) ?_
        -- case t88
        refine L.caseDecT (k := 88) rfl (by rfl) ?_
        refine L.va rfl (X.move (by conv => lhs; whnf)) ?_
        -- callfn (*bushel/free.Space).Free
        refine L.call rfl en_34 rfl (cF) ?_
        rintro e _ ⟨rfl, rfl⟩
        refine ⟨_, rfl, ?_⟩
        refine L.va rfl (X.eql rfl rfl) ?_
        refine L.va rfl (X.pickT rfl (by conv => lhs; whnf)) ?_
        refine L.va rfl (X.move (by conv => lhs; whnf)) ?_
        -- case t93
        refine L.caseDecT (k := 93) rfl (by rfl) ?_
        -- callfn bushel/bushellaw24.awake
        refine L.call rfl en_32 rfl (awake24 w3) ?_
        rintro e w4 ⟨rfl, he4⟩
        refine ⟨_, rfl, ?_⟩
        refine L.va rfl (X.pickT rfl (by conv => lhs; whnf)) ?_
        refine L.va rfl (X.assign (by conv => lhs; whnf)) ?_
        refine L.nil ?_
        -- ret
        refine J.ret ?_
        refine fin1 ?_
        exact ⟨rfl, he3.trans he4⟩
end Go.Proofs.Ytdmfikedojgjbaa
