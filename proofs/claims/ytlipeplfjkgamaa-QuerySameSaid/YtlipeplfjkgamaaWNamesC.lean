/-
  What a name is, in the reference; and what is twice in a list, in the reference.
-/
import Derived.Test.YtlipeplfjkgamaaWNamesB
namespace Go.Proofs.Ytlipeplfjkgamaa
open Go.RowKit H
set_option linter.unusedVariables false
theorem nd_t {p : Prop} [Decidable p] (h : (!decide p) = true) : ¬ p := by simpa using h
theorem nd_f {p : Prop} [Decidable p] (h : (!decide p) = false) : p := by simpa using h
theorem nd_mk {p : Prop} [Decidable p] (h : ¬ p) : (!decide p) = true := by simpa using h
theorem ris_any (s : ByteArray) (w : World) : Calls Try.prog 177 #[.string s] w fun e w' => e = .returned (.bool (isS s)) ∧ Ext w w' := by
  refine enter Try.func177 rfl (by kernel_rfl) ?_
  refine J.seq ?_
  refine J.region ?_
  refine L.va rfl (X.assign (by conv => lhs; whnf)) ?_
  refine L.nil ?_
  refine J.seq ?_
  refine J.seq ?_
  refine J.region ?_
  refine L.va rfl (X.move (by conv => lhs; whnf)) ?_
  refine L.va rfl (X.lens rfl Try.underlying9) ?_
  refine L.va rfl (X.lss rfl rfl) ?_
  refine L.va rfl (X.move (by conv => lhs; whnf)) ?_
  -- case t9
  refine L.caseDec (k := 9) rfl (fun h1 => ?_) (fun h1 => ?_)
  · have hE : isS s = false := isS_no (by rintro ⟨h, _⟩; omega)
    rw [hE]
    refine L.no rfl ?_
    refine L.no rfl ?_
    refine L.no rfl ?_
    refine L.va rfl (X.pickT rfl (by conv => lhs; whnf)) ?_
    refine L.va rfl (X.move (by conv => lhs; whnf)) ?_
    refine L.no rfl ?_
    refine L.no rfl ?_
    refine L.no rfl ?_
    refine L.no rfl ?_
    refine L.va rfl (X.pickT rfl (by conv => lhs; whnf)) ?_
    refine L.nil ?_
    -- cond
    refine J.iteT rfl ?_
    refine J.seq ?_
    refine J.region ?_
    refine L.va rfl (X.assign (by conv => lhs; whnf)) ?_
    refine L.nil ?_
    -- ret
    refine J.ret ?_
    refine thn_ret <| ?_
    refine fin1 ?_
    exact ⟨rfl, Ext.refl _⟩
  · refine L.va rfl (X.move (by conv => lhs; whnf)) ?_
    refine L.va rfl (X.lens rfl Try.underlying9) ?_
    refine L.va rfl (X.gtr rfl rfl) ?_
    refine L.va rfl (X.pickF rfl (by conv => lhs; whnf)) ?_
    refine L.va rfl (X.move (by conv => lhs; whnf)) ?_
    -- case t14
    refine L.caseDec (k := 14) rfl (fun h2 => ?_) (fun h2 => ?_)
    · have hE : isS s = false := isS_no (by rintro ⟨_, h, _⟩; omega)
      rw [hE]
      refine L.no rfl ?_
      refine L.no rfl ?_
      refine L.no rfl ?_
      refine L.no rfl ?_
      refine L.va rfl (X.pickT rfl (by conv => lhs; whnf)) ?_
      refine L.nil ?_
      -- cond
      refine J.iteT rfl ?_
      refine J.seq ?_
      refine J.region ?_
      refine L.va rfl (X.assign (by conv => lhs; whnf)) ?_
      refine L.nil ?_
      -- ret
      refine J.ret ?_
      refine thn_ret <| ?_
      refine fin1 ?_
      exact ⟨rfl, Ext.refl _⟩
    · -- callfn bushel/bushelref10.words
      refine L.call rfl en_233 rfl (rwords_any _) ?_
      rintro e w1 ⟨b, rfl, hr, he⟩
      refine ⟨_, rfl, ?_⟩
      have he : Ext w w1 := he
      refine L.va rfl (X.move (by conv => lhs; whnf)) ?_
      -- callfn bushel/bushelref10.Place
      refine L.call rfl en_232 rfl (place_any (some ⟨b, 0, none⟩) 16 16 Ws s _ hr (by decide)) ?_
      rintro e _ ⟨rfl, rfl⟩
      refine ⟨_, rfl, ?_⟩
      refine L.va rfl (X.geq rfl rfl) ?_
      refine L.va rfl (X.pickF rfl (by conv => lhs; whnf)) ?_
      refine L.nil ?_
      -- cond
      refine J.dec rfl (fun h3 => ?_) (fun h3 => ?_)
      · have hE : isS s = false := isS_no (by
          rintro ⟨_, _, _, _, h⟩
          rw [among_iff.2 (plc_iff.1 h3)] at h
          cases h)
        rw [hE]
        refine J.seq ?_
        refine J.region ?_
        refine L.va rfl (X.assign (by conv => lhs; whnf)) ?_
        refine L.nil ?_
        -- ret
        refine J.ret ?_
        refine thn_ret <| ?_
        refine fin1 ?_
        exact ⟨rfl, he⟩
      · have hw : among Ws s = false := by
          rw [← Bool.not_eq_true]
          intro h
          exact h3 (plc_iff.2 (among_iff.1 h))
        refine J.skip ?_
        refine J.seq ?_
        refine J.seq ?_
        refine J.region ?_
        refine L.va rfl (X.assign (by conv => lhs; whnf)) ?_
        refine L.nil ?_
        refine J.block ?_
        -- loop
        refine J.loop (X := Nat) [2, 3, 4, 5, 20, 21, 22, 23, 24, 25, 26, 27, 28, 29, 30, 31, 32, 33, 34, 35, 36, 37, 38, 39, 40, 41, 42, 43, 44, 45, 46, 47, 48, 49, 50, 51, 52, 53, 54, 55, 56, 57, 58, 59, 60, 61] (fun i => [(3, .int .i64 (i : Int))]) (fun i w' => w' = w1 ∧ i ≤ s.size ∧ ∀ j, j < i → letC (ch s j) ∨ (digC (ch s j) ∧ j ≠ 0)) (fun i => s.size - i) (0) (At1 (by first | rfl | exact at_int rfl (by omega) | exact at_slice rfl (by omega) | exact at_int rfl (by simp))) ?_ ?_
        · exact ⟨rfl, by omega, fun j hj => absurd hj (by omega)⟩
        · rintro i g w2 ⟨rfl, hi, hP⟩
          have hc := ch_bd s i
          have hq : ((s.data.toList.getD ((i : Int)).toNat 0).toNat : Int) = ch s i := rfl
          have hnext : letC (ch s i) ∨ (digC (ch s i) ∧ i ≠ 0) → ∀ j, j < i + 1 → letC (ch s j) ∨ (digC (ch s j) ∧ j ≠ 0) := by
            intro h j hj
            rcases Nat.lt_or_ge j i with h' | h'
            · exact hP j h'
            · obtain rfl : j = i := by omega
              exact h
          have hbad : i < s.size → ¬ (letC (ch s i) ∨ (digC (ch s i) ∧ i ≠ 0)) → isS s = false := fun hl h => isS_no (by
            rintro ⟨_, _, h0, h', _⟩
            apply h
            rcases h' i hl with k | k
            · exact .inl k
            · by_cases hi0 : i = 0
              · subst hi0; exact .inl h0
              · exact .inr ⟨k, hi0⟩)
          refine J.seq ?_
          refine J.seq ?_
          refine J.region ?_
          refine L.va rfl (X.move (by conv => lhs; whnf)) ?_
          refine L.va rfl (X.move (by conv => lhs; whnf)) ?_
          refine L.va rfl (X.lens rfl Try.underlying9) ?_
          refine L.va rfl (X.lss rfl rfl) ?_
          refine L.nil ?_
          -- cond
          refine J.dec rfl (fun hlt => ?_) (fun hlt => ?_)
          · have hl : i < s.size := by omega
            replace hbad := hbad hl
            refine J.skip ?_
            refine J.seq ?_
            refine J.block ?_
            refine J.seq ?_
            refine J.region ?_
            refine L.va rfl (X.move (by conv => lhs; whnf)) ?_
            refine L.va rfl (X.move (by conv => lhs; whnf)) ?_
            refine L.va rfl (X.indexStr rfl rfl Try.underlying9 (by omega)) ?_
            refine L.va rfl (X.geq rfl rfl) ?_
            refine L.va rfl (X.move (by conv => lhs; whnf)) ?_
            -- case t30
            refine L.caseDec (k := 30) rfl (fun a1 => ?_) (fun a1 => ?_)
            · refine L.va rfl (X.move (by conv => lhs; whnf)) ?_
              refine L.va rfl (X.move (by conv => lhs; whnf)) ?_
              refine L.va rfl (X.indexStr rfl rfl Try.underlying9 (by omega)) ?_
              refine L.va rfl (X.leq rfl rfl) ?_
              refine L.va rfl (X.pickT rfl (by conv => lhs; whnf)) ?_
              refine L.va rfl (X.assign (by conv => lhs; whnf)) ?_
              refine L.nil ?_
              refine J.seq ?_
              refine J.region ?_
              refine L.va rfl (X.move (by conv => lhs; whnf)) ?_
              refine L.va rfl (X.move (by conv => lhs; whnf)) ?_
              refine L.va rfl (X.indexStr rfl rfl Try.underlying9 (by omega)) ?_
              refine L.va rfl (X.geq rfl rfl) ?_
              refine L.va rfl (X.move (by conv => lhs; whnf)) ?_
              -- case t40
              refine L.caseDecT (k := 40) rfl (by omega) ?_
              refine L.va rfl (X.move (by conv => lhs; whnf)) ?_
              refine L.va rfl (X.move (by conv => lhs; whnf)) ?_
              refine L.va rfl (X.indexStr rfl rfl Try.underlying9 (by omega)) ?_
              refine L.va rfl (X.leq rfl rfl) ?_
              refine L.va rfl (X.pickT rfl (by conv => lhs; whnf)) ?_
              refine L.va rfl (X.move (by conv => lhs; whnf)) ?_
              -- case t46
              refine L.caseDecF (k := 46) rfl (by omega) ?_
              refine L.va rfl (X.move (by conv => lhs; whnf)) ?_
              refine L.va rfl (X.move (by conv => lhs; whnf)) ?_
              refine L.va rfl (X.indexStr rfl rfl Try.underlying9 (by omega)) ?_
              refine L.va rfl (X.eql rfl rfl) ?_
              refine L.va rfl (X.pickF rfl (by conv => lhs; whnf)) ?_
              refine L.va rfl (X.assign (by conv => lhs; whnf)) ?_
              refine L.nil ?_
              refine J.seq ?_
              refine J.region ?_
              refine L.va rfl (X.move (by conv => lhs; whnf)) ?_
              refine L.va rfl (X.not rfl) ?_
              refine L.va rfl (X.move (by conv => lhs; whnf)) ?_
              -- case t54
              refine L.caseB (k := 54) rfl (fun a2 => ?_) (fun a2 => ?_)
              · have a2' : ¬ ch s i ≤ 122 := nd_t a2
                refine L.va rfl (X.move (by conv => lhs; whnf)) ?_
                refine L.va rfl (X.not rfl) ?_
                refine L.va rfl (X.move (by conv => lhs; whnf)) ?_
                -- case t57
                refine L.caseBT (k := 57) rfl (by exact nd_mk (p := ch s i = 95) (by omega)) ?_
                have hE := hbad (by omega)
                rw [hE]
                refine L.no rfl ?_
                refine L.no rfl ?_
                refine L.va rfl (X.pickT rfl (by conv => lhs; whnf)) ?_
                refine L.va rfl (X.pickT rfl (by conv => lhs; whnf)) ?_
                refine L.nil ?_
                -- cond
                refine J.iteT rfl ?_
                refine J.seq ?_
                refine J.region ?_
                refine L.va rfl (X.assign (by conv => lhs; whnf)) ?_
                refine L.nil ?_
                -- ret
                refine J.ret ?_
                refine inB_ret <|  thn_ret <|  thn_ret <|  inB_ret <|  thn_ret <| ?_
                refine fin1 ?_
                exact ⟨rfl, he⟩
              · have a2' : ch s i ≤ 122 := nd_f a2
                refine L.no rfl ?_
                refine L.no rfl ?_
                refine L.no rfl ?_
                refine L.no rfl ?_
                refine L.no rfl ?_
                refine L.no rfl ?_
                refine L.va rfl (X.pickF rfl (by conv => lhs; whnf)) ?_
                refine L.nil ?_
                -- cond
                refine J.iteF rfl ?_
                refine J.skip ?_
                refine J.region ?_
                refine L.va rfl (X.move (by conv => lhs; whnf)) ?_
                refine L.va rfl (X.add rfl rfl (by omega)) ?_
                refine L.va rfl (X.assign (by conv => lhs; whnf)) ?_
                refine L.nil ?_
                -- loopend
                refine ⟨i + 1, At1 (by first | rfl | exact at_int rfl (by omega) | exact at_slice rfl (by omega) | exact at_int rfl (by simp)), (by (iterate 49 refine Agr.lk rfl ?_); exact Agr.lk rfl (Agr.hav rfl Agr.rfl')), ?_⟩
                exact ⟨⟨rfl, by omega, hnext (by omega)⟩, by omega⟩
            · refine L.no rfl ?_
              refine L.no rfl ?_
              refine L.no rfl ?_
              refine L.no rfl ?_
              refine L.va rfl (X.pickF rfl (by conv => lhs; whnf)) ?_
              refine L.va rfl (X.assign (by conv => lhs; whnf)) ?_
              refine L.nil ?_
              refine J.seq ?_
              refine J.region ?_
              refine L.va rfl (X.move (by conv => lhs; whnf)) ?_
              refine L.va rfl (X.move (by conv => lhs; whnf)) ?_
              refine L.va rfl (X.indexStr rfl rfl Try.underlying9 (by omega)) ?_
              refine L.va rfl (X.geq rfl rfl) ?_
              refine L.va rfl (X.move (by conv => lhs; whnf)) ?_
              -- case t40
              refine L.caseDec (k := 40) rfl (fun a3 => ?_) (fun a3 => ?_)
              · refine L.va rfl (X.move (by conv => lhs; whnf)) ?_
                refine L.va rfl (X.move (by conv => lhs; whnf)) ?_
                refine L.va rfl (X.indexStr rfl rfl Try.underlying9 (by omega)) ?_
                refine L.va rfl (X.leq rfl rfl) ?_
                refine L.va rfl (X.pickT rfl (by conv => lhs; whnf)) ?_
                refine L.va rfl (X.move (by conv => lhs; whnf)) ?_
                -- case t46
                refine L.caseDec (k := 46) rfl (fun a4 => ?_) (fun a4 => ?_)
                · refine L.no rfl ?_
                  refine L.no rfl ?_
                  refine L.no rfl ?_
                  refine L.no rfl ?_
                  refine L.va rfl (X.pickT rfl (by conv => lhs; whnf)) ?_
                  refine L.va rfl (X.assign (by conv => lhs; whnf)) ?_
                  refine L.nil ?_
                  refine J.seq ?_
                  refine J.region ?_
                  refine L.va rfl (X.move (by conv => lhs; whnf)) ?_
                  refine L.va rfl (X.not rfl) ?_
                  refine L.va rfl (X.move (by conv => lhs; whnf)) ?_
                  refine L.va rfl (X.move (by conv => lhs; whnf)) ?_
                  refine L.va rfl (X.not rfl) ?_
                  refine L.va rfl (X.move (by conv => lhs; whnf)) ?_
                  refine L.va rfl (X.move (by conv => lhs; whnf)) ?_
                  refine L.va rfl (X.eql rfl rfl) ?_
                  refine L.va rfl (X.pickF rfl (by conv => lhs; whnf)) ?_
                  refine L.va rfl (X.pickT rfl (by conv => lhs; whnf)) ?_
                  refine L.nil ?_
                  -- cond
                  refine J.dec rfl (fun a6 => ?_) (fun a6 => ?_)
                  · have hE := hbad (by omega)
                    rw [hE]
                    refine J.seq ?_
                    refine J.region ?_
                    refine L.va rfl (X.assign (by conv => lhs; whnf)) ?_
                    refine L.nil ?_
                    -- ret
                    refine J.ret ?_
                    refine inB_ret <|  thn_ret <|  thn_ret <|  inB_ret <|  thn_ret <| ?_
                    refine fin1 ?_
                    exact ⟨rfl, he⟩
                  · refine J.skip ?_
                    refine J.region ?_
                    refine L.va rfl (X.move (by conv => lhs; whnf)) ?_
                    refine L.va rfl (X.add rfl rfl (by omega)) ?_
                    refine L.va rfl (X.assign (by conv => lhs; whnf)) ?_
                    refine L.nil ?_
                    -- loopend
                    refine ⟨i + 1, At1 (by first | rfl | exact at_int rfl (by omega) | exact at_slice rfl (by omega) | exact at_int rfl (by simp)), (by (iterate 48 refine Agr.lk rfl ?_); exact Agr.lk rfl (Agr.hav rfl Agr.rfl')), ?_⟩
                    exact ⟨⟨rfl, by omega, hnext (by omega)⟩, by omega⟩
                · refine L.va rfl (X.move (by conv => lhs; whnf)) ?_
                  refine L.va rfl (X.move (by conv => lhs; whnf)) ?_
                  refine L.va rfl (X.indexStr rfl rfl Try.underlying9 (by omega)) ?_
                  refine L.va rfl (X.eql rfl rfl) ?_
                  refine L.va rfl (X.pickF rfl (by conv => lhs; whnf)) ?_
                  refine L.va rfl (X.assign (by conv => lhs; whnf)) ?_
                  refine L.nil ?_
                  refine J.seq ?_
                  refine J.region ?_
                  refine L.va rfl (X.move (by conv => lhs; whnf)) ?_
                  refine L.va rfl (X.not rfl) ?_
                  refine L.va rfl (X.move (by conv => lhs; whnf)) ?_
                  refine L.va rfl (X.move (by conv => lhs; whnf)) ?_
                  refine L.va rfl (X.not rfl) ?_
                  refine L.va rfl (X.move (by conv => lhs; whnf)) ?_
                  -- case t57
                  refine L.caseB (k := 57) rfl (fun a5 => ?_) (fun a5 => ?_)
                  · have a5' : ¬ ch s i = 95 := nd_t a5
                    have hE := hbad (by omega)
                    rw [hE]
                    refine L.no rfl ?_
                    refine L.no rfl ?_
                    refine L.va rfl (X.pickT rfl (by conv => lhs; whnf)) ?_
                    refine L.va rfl (X.pickT rfl (by conv => lhs; whnf)) ?_
                    refine L.nil ?_
                    -- cond
                    refine J.iteT rfl ?_
                    refine J.seq ?_
                    refine J.region ?_
                    refine L.va rfl (X.assign (by conv => lhs; whnf)) ?_
                    refine L.nil ?_
                    -- ret
                    refine J.ret ?_
                    refine inB_ret <|  thn_ret <|  thn_ret <|  inB_ret <|  thn_ret <| ?_
                    refine fin1 ?_
                    exact ⟨rfl, he⟩
                  · have a5' : ch s i = 95 := nd_f a5
                    refine L.va rfl (X.move (by conv => lhs; whnf)) ?_
                    refine L.va rfl (X.eql rfl rfl) ?_
                    refine L.va rfl (X.pickF rfl (by conv => lhs; whnf)) ?_
                    refine L.va rfl (X.pickT rfl (by conv => lhs; whnf)) ?_
                    refine L.nil ?_
                    -- cond
                    refine J.dec rfl (fun a6 => ?_) (fun a6 => ?_)
                    · have hE := hbad (by omega)
                      rw [hE]
                      refine J.seq ?_
                      refine J.region ?_
                      refine L.va rfl (X.assign (by conv => lhs; whnf)) ?_
                      refine L.nil ?_
                      -- ret
                      refine J.ret ?_
                      refine inB_ret <|  thn_ret <|  thn_ret <|  inB_ret <|  thn_ret <| ?_
                      refine fin1 ?_
                      exact ⟨rfl, he⟩
                    · refine J.skip ?_
                      refine J.region ?_
                      refine L.va rfl (X.move (by conv => lhs; whnf)) ?_
                      refine L.va rfl (X.add rfl rfl (by omega)) ?_
                      refine L.va rfl (X.assign (by conv => lhs; whnf)) ?_
                      refine L.nil ?_
                      -- loopend
                      refine ⟨i + 1, At1 (by first | rfl | exact at_int rfl (by omega) | exact at_slice rfl (by omega) | exact at_int rfl (by simp)), (by (iterate 49 refine Agr.lk rfl ?_); exact Agr.lk rfl (Agr.hav rfl Agr.rfl')), ?_⟩
                      exact ⟨⟨rfl, by omega, hnext (by omega)⟩, by omega⟩
              · refine L.no rfl ?_
                refine L.no rfl ?_
                refine L.no rfl ?_
                refine L.no rfl ?_
                refine L.va rfl (X.pickF rfl (by conv => lhs; whnf)) ?_
                refine L.va rfl (X.move (by conv => lhs; whnf)) ?_
                refine L.va rfl (X.move (by conv => lhs; whnf)) ?_
                refine L.va rfl (X.move (by conv => lhs; whnf)) ?_
                refine L.va rfl (X.indexStr rfl rfl Try.underlying9 (by omega)) ?_
                refine L.va rfl (X.eql rfl rfl) ?_
                refine L.va rfl (X.pickF rfl (by conv => lhs; whnf)) ?_
                refine L.va rfl (X.assign (by conv => lhs; whnf)) ?_
                refine L.nil ?_
                refine J.seq ?_
                refine J.region ?_
                refine L.va rfl (X.move (by conv => lhs; whnf)) ?_
                refine L.va rfl (X.not rfl) ?_
                refine L.va rfl (X.move (by conv => lhs; whnf)) ?_
                refine L.va rfl (X.move (by conv => lhs; whnf)) ?_
                refine L.va rfl (X.not rfl) ?_
                refine L.va rfl (X.move (by conv => lhs; whnf)) ?_
                -- case t57
                refine L.caseB (k := 57) rfl (fun a5 => ?_) (fun a5 => ?_)
                · have a5' : ¬ ch s i = 95 := nd_t a5
                  have hE := hbad (by omega)
                  rw [hE]
                  refine L.no rfl ?_
                  refine L.no rfl ?_
                  refine L.va rfl (X.pickT rfl (by conv => lhs; whnf)) ?_
                  refine L.va rfl (X.pickT rfl (by conv => lhs; whnf)) ?_
                  refine L.nil ?_
                  -- cond
                  refine J.iteT rfl ?_
                  refine J.seq ?_
                  refine J.region ?_
                  refine L.va rfl (X.assign (by conv => lhs; whnf)) ?_
                  refine L.nil ?_
                  -- ret
                  refine J.ret ?_
                  refine inB_ret <|  thn_ret <|  thn_ret <|  inB_ret <|  thn_ret <| ?_
                  refine fin1 ?_
                  exact ⟨rfl, he⟩
                · have a5' : ch s i = 95 := nd_f a5
                  refine L.va rfl (X.move (by conv => lhs; whnf)) ?_
                  refine L.va rfl (X.eql rfl rfl) ?_
                  refine L.va rfl (X.pickF rfl (by conv => lhs; whnf)) ?_
                  refine L.va rfl (X.pickT rfl (by conv => lhs; whnf)) ?_
                  refine L.nil ?_
                  -- cond
                  refine J.dec rfl (fun a6 => ?_) (fun a6 => ?_)
                  · have hE := hbad (by omega)
                    rw [hE]
                    refine J.seq ?_
                    refine J.region ?_
                    refine L.va rfl (X.assign (by conv => lhs; whnf)) ?_
                    refine L.nil ?_
                    -- ret
                    refine J.ret ?_
                    refine inB_ret <|  thn_ret <|  thn_ret <|  inB_ret <|  thn_ret <| ?_
                    refine fin1 ?_
                    exact ⟨rfl, he⟩
                  · refine J.skip ?_
                    refine J.region ?_
                    refine L.va rfl (X.move (by conv => lhs; whnf)) ?_
                    refine L.va rfl (X.add rfl rfl (by omega)) ?_
                    refine L.va rfl (X.assign (by conv => lhs; whnf)) ?_
                    refine L.nil ?_
                    -- loopend
                    refine ⟨i + 1, At1 (by first | rfl | exact at_int rfl (by omega) | exact at_slice rfl (by omega) | exact at_int rfl (by simp)), (by (iterate 48 refine Agr.lk rfl ?_); exact Agr.lk rfl (Agr.hav rfl Agr.rfl')), ?_⟩
                    exact ⟨⟨rfl, by omega, hnext (by omega)⟩, by omega⟩
          · obtain rfl : i = s.size := by omega
            have hE : isS s = true := decide_eq_true ⟨by omega, by omega, by have := hP 0 (by omega); omega, fun j hj => by have := hP j hj; omega, hw⟩
            rw [hE]
            refine J.exit ?_
            refine J.seq ?_
            refine J.region ?_
            refine L.va rfl (X.assign (by conv => lhs; whnf)) ?_
            refine L.nil ?_
            -- ret
            refine J.ret ?_
            refine fin1 ?_
            exact ⟨rfl, he⟩
end Go.Proofs.Ytlipeplfjkgamaa
