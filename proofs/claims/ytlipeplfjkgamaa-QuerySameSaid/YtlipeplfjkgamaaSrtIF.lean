/-
  Go's slices.Sort at []int, walked: the whole.
-/
import Derived.Test.YtlipeplfjkgamaaSrtID
namespace Go.Proofs.Ytlipeplfjkgamaa
set_option maxRecDepth 100000
open Go.RowKit H
open Srt
set_option linter.unusedVariables false
theorem pdqI (A : Option Addr) (n c N : Nat) (hn : n ≤ 900000) : ∀ (h a : Nat) (lim : Int) (l : List Int) (w : World), w.ownsRow N 3 1 (.slice A n c) n (nums .i64 l) → a + h ≤ n → 0 ≤ lim → lim ≤ 100 → Lo l a (a + h) →
    Calls Try.prog 262 #[.slice A n c, .int .i64 (a : Int), .int .i64 ((a + h : Nat) : Int), .int .i64 lim] w fun e w' => e = .returned (.tuple #[]) ∧ ∃ l', SwI w w' A n c N a (a + h) l l' ∧ In l' a (a + h) := by
  intro h
  induction h using Nat.strongRecOn with
  | ind H IH =>
  intro a0 lim0 l w ho hf hl0 hl1 hLo0
  have hl : l.length = n := by have := ho.1; simpa [nums] using this
  refine enter Try.func262 rfl (by kernel_rfl) ?_
  refine J.seq ?_
  refine J.region ?_
  refine L.va rfl (X.assign (by conv => lhs; whnf)) ?_
  refine L.nil ?_
  refine J.seq ?_
  refine J.region ?_
  refine L.va rfl (X.assign (by conv => lhs; whnf)) ?_
  refine L.nil ?_
  refine J.block ?_
  -- loop
  refine J.loop (X := Nat × Nat × Int × Bool × Bool × List Int) [1, 2, 3, 8, 9, 10, 11, 12, 13, 14, 15, 16, 17, 18, 19, 20, 21, 22, 23, 24, 25, 26, 27, 28, 29, 30, 31, 32, 33, 34, 35, 36, 37, 38, 39, 40, 41, 42, 43, 44, 45, 46, 47, 48, 49, 50, 51, 52, 53, 54, 55, 56, 57, 58, 59, 60, 61, 62, 63, 64, 65, 66, 67, 68, 69, 70, 71, 72, 73, 74, 75, 76, 77, 78, 79, 80, 81, 82, 83, 84, 85, 86, 87, 88, 89, 90, 91, 92, 93, 94, 95, 96, 97, 98, 99, 100, 101, 102, 103, 104, 105, 106, 107, 108, 109, 110, 111, 112, 113, 114, 115, 116, 117, 118, 119, 120, 121, 122, 123, 124, 125, 126, 127, 128, 129, 130, 131, 132, 133] (fun (a, h, lim, wb, wp, m) => [(1, .int .i64 (a : Int)), (2, .int .i64 ((a + h : Nat) : Int)), (3, .int .i64 lim), (8, .bool wb), (9, .bool wp)]) (fun (a, h, lim, wb, wp, m) w' => a0 ≤ a ∧ a + h ≤ a0 + H ∧ 0 ≤ lim ∧ lim ≤ 100 ∧ SwI w w' A n c N a0 (a0 + H) l m ∧ Lo m a (a + h) ∧ (∀ m', Pr a (a + h) m m' → In m' a (a + h) → In m' a0 (a0 + H))) (fun (_, h, _) => h) ((a0, H, lim0, true, true, l)) (At5 (by first | rfl | exact at_int rfl (by omega) | exact at_slice rfl (by omega) | exact at_int rfl (by simp)) (by first | rfl | exact at_int rfl (by omega) | exact at_slice rfl (by omega) | exact at_int rfl (by simp)) (by first | rfl | exact at_int rfl (by omega) | exact at_slice rfl (by omega) | exact at_int rfl (by simp)) (by first | rfl | exact at_int rfl (by omega) | exact at_slice rfl (by omega) | exact at_int rfl (by simp)) (by first | rfl | exact at_int rfl (by omega) | exact at_slice rfl (by omega) | exact at_int rfl (by simp))) ?_ ?_
  · exact ⟨Nat.le_refl _, Nat.le_refl _, hl0, hl1, ⟨ho, grown_ext (Ext.refl _), .refl _⟩, hLo0, fun m' _ hI => hI⟩
  · rintro ⟨a, h, lim, wb, wp, m⟩ g w2 ⟨ha, hh, hm0, hm1, M, hLo, hK⟩
    have hml : m.length = n := by rw [M.p.len, hl]
    have eh : ((a + h : Nat) : Int) - (a : Int) = (h : Int) := by omega
    have hwide : ∀ {x y : List Int}, Pr a (a + h) x y → x.length = n → Pr a0 (a0 + H) x y := fun hp hx => hp.wide ha hh (by omega)
    refine J.block ?_
    refine J.seq ?_
    refine J.region ?_
    refine L.va rfl (X.move (by conv => lhs; whnf)) ?_
    refine L.va rfl (X.move (by conv => lhs; whnf)) ?_
    refine L.va rfl (X.sub rfl rfl (by omega)) ?_
    refine L.va rfl (X.assign (by conv => lhs; whnf)) ?_
    refine L.nil ?_
    -- until
    rw [eh]
    refine J.seq ?_
    refine J.seq ?_
    refine J.region ?_
    refine L.va rfl (X.move (by conv => lhs; whnf)) ?_
    refine L.va rfl (X.leq rfl rfl) ?_
    refine L.nil ?_
    -- cond
    refine J.dec rfl (fun h12 => ?_) (fun h12 => ?_)
    · have c1 := isortI A n c N a (a + h) m w2 M.o (by omega) (by omega) (by omega)
      refine J.seq ?_
      refine J.region ?_
      refine L.va rfl (X.move (by conv => lhs; whnf)) ?_
      refine L.va rfl (X.move (by conv => lhs; whnf)) ?_
      refine L.va rfl (X.move (by conv => lhs; whnf)) ?_
      -- callfn slices.insertionSortOrdered[int]
      refine L.call rfl en_287 rfl (c1) ?_
      rintro e w3 ⟨rfl, m', M', hI'⟩
      refine ⟨_, rfl, ?_⟩
      refine L.nil ?_
      -- ret
      refine J.ret ?_
      refine thn_ret <|  inB_ret <|  thn_ret <|  inB_ret <| ?_
      refine fin0 (.inl rfl) ?_
      exact ⟨rfl, m', ⟨M'.o, grb_trans M.g M'.g, M.p.trans (hwide M'.p hml)⟩, hK m' M'.p hI'⟩
    · refine J.skip ?_
      refine J.seq ?_
      refine J.seq ?_
      refine J.region ?_
      refine L.va rfl (X.move (by conv => lhs; whnf)) ?_
      refine L.va rfl (X.eql rfl rfl) ?_
      refine L.nil ?_
      -- cond
      refine J.dec rfl (fun hz => ?_) (fun hz => ?_)
      · have c1 := hsortI A n c N a h m w2 M.o (by omega) (by omega) (by omega)
        refine J.seq ?_
        refine J.region ?_
        refine L.va rfl (X.move (by conv => lhs; whnf)) ?_
        refine L.va rfl (X.move (by conv => lhs; whnf)) ?_
        refine L.va rfl (X.move (by conv => lhs; whnf)) ?_
        -- callfn slices.heapSortOrdered[int]
        refine L.call rfl en_288 rfl (c1) ?_
        rintro e w3 ⟨rfl, m', M', hI'⟩
        refine ⟨_, rfl, ?_⟩
        refine L.nil ?_
        -- ret
        refine J.ret ?_
        refine thn_ret <|  inB_ret <|  thn_ret <|  inB_ret <| ?_
        refine fin0 (.inl rfl) ?_
        exact ⟨rfl, m', ⟨M'.o, grb_trans M.g M'.g, M.p.trans (hwide M'.p hml)⟩, hK m' M'.p hI'⟩
      · refine J.skip ?_
        -- until
        refine J.cut (X := Int × List Int) [3, 34, 35, 36, 37, 38, 39, 40, 41] (fun (lim, m') => [(3, .int .i64 lim)]) (fun (lim, m') w' => 0 ≤ lim ∧ lim ≤ 100 ∧ SwI w2 w' A n c N a (a + h) m m') ?_ ?_
        · refine J.seq ?_
          refine J.region ?_
          refine L.va rfl (X.move (by conv => lhs; whnf)) ?_
          refine L.va rfl (X.not rfl) ?_
          refine L.nil ?_
          -- cond
          cases wb
          · refine J.iteT rfl ?_
            have c1 := breakpI A n c N a h m w2 M.o (by omega) hn (by omega)
            refine J.seq ?_
            refine J.region ?_
            refine L.va rfl (X.move (by conv => lhs; whnf)) ?_
            refine L.va rfl (X.move (by conv => lhs; whnf)) ?_
            refine L.va rfl (X.move (by conv => lhs; whnf)) ?_
            -- callfn slices.breakPatternsOrdered[int]
            refine L.call rfl en_289 rfl (c1) ?_
            rintro e w3 ⟨rfl, m', M'⟩
            refine ⟨_, rfl, ?_⟩
            refine L.nil ?_
            refine J.region ?_
            refine L.va rfl (X.move (by conv => lhs; whnf)) ?_
            refine L.va rfl (X.sub rfl rfl (by omega)) ?_
            refine L.va rfl (X.assign (by conv => lhs; whnf)) ?_
            refine L.nil ?_
            -- cutend
            refine ⟨(lim - 1, m'), At1 (by first | rfl | exact at_int rfl (by omega) | exact at_slice rfl (by omega) | exact at_int rfl (by simp)), (by (iterate 9 refine Agr.lk rfl ?_); exact Agr.rfl'), ?_⟩
            exact ⟨by omega, by omega, M'⟩
          · refine J.iteF rfl ?_
            refine J.skip ?_
            -- cutend
            refine ⟨(lim, m), At1 (by first | rfl | exact at_int rfl (by omega) | exact at_slice rfl (by omega) | exact at_int rfl (by simp)), (by (iterate 2 refine Agr.lk rfl ?_); exact Agr.rfl'), ?_⟩
            exact ⟨hm0, hm1, M.o, grown_ext (Ext.refl _), .refl _⟩
        · rintro ⟨lim, m1⟩ g w3 ⟨hm0, hm1, M1⟩
          have hml1 : m1.length = n := by rw [M1.p.len, hml]
          refine J.seq ?_
          refine J.region ?_
          refine L.va rfl (X.move (by conv => lhs; whnf)) ?_
          refine L.va rfl (X.move (by conv => lhs; whnf)) ?_
          refine L.va rfl (X.move (by conv => lhs; whnf)) ?_
          -- callfn slices.choosePivotOrdered[int]
          refine L.call rfl en_290 rfl (pivotI A n c N a h m1 w3 M1.o (by omega) hn (by omega)) ?_
          rintro e w4 ⟨p, k, rfl, hp1, hp2, hk2, he4⟩
          refine ⟨_, rfl, ?_⟩
          replace M1 := M1.up he4
          refine L.va rfl (X.move (by conv => lhs; whnf)) ?_
          refine L.va rfl (X.extract rfl rfl) ?_
          refine L.va rfl (X.extract rfl rfl) ?_
          refine L.va rfl (X.assign (by conv => lhs; whnf)) ?_
          refine L.va rfl (X.assign (by conv => lhs; whnf)) ?_
          refine L.nil ?_
          -- until
          refine J.cut (X := Nat × Nat × List Int) [11, 12, 49, 50, 51, 52, 53, 54, 55, 56, 57, 58, 59, 60] (fun (p, k, m') => [(11, .int .i64 (p : Int)), (12, .int .i64 (k : Int))]) (fun (p, k, m') w' => a ≤ p ∧ p < a + h ∧ SwI w2 w' A n c N a (a + h) m m') ?_ ?_
          · refine J.seq ?_
            refine J.region ?_
            refine L.va rfl (X.move (by conv => lhs; whnf)) ?_
            refine L.va rfl (X.eql rfl rfl) ?_
            refine L.nil ?_
            -- cond
            refine J.dec rfl (fun hk => ?_) (fun hk => ?_)
            · have c1 := reverseI A n c N a h m1 w4 M1.o (by omega) hn (by omega)
              refine J.seq ?_
              refine J.region ?_
              refine L.va rfl (X.move (by conv => lhs; whnf)) ?_
              refine L.va rfl (X.move (by conv => lhs; whnf)) ?_
              refine L.va rfl (X.move (by conv => lhs; whnf)) ?_
              -- callfn slices.reverseRangeOrdered[int]
              refine L.call rfl en_291 rfl (c1) ?_
              rintro e w5 ⟨rfl, m', M'⟩
              refine ⟨_, rfl, ?_⟩
              refine L.nil ?_
              refine J.seq ?_
              refine J.region ?_
              refine L.va rfl (X.move (by conv => lhs; whnf)) ?_
              refine L.va rfl (X.sub rfl rfl (by omega)) ?_
              refine L.va rfl (X.move (by conv => lhs; whnf)) ?_
              refine L.va rfl (X.move (by conv => lhs; whnf)) ?_
              refine L.va rfl (X.sub rfl rfl (by omega)) ?_
              refine L.va rfl (X.sub rfl rfl (by omega)) ?_
              refine L.va rfl (X.assign (by conv => lhs; whnf)) ?_
              refine L.nil ?_
              refine J.region ?_
              refine L.va rfl (X.assign (by conv => lhs; whnf)) ?_
              refine L.nil ?_
              -- cutend
              refine ⟨(a + h - 1 - (p - a), 1, m'), At2 (by first | rfl | exact at_int rfl (by omega) | exact at_slice rfl (by omega) | exact at_int rfl (by simp)) (by first | rfl | exact at_int rfl (by omega) | exact at_slice rfl (by omega) | exact at_int rfl (by simp)), (by (iterate 14 refine Agr.lk rfl ?_); exact Agr.rfl'), ?_⟩
              exact ⟨by omega, by omega, M'.o, grb_trans M1.g M'.g, M1.p.trans M'.p⟩
            · refine J.skip ?_
              -- cutend
              refine ⟨(p, k, m1), At2 (by first | rfl | exact at_int rfl (by omega) | exact at_slice rfl (by omega) | exact at_int rfl (by simp)) (by first | rfl | exact at_int rfl (by omega) | exact at_slice rfl (by omega) | exact at_int rfl (by simp)), (by (iterate 2 refine Agr.lk rfl ?_); exact Agr.rfl'), ?_⟩
              exact ⟨hp1, hp2, M1⟩
          · rintro ⟨p, k, m2⟩ g w5 ⟨hp1, hp2, M2⟩
            have hml2 : m2.length = n := by rw [M2.p.len, hml]
            have hLo2 := hLo.keep M2.p
            -- until
            refine J.cut (X := List Int) [61, 62, 63, 64, 65, 66, 67, 68, 69, 70, 71, 72] (fun _ => [(1, .int .i64 (a : Int))]) (fun m' w' => SwI w2 w' A n c N a (a + h) m m') ?_ ?_
            · refine J.seq ?_
              refine J.region ?_
              refine L.va rfl (X.move (by conv => lhs; whnf)) ?_
              refine L.va rfl (X.move (by conv => lhs; whnf)) ?_
              -- case t62
              cases wb
              · refine L.caseBF (k := 62) rfl (by rfl) ?_
                refine L.no rfl ?_
                refine L.va rfl (X.pickF rfl (by conv => lhs; whnf)) ?_
                refine L.va rfl (X.move (by conv => lhs; whnf)) ?_
                refine L.no rfl ?_
                refine L.no rfl ?_
                refine L.va rfl (X.pickF rfl (by conv => lhs; whnf)) ?_
                refine L.nil ?_
                -- cond
                refine J.iteF rfl ?_
                refine J.skip ?_
                -- cutend
                refine ⟨m2, At1 (by first | rfl | exact at_int rfl (by omega) | exact at_slice rfl (by omega) | exact at_int rfl (by simp)), (by (iterate 9 refine Agr.lk rfl ?_); exact Agr.rfl'), ?_⟩
                exact M2
              · refine L.caseBT (k := 62) rfl (by rfl) ?_
                refine L.va rfl (X.move (by conv => lhs; whnf)) ?_
                refine L.va rfl (X.pickT rfl (by conv => lhs; whnf)) ?_
                refine L.va rfl (X.move (by conv => lhs; whnf)) ?_
                -- case t65
                cases wp
                · refine L.caseBF (k := 65) rfl (by rfl) ?_
                  refine L.no rfl ?_
                  refine L.no rfl ?_
                  refine L.va rfl (X.pickF rfl (by conv => lhs; whnf)) ?_
                  refine L.nil ?_
                  -- cond
                  refine J.iteF rfl ?_
                  refine J.skip ?_
                  -- cutend
                  refine ⟨m2, At1 (by first | rfl | exact at_int rfl (by omega) | exact at_slice rfl (by omega) | exact at_int rfl (by simp)), (by (iterate 10 refine Agr.lk rfl ?_); exact Agr.rfl'), ?_⟩
                  exact M2
                · refine L.caseBT (k := 65) rfl (by rfl) ?_
                  refine L.va rfl (X.move (by conv => lhs; whnf)) ?_
                  refine L.va rfl (X.eql rfl rfl) ?_
                  refine L.va rfl (X.pickT rfl (by conv => lhs; whnf)) ?_
                  refine L.nil ?_
                  -- cond
                  refine J.dec rfl (fun hk1 => ?_) (fun hk1 => ?_)
                  · have c1 := partinsI A n c N a (a + h) m2 w5 M2.o (by omega) hn (by omega) hLo2
                    refine J.seq ?_
                    refine J.region ?_
                    refine L.va rfl (X.move (by conv => lhs; whnf)) ?_
                    refine L.va rfl (X.move (by conv => lhs; whnf)) ?_
                    refine L.va rfl (X.move (by conv => lhs; whnf)) ?_
                    -- callfn slices.partialInsertionSortOrdered[int]
                    refine L.call rfl en_292 rfl (c1) ?_
                    rintro e w6 ⟨m3, z, rfl, M3, hz3⟩
                    refine ⟨_, rfl, ?_⟩
                    refine L.nil ?_
                    -- cond
                    cases z
                    · refine J.iteF rfl ?_
                      refine J.skip ?_
                      -- cutend
                      refine ⟨m3, At1 (by first | rfl | exact at_int rfl (by omega) | exact at_slice rfl (by omega) | exact at_int rfl (by simp)), (by (iterate 14 refine Agr.lk rfl ?_); exact Agr.rfl'), ?_⟩
                      exact ⟨M3.o, grb_trans M2.g M3.g, M2.p.trans M3.p⟩
                    · refine J.iteT rfl ?_
                      -- ret
                      refine J.ret ?_
                      refine thn_ret <|  inB_ret <|  thn_ret <|  inB_ret <| ?_
                      refine fin0 (.inl rfl) ?_
                      exact ⟨rfl, m3, ⟨M3.o, grb_trans M.g (grb_trans M2.g M3.g), M.p.trans (hwide (M2.p.trans M3.p) hml)⟩, hK m3 (M2.p.trans M3.p) (hz3 rfl)⟩
                  · refine J.skip ?_
                    -- cutend
                    refine ⟨m2, At1 (by first | rfl | exact at_int rfl (by omega) | exact at_slice rfl (by omega) | exact at_int rfl (by simp)), (by (iterate 10 refine Agr.lk rfl ?_); exact Agr.rfl'), ?_⟩
                    exact M2
            · rintro m3 g w6 M3
              have hml3 : m3.length = n := by rw [M3.p.len, hml]
              have hLo3 := hLo.keep M3.p
              have hr := Reads.of_own M3.o
              have hA := hr.some_ (by omega)
              -- until
              refine J.cut (X := Unit) [1, 13, 73, 74, 75, 76, 77, 78, 79, 80, 81, 82, 83, 84, 85, 86, 87, 88, 89, 90, 91, 92, 93] (fun _ => [(1, .int .i64 (a : Int))]) (fun _ w' => Ext w6 w') ?_ ?_
              · refine J.seq ?_
                -- draw
                -- t79
                refine J.quiet mixed (by kernel_rfl) ?_
                refine Qt.va rfl (fun w' hw => X.move (by conv => lhs; whnf)) ?_
                refine Qt.va rfl (fun w' hw => X.gtr rfl rfl) ?_
                refine Qt.va rfl (fun w' hw => X.move (by conv => lhs; whnf)) ?_
                -- case t75
                refine Qt.caseDec (k := 75) rfl (fun h0 => ?_) (fun h0 => ?_)
                · refine Qt.va rfl (fun w' hw => X.move (by conv => lhs; whnf)) ?_
                  refine Qt.va rfl (fun w' hw => X.move (by conv => lhs; whnf)) ?_
                  refine Qt.va rfl (fun w' hw => X.sub rfl rfl (by omega)) ?_
                  refine Qt.va rfl (fun w' hw => X.index1eI (j := a - 1) rfl rfl (by omega) Try.underlying23 sz_3 hA (by omega)) ?_
                  refine Qt.va rfl (fun w' hw => X.load rfl sc_3 (by first | exact Ld.num (hr.ext hw) (by omega) | exact hA)) ?_
                  refine Qt.va rfl (fun w' hw => X.move (by conv => lhs; whnf)) ?_
                  refine Qt.va rfl (fun w' hw => X.move (by conv => lhs; whnf)) ?_
                  refine Qt.va rfl (fun w' hw => (by first | exact X.index1n rfl rfl Try.underlying23 sz_3 (by first | exact Option.some_ne_none _ | exact hr.some_ (by omega) | exact hA) (by omega) | exact X.index1 rfl rfl Try.underlying23 sz_3 (by first | exact Option.some_ne_none _ | exact hr.some_ (by omega) | exact hA) (by omega))) ?_
                  refine Qt.va rfl (fun w' hw => X.load rfl sc_3 (by first | exact Ld.num (hr.ext hw) (by omega) | exact hA)) ?_
                  -- callfn cmp.Less[int]
                  refine Qt.call rfl en_293 rfl (fun w' hw => calls_same hw (clessI (m3.getD (a - 1) 0) (m3.getD p 0) w')) ?_
                  refine Qt.va rfl (fun w' hw => X.not rfl) ?_
                  refine Qt.va rfl (fun w' hw => X.pickT rfl (by conv => lhs; whnf)) ?_
                  refine Qt.nil (fun w7 hq => ?_)
                  -- cond
                  by_cases hd : m3.getD (a - 1) 0 < m3.getD p 0
                  · rw [decide_eq_true hd]
                    refine J.iteF rfl ?_
                    refine J.skip ?_
                    -- cutend
                    refine ⟨(), At1 (by first | rfl | exact at_int rfl (by omega) | exact at_slice rfl (by omega) | exact at_int rfl (by simp)), (by (iterate 16 refine Agr.lk rfl ?_); exact Agr.rfl'), ?_⟩
                    exact hq
                  · rw [decide_eq_false hd]
                    have M7 := M3.up hq
                    have hv : ∀ k, a ≤ k → k < a + h → m3.getD p 0 ≤ m3.getD k 0 := fun k k1 k2 => by
                      have := hLo3 (by omega) k k1 k2
                      omega
                    have c1 := parteqI A n c N a (a + h) p m3 w7 M7.o (by omega) hn ⟨hp1, hp2⟩
                    refine J.iteT rfl ?_
                    refine J.seq ?_
                    refine J.region ?_
                    refine L.va rfl (X.move (by conv => lhs; whnf)) ?_
                    refine L.va rfl (X.move (by conv => lhs; whnf)) ?_
                    refine L.va rfl (X.move (by conv => lhs; whnf)) ?_
                    refine L.va rfl (X.move (by conv => lhs; whnf)) ?_
                    -- callfn slices.partitionEqualOrdered[int]
                    refine L.call rfl en_294 rfl (c1) ?_
                    rintro e w8 ⟨m4, q, rfl, M4, hq1, hq2, hq3, hq4⟩
                    refine ⟨_, rfl, ?_⟩
                    obtain ⟨r1, r2⟩ := rest_eq hq1 hq3 hq4 (M4.p.all (p := fun z => m3.getD p 0 ≤ z) hv) hq2
                    have hqb : q + (a + h - q) = a + h := by omega
                    have P4 := M3.p.trans M4.p
                    refine L.va rfl (X.assign (by conv => lhs; whnf)) ?_
                    refine L.nil ?_
                    refine J.seq ?_
                    refine J.region ?_
                    refine L.va rfl (X.move (by conv => lhs; whnf)) ?_
                    refine L.va rfl (X.assign (by conv => lhs; whnf)) ?_
                    refine L.nil ?_
                    refine J.exit ?_
                    -- loopend
                    refine ⟨(q, a + h - q, lim, wb, wp, m4), At5 (by first | rfl | exact at_int rfl (by omega) | exact at_slice rfl (by omega) | exact at_int rfl (by simp)) (by first | rfl | exact at_int rfl (by omega) | exact at_slice rfl (by omega) | exact at_int rfl (by simp)) (by first | rfl | exact at_int rfl (by omega) | exact at_slice rfl (by omega) | exact at_int rfl (by simp)) (by first | rfl | exact at_int rfl (by omega) | exact at_slice rfl (by omega) | exact at_int rfl (by simp)) (by first | rfl | exact at_int rfl (by omega) | exact at_slice rfl (by omega) | exact at_int rfl (by simp)), (by (iterate 24 refine Agr.lk rfl ?_); refine Agr.lk rfl ?_; refine Agr.hav rfl ?_; refine Agr.lk rfl ?_; refine Agr.hav rfl ?_; (iterate 9 refine Agr.lk rfl ?_); refine Agr.lk rfl ?_; refine Agr.hav rfl ?_; (iterate 8 refine Agr.lk rfl ?_); exact Agr.lk rfl (Agr.hav rfl Agr.rfl')), ?_⟩
                    refine ⟨⟨by omega, by omega, hm0, hm1, ⟨M4.o, grb_trans M.g (grb_trans M7.g M4.g), M.p.trans (hwide P4 hml)⟩, by rw [hqb]; exact r1, fun m' hP hI => ?_⟩, by show a + h - q < h; omega⟩
                    rw [hqb] at hP hI
                    exact hK m' (P4.trans (hP.wide (by omega) (Nat.le_refl _) (by rw [P4.len, hml]; omega))) (r2 m' hP hI)
                · skip
                  refine Qt.no rfl ?_
                  refine Qt.no rfl ?_
                  refine Qt.no rfl ?_
                  refine Qt.no rfl ?_
                  refine Qt.no rfl ?_
                  refine Qt.no rfl ?_
                  refine Qt.no rfl ?_
                  refine Qt.no rfl ?_
                  refine Qt.no rfl ?_
                  refine Qt.no rfl ?_
                  refine Qt.no rfl ?_
                  refine Qt.va rfl (fun w' hw => X.pickF rfl (by conv => lhs; whnf)) ?_
                  refine Qt.nil (fun w7 hq => ?_)
                  -- cond
                  refine J.iteF rfl ?_
                  refine J.skip ?_
                  -- cutend
                  refine ⟨(), At1 (by first | rfl | exact at_int rfl (by omega) | exact at_slice rfl (by omega) | exact at_int rfl (by simp)), (by (iterate 16 refine Agr.lk rfl ?_); exact Agr.rfl'), ?_⟩
                  exact hq
              · rintro ⟨⟩ g w7 he7
                have M7 := M3.up he7
                have c1 := partI A n c N a (a + h) p m3 w7 M7.o (by omega) hn ⟨hp1, hp2⟩
                refine J.seq ?_
                refine J.region ?_
                refine L.va rfl (X.move (by conv => lhs; whnf)) ?_
                refine L.va rfl (X.move (by conv => lhs; whnf)) ?_
                refine L.va rfl (X.move (by conv => lhs; whnf)) ?_
                refine L.va rfl (X.move (by conv => lhs; whnf)) ?_
                -- callfn slices.partitionOrdered[int]
                refine L.call rfl en_295 rfl (c1) ?_
                rintro e w8 ⟨m4, q, z, rfl, M4, hq1, hq2, hq3, hq4⟩
                refine ⟨_, rfl, ?_⟩
                have P4 := M3.p.trans M4.p
                have hml4 : m4.length = n := by rw [M4.p.len, hml3]
                have hLo4 := hLo.keep P4
                obtain ⟨d, rfl⟩ : ∃ d, q = a + d := ⟨q - a, by omega⟩
                refine L.va rfl (X.move (by conv => lhs; whnf)) ?_
                refine L.va rfl (X.extract rfl rfl) ?_
                refine L.va rfl (X.extract rfl rfl) ?_
                refine L.va rfl (X.assign (by conv => lhs; whnf)) ?_
                refine L.va rfl (X.assign (by conv => lhs; whnf)) ?_
                refine L.nil ?_
                refine J.seq ?_
                refine J.region ?_
                refine L.va rfl (X.move (by conv => lhs; whnf)) ?_
                refine L.va rfl (X.assign (by conv => lhs; whnf)) ?_
                refine L.nil ?_
                refine J.seq ?_
                refine J.region ?_
                refine L.va rfl (X.move (by conv => lhs; whnf)) ?_
                refine L.va rfl (X.move (by conv => lhs; whnf)) ?_
                refine L.va rfl (X.sub rfl rfl (by omega)) ?_
                refine L.va rfl (X.move (by conv => lhs; whnf)) ?_
                refine L.va rfl (X.move (by conv => lhs; whnf)) ?_
                refine L.va rfl (X.sub rfl rfl (by omega)) ?_
                refine L.va rfl (X.assign (by conv => lhs; whnf)) ?_
                refine L.va rfl (X.assign (by conv => lhs; whnf)) ?_
                refine L.nil ?_
                refine J.seq ?_
                refine J.region ?_
                refine L.va rfl (X.move (by conv => lhs; whnf)) ?_
                refine L.va rfl (X.quo rfl rfl (by omega)) ?_
                refine L.va rfl (X.assign (by conv => lhs; whnf)) ?_
                refine L.nil ?_
                refine J.seq ?_
                refine J.region ?_
                refine L.va rfl (X.move (by conv => lhs; whnf)) ?_
                refine L.va rfl (X.move (by conv => lhs; whnf)) ?_
                refine L.va rfl (X.lss rfl rfl) ?_
                refine L.nil ?_
                -- cond
                refine J.dec rfl (fun hlr => ?_) (fun hlr => ?_)
                · have c2 := IH d (by omega) a lim m4 w8 M4.o (by omega) hm0 hm1 (fun h0 k k1 k2 => hLo4 h0 k k1 (by omega))
                  refine J.seq ?_
                  refine J.region ?_
                  refine L.va rfl (X.move (by conv => lhs; whnf)) ?_
                  refine L.va rfl (X.move (by conv => lhs; whnf)) ?_
                  refine L.va rfl (X.geq rfl rfl) ?_
                  refine L.va rfl (X.assign (by conv => lhs; whnf)) ?_
                  refine L.nil ?_
                  refine J.seq ?_
                  refine J.region ?_
                  refine L.va rfl (X.move (by conv => lhs; whnf)) ?_
                  refine L.va rfl (X.move (by conv => lhs; whnf)) ?_
                  refine L.va rfl (X.move (by conv => lhs; whnf)) ?_
                  refine L.va rfl (X.move (by conv => lhs; whnf)) ?_
                  -- callfn slices.pdqsortOrdered[int]
                  refine L.call rfl en_262 rfl (c2) ?_
                  rintro e w9 ⟨rfl, m5, M5, hI5⟩
                  refine ⟨_, rfl, ?_⟩
                  obtain ⟨r1, r2⟩ := rest_right (by omega) hq3 hq4 M5.p hI5
                  have P5 := P4.trans (M5.p.wide (Nat.le_refl _) (show a + d ≤ a + h by omega) (by omega))
                  have hqb : a + d + 1 + (h - d - 1) = a + h := by omega
                  refine L.nil ?_
                  refine J.region ?_
                  refine L.va rfl (X.move (by conv => lhs; whnf)) ?_
                  refine L.va rfl (X.add rfl rfl (by omega)) ?_
                  refine L.va rfl (X.assign (by conv => lhs; whnf)) ?_
                  refine L.nil ?_
                  -- loopend
                  refine ⟨(a + d + 1, h - d - 1, lim, decide ((h : Int) / 8 ≤ ((a + d : Nat) : Int) - (a : Int)), z, m5), At5 (by first | rfl | exact at_int rfl (by omega) | exact at_slice rfl (by omega) | exact at_int rfl (by simp)) (by first | rfl | exact at_int rfl (by omega) | exact at_slice rfl (by omega) | exact at_int rfl (by simp)) (by first | rfl | exact at_int rfl (by omega) | exact at_slice rfl (by omega) | exact at_int rfl (by simp)) (by first | rfl | exact at_int rfl (by omega) | exact at_slice rfl (by omega) | exact at_int rfl (by simp)) (by first | rfl | exact at_int rfl (by omega) | exact at_slice rfl (by omega) | exact at_int rfl (by simp)), (by (iterate 38 refine Agr.lk rfl ?_); refine Agr.lk rfl ?_; refine Agr.hav rfl ?_; refine Agr.lk rfl ?_; refine Agr.hav rfl ?_; refine Agr.lk rfl ?_; refine Agr.hav rfl ?_; (iterate 9 refine Agr.lk rfl ?_); refine Agr.lk rfl ?_; refine Agr.hav rfl ?_; (iterate 8 refine Agr.lk rfl ?_); exact Agr.lk rfl (Agr.hav rfl Agr.rfl')), ?_⟩
                  refine ⟨⟨by omega, by omega, hm0, hm1, ⟨M5.o, grb_trans M.g (grb_trans M7.g (grb_trans M4.g M5.g)), M.p.trans (hwide P5 hml)⟩, by rw [hqb]; exact r1, fun m' hP hI => ?_⟩, by show h - d - 1 < h; omega⟩
                  rw [hqb] at hP hI
                  exact hK m' (P5.trans (hP.wide (by omega) (Nat.le_refl _) (by rw [P5.len, hml]; omega))) (r2 m' hP hI)
                · have hqb : a + d + 1 + (h - d - 1) = a + h := by omega
                  have c2 := IH (h - d - 1) (by omega) (a + d + 1) lim m4 w8 M4.o (by omega) hm0 hm1 (by
                    rw [hqb]
                    exact fun _ k k1 k2 => by rw [Nat.add_sub_cancel]; exact hq4 k (by omega) k2)
                  rw [hqb] at c2
                  refine J.seq ?_
                  refine J.region ?_
                  refine L.va rfl (X.move (by conv => lhs; whnf)) ?_
                  refine L.va rfl (X.move (by conv => lhs; whnf)) ?_
                  refine L.va rfl (X.geq rfl rfl) ?_
                  refine L.va rfl (X.assign (by conv => lhs; whnf)) ?_
                  refine L.nil ?_
                  refine J.seq ?_
                  refine J.region ?_
                  refine L.va rfl (X.move (by conv => lhs; whnf)) ?_
                  refine L.va rfl (X.move (by conv => lhs; whnf)) ?_
                  refine L.va rfl (X.add rfl rfl (by omega)) ?_
                  refine L.va rfl (X.move (by conv => lhs; whnf)) ?_
                  refine L.va rfl (X.move (by conv => lhs; whnf)) ?_
                  -- callfn slices.pdqsortOrdered[int]
                  refine L.call rfl en_262 rfl (c2) ?_
                  rintro e w9 ⟨rfl, m5, M5, hI5⟩
                  refine ⟨_, rfl, ?_⟩
                  obtain ⟨r1, r2⟩ := rest_left (by omega) hq3 hq4 hLo4 hq2 M5.p hI5
                  have P5 := P4.trans (M5.p.wide (show a ≤ a + d + 1 by omega) (Nat.le_refl _) (by omega))
                  refine L.nil ?_
                  refine J.region ?_
                  refine L.va rfl (X.move (by conv => lhs; whnf)) ?_
                  refine L.va rfl (X.assign (by conv => lhs; whnf)) ?_
                  refine L.nil ?_
                  -- loopend
                  refine ⟨(a, d, lim, decide ((h : Int) / 8 ≤ ((a + h : Nat) : Int) - ((a + d : Nat) : Int)), z, m5), At5 (by first | rfl | exact at_int rfl (by omega) | exact at_slice rfl (by omega) | exact at_int rfl (by simp)) (by first | rfl | exact at_int rfl (by omega) | exact at_slice rfl (by omega) | exact at_int rfl (by simp)) (by first | rfl | exact at_int rfl (by omega) | exact at_slice rfl (by omega) | exact at_int rfl (by simp)) (by first | rfl | exact at_int rfl (by omega) | exact at_slice rfl (by omega) | exact at_int rfl (by simp)) (by first | rfl | exact at_int rfl (by omega) | exact at_slice rfl (by omega) | exact at_int rfl (by simp)), (by (iterate 38 refine Agr.lk rfl ?_); refine Agr.lk rfl ?_; refine Agr.hav rfl ?_; refine Agr.lk rfl ?_; refine Agr.hav rfl ?_; refine Agr.lk rfl ?_; refine Agr.hav rfl ?_; (iterate 9 refine Agr.lk rfl ?_); refine Agr.lk rfl ?_; refine Agr.hav rfl ?_; (iterate 8 refine Agr.lk rfl ?_); exact Agr.lk rfl (Agr.hav rfl Agr.rfl')), ?_⟩
                  refine ⟨⟨ha, by omega, hm0, hm1, ⟨M5.o, grb_trans M.g (grb_trans M7.g (grb_trans M4.g M5.g)), M.p.trans (hwide P5 hml)⟩, r1, fun m' hP hI => ?_⟩, by show d < h; omega⟩
                  exact hK m' (P5.trans (hP.wide (Nat.le_refl _) (by omega) (by rw [P5.len, hml]; omega))) (r2 m' hP hI)
theorem sortI (A : Option Addr) (n c N : Nat) (l : List Int) (w : World) (ho : w.ownsRow N 3 1 (.slice A n c) n (nums .i64 l)) (hn : n ≤ 900000) :
    Calls Try.prog 230 #[.slice A n c] w fun e w' => e = .returned (.tuple #[]) ∧ ∃ l', w'.ownsRow N 3 1 (.slice A n c) n (nums .i64 l') ∧ w.grownBy w' (Value.ownBlock (.slice A n c)) ∧ l'.Perm l ∧ In l' 0 n := by
  refine enter Try.func230 rfl (by kernel_rfl) ?_
  refine J.seq ?_
  refine J.region ?_
  refine L.va rfl (X.move (by conv => lhs; whnf)) ?_
  refine L.va rfl (X.len rfl Try.underlying23) ?_
  refine L.va rfl (X.assign (by conv => lhs; whnf)) ?_
  refine L.nil ?_
  refine J.region ?_
  refine L.va rfl (X.move (by conv => lhs; whnf)) ?_
  refine L.va rfl (X.move (by conv => lhs; whnf)) ?_
  refine L.va rfl (X.move (by conv => lhs; whnf)) ?_
  refine L.va rfl ((by first | exact X.convU rfl is_3 Try.underlying255 (by omega) | exact X.convw rfl is_3 Try.underlying255)) ?_
  -- callfn math/bits.Len
  refine L.call rfl en_194 rfl (len_ n w (by omega)) ?_
  rintro e _ ⟨k, rfl, hk, _, rfl⟩
  refine ⟨_, rfl, ?_⟩
  have c1 := pdqI A n c N hn n 0 (k : Int) l w ho (by omega) (by omega) (by omega) (fun h => absurd h (by omega))
  rw [Nat.zero_add] at c1
  -- callfn slices.pdqsortOrdered[int]
  refine L.call rfl en_262 rfl (c1) ?_
  rintro e w1 ⟨rfl, l', M, hI⟩
  refine ⟨_, rfl, ?_⟩
  refine L.nil ?_
  -- end
  refine fin0 (.inr rfl) ?_
  exact ⟨rfl, l', M.o, M.g, M.p.perm, hI⟩
end Go.Proofs.Ytlipeplfjkgamaa
