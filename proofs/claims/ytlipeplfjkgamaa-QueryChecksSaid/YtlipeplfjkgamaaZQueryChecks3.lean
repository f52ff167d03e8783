import Derived.Lib.SliceRun
import Derived.Lib.Strings
import Derived.Test.YtlipeplfjkgamaaZQueryChecks2
/-
  What the law leans on, part 3: SrtIF, WClone, WNrmA, WNrmB, WNrmC, WNames, WNamesB, WNamesC, WNamesD, WNamesE, SchemaData, WSchA, WMasks, WSchB, WSchC, WSchD, SchPlain, WSchE, WSchF.
-/
namespace Go.Proofs.Ytlipeplfjkgamaa
set_option maxRecDepth 100000
open Go.RowKit H
open Srt
set_option linter.unusedVariables false
theorem pdqI (A : Option Addr) (n c N : Nat) (hn : n ≤ 900000) : ∀ (h a : Nat) (lim : Int) (l : List Int) (w : World), w.ownsRow N 3 1 (.slice A n c) n (nums .i64 l) → a + h ≤ n → 0 ≤ lim → lim ≤ 100 → Lo l a (a + h) →
    Calls Try.prog 262 #[.slice A n c, .int .i64 (a : Int), .int .i64 ((a + h : Nat) : Int), .int .i64 lim] w fun e w' => e = .returned (.tuple #[]) ∧ ∃ l', SwI w w' A n c N a (a + h) l l' ∧ In l' a (a + h) := by
  intro h
  induction h using Nat.strongRecOn with
  | ind H IH =>
  intro a0 lim0 l w ho hf hl0 hl1 hLo0
  have hl : l.length = n := by have := ho.1; simpa [nums] using this
  refine enter Try.func262 rfl (by kernel_rfl) ?_
  refine J.seq ?_
  refine J.region ?_
  refine L.va rfl (X.assign (by conv => lhs; whnf)) ?_
  refine L.nil ?_
  refine J.seq ?_
  refine J.region ?_
  refine L.va rfl (X.assign (by conv => lhs; whnf)) ?_
  refine L.nil ?_
  refine J.block ?_
  refine J.loop (X := Nat × Nat × Int × Bool × Bool × List Int) [1, 2, 3, 8, 9, 10, 11, 12, 13, 14, 15, 16, 17, 18, 19, 20, 21, 22, 23, 24, 25, 26, 27, 28, 29, 30, 31, 32, 33, 34, 35, 36, 37, 38, 39, 40, 41, 42, 43, 44, 45, 46, 47, 48, 49, 50, 51, 52, 53, 54, 55, 56, 57, 58, 59, 60, 61, 62, 63, 64, 65, 66, 67, 68, 69, 70, 71, 72, 73, 74, 75, 76, 77, 78, 79, 80, 81, 82, 83, 84, 85, 86, 87, 88, 89, 90, 91, 92, 93, 94, 95, 96, 97, 98, 99, 100, 101, 102, 103, 104, 105, 106, 107, 108, 109, 110, 111, 112, 113, 114, 115, 116, 117, 118, 119, 120, 121, 122, 123, 124, 125, 126, 127, 128, 129, 130, 131, 132, 133] (fun (a, h, lim, wb, wp, m) => [(1, .int .i64 (a : Int)), (2, .int .i64 ((a + h : Nat) : Int)), (3, .int .i64 lim), (8, .bool wb), (9, .bool wp)]) (fun (a, h, lim, wb, wp, m) w' => a0 ≤ a ∧ a + h ≤ a0 + H ∧ 0 ≤ lim ∧ lim ≤ 100 ∧ SwI w w' A n c N a0 (a0 + H) l m ∧ Lo m a (a + h) ∧ (∀ m', Pr a (a + h) m m' → In m' a (a + h) → In m' a0 (a0 + H))) (fun (_, h, _) => h) ((a0, H, lim0, true, true, l)) (At5 (by first | rfl | exact at_int rfl (by omega) | exact at_slice rfl (by omega) | exact at_int rfl (by simp)) (by first | rfl | exact at_int rfl (by omega) | exact at_slice rfl (by omega) | exact at_int rfl (by simp)) (by first | rfl | exact at_int rfl (by omega) | exact at_slice rfl (by omega) | exact at_int rfl (by simp)) (by first | rfl | exact at_int rfl (by omega) | exact at_slice rfl (by omega) | exact at_int rfl (by simp)) (by first | rfl | exact at_int rfl (by omega) | exact at_slice rfl (by omega) | exact at_int rfl (by simp))) ?_ ?_
  · exact ⟨Nat.le_refl _, Nat.le_refl _, hl0, hl1, ⟨ho, grown_ext (Ext.refl _), .refl _⟩, hLo0, fun m' _ hI => hI⟩
  · rintro ⟨a, h, lim, wb, wp, m⟩ g w2 ⟨ha, hh, hm0, hm1, M, hLo, hK⟩
    have hml : m.length = n := by rw [M.p.len, hl]
    have eh : ((a + h : Nat) : Int) - (a : Int) = (h : Int) := by omega
    have hwide : ∀ {x y : List Int}, Pr a (a + h) x y → x.length = n → Pr a0 (a0 + H) x y := fun hp hx => hp.wide ha hh (by omega)
    refine J.block ?_
    refine J.seq ?_
    refine J.region ?_
    refine L.va rfl (X.move (by conv => lhs; whnf)) ?_
    refine L.va rfl (X.move (by conv => lhs; whnf)) ?_
    refine L.va rfl (X.sub rfl rfl (by omega)) ?_
    refine L.va rfl (X.assign (by conv => lhs; whnf)) ?_
    refine L.nil ?_
    rw [eh]
    refine J.seq ?_
    refine J.seq ?_
    refine J.region ?_
    refine L.va rfl (X.move (by conv => lhs; whnf)) ?_
    refine L.va rfl (X.leq rfl rfl) ?_
    refine L.nil ?_
    refine J.dec rfl (fun h12 => ?_) (fun h12 => ?_)
    · have c1 := isortI A n c N a (a + h) m w2 M.o (by omega) (by omega) (by omega)
      refine J.seq ?_
      refine J.region ?_
      refine L.va rfl (X.move (by conv => lhs; whnf)) ?_
      refine L.va rfl (X.move (by conv => lhs; whnf)) ?_
      refine L.va rfl (X.move (by conv => lhs; whnf)) ?_
      refine L.call rfl en_287 rfl (c1) ?_
      rintro e w3 ⟨rfl, m', M', hI'⟩
      refine ⟨_, rfl, ?_⟩
      refine L.nil ?_
      refine J.ret ?_
      refine thn_ret <|  inB_ret <|  thn_ret <|  inB_ret <| ?_
      refine fin0 (.inl rfl) ?_
      exact ⟨rfl, m', ⟨M'.o, grb_trans M.g M'.g, M.p.trans (hwide M'.p hml)⟩, hK m' M'.p hI'⟩
    · refine J.skip ?_
      refine J.seq ?_
      refine J.seq ?_
      refine J.region ?_
      refine L.va rfl (X.move (by conv => lhs; whnf)) ?_
      refine L.va rfl (X.eql rfl rfl) ?_
      refine L.nil ?_
      refine J.dec rfl (fun hz => ?_) (fun hz => ?_)
      · have c1 := hsortI A n c N a h m w2 M.o (by omega) (by omega) (by omega)
        refine J.seq ?_
        refine J.region ?_
        refine L.va rfl (X.move (by conv => lhs; whnf)) ?_
        refine L.va rfl (X.move (by conv => lhs; whnf)) ?_
        refine L.va rfl (X.move (by conv => lhs; whnf)) ?_
        refine L.call rfl en_288 rfl (c1) ?_
        rintro e w3 ⟨rfl, m', M', hI'⟩
        refine ⟨_, rfl, ?_⟩
        refine L.nil ?_
        refine J.ret ?_
        refine thn_ret <|  inB_ret <|  thn_ret <|  inB_ret <| ?_
        refine fin0 (.inl rfl) ?_
        exact ⟨rfl, m', ⟨M'.o, grb_trans M.g M'.g, M.p.trans (hwide M'.p hml)⟩, hK m' M'.p hI'⟩
      · refine J.skip ?_
        refine J.cut (X := Int × List Int) [3, 34, 35, 36, 37, 38, 39, 40, 41] (fun (lim, m') => [(3, .int .i64 lim)]) (fun (lim, m') w' => 0 ≤ lim ∧ lim ≤ 100 ∧ SwI w2 w' A n c N a (a + h) m m') ?_ ?_
        · refine J.seq ?_
          refine J.region ?_
          refine L.va rfl (X.move (by conv => lhs; whnf)) ?_
          refine L.va rfl (X.not rfl) ?_
          refine L.nil ?_
          cases wb
          · refine J.iteT rfl ?_
            have c1 := breakpI A n c N a h m w2 M.o (by omega) hn (by omega)
            refine J.seq ?_
            refine J.region ?_
            refine L.va rfl (X.move (by conv => lhs; whnf)) ?_
            refine L.va rfl (X.move (by conv => lhs; whnf)) ?_
            refine L.va rfl (X.move (by conv => lhs; whnf)) ?_
            refine L.call rfl en_289 rfl (c1) ?_
            rintro e w3 ⟨rfl, m', M'⟩
            refine ⟨_, rfl, ?_⟩
            refine L.nil ?_
            refine J.region ?_
            refine L.va rfl (X.move (by conv => lhs; whnf)) ?_
            refine L.va rfl (X.sub rfl rfl (by omega)) ?_
            refine L.va rfl (X.assign (by conv => lhs; whnf)) ?_
            refine L.nil ?_
            refine ⟨(lim - 1, m'), At1 (by first | rfl | exact at_int rfl (by omega) | exact at_slice rfl (by omega) | exact at_int rfl (by simp)), (by (iterate 9 refine Agr.lk rfl ?_); exact Agr.rfl'), ?_⟩
            exact ⟨by omega, by omega, M'⟩
          · refine J.iteF rfl ?_
            refine J.skip ?_
            refine ⟨(lim, m), At1 (by first | rfl | exact at_int rfl (by omega) | exact at_slice rfl (by omega) | exact at_int rfl (by simp)), (by (iterate 2 refine Agr.lk rfl ?_); exact Agr.rfl'), ?_⟩
            exact ⟨hm0, hm1, M.o, grown_ext (Ext.refl _), .refl _⟩
        · rintro ⟨lim, m1⟩ g w3 ⟨hm0, hm1, M1⟩
          have hml1 : m1.length = n := by rw [M1.p.len, hml]
          refine J.seq ?_
          refine J.region ?_
          refine L.va rfl (X.move (by conv => lhs; whnf)) ?_
          refine L.va rfl (X.move (by conv => lhs; whnf)) ?_
          refine L.va rfl (X.move (by conv => lhs; whnf)) ?_
          refine L.call rfl en_290 rfl (pivotI A n c N a h m1 w3 M1.o (by omega) hn (by omega)) ?_
          rintro e w4 ⟨p, k, rfl, hp1, hp2, hk2, he4⟩
          refine ⟨_, rfl, ?_⟩
          replace M1 := M1.up he4
          refine L.va rfl (X.move (by conv => lhs; whnf)) ?_
          refine L.va rfl (X.extract rfl rfl) ?_
          refine L.va rfl (X.extract rfl rfl) ?_
          refine L.va rfl (X.assign (by conv => lhs; whnf)) ?_
          refine L.va rfl (X.assign (by conv => lhs; whnf)) ?_
          refine L.nil ?_
          refine J.cut (X := Nat × Nat × List Int) [11, 12, 49, 50, 51, 52, 53, 54, 55, 56, 57, 58, 59, 60] (fun (p, k, m') => [(11, .int .i64 (p : Int)), (12, .int .i64 (k : Int))]) (fun (p, k, m') w' => a ≤ p ∧ p < a + h ∧ SwI w2 w' A n c N a (a + h) m m') ?_ ?_
          · refine J.seq ?_
            refine J.region ?_
            refine L.va rfl (X.move (by conv => lhs; whnf)) ?_
            refine L.va rfl (X.eql rfl rfl) ?_
            refine L.nil ?_
            refine J.dec rfl (fun hk => ?_) (fun hk => ?_)
            · have c1 := reverseI A n c N a h m1 w4 M1.o (by omega) hn (by omega)
              refine J.seq ?_
              refine J.region ?_
              refine L.va rfl (X.move (by conv => lhs; whnf)) ?_
              refine L.va rfl (X.move (by conv => lhs; whnf)) ?_
              refine L.va rfl (X.move (by conv => lhs; whnf)) ?_
              refine L.call rfl en_291 rfl (c1) ?_
              rintro e w5 ⟨rfl, m', M'⟩
              refine ⟨_, rfl, ?_⟩
              refine L.nil ?_
              refine J.seq ?_
              refine J.region ?_
              refine L.va rfl (X.move (by conv => lhs; whnf)) ?_
              refine L.va rfl (X.sub rfl rfl (by omega)) ?_
              refine L.va rfl (X.move (by conv => lhs; whnf)) ?_
              refine L.va rfl (X.move (by conv => lhs; whnf)) ?_
              refine L.va rfl (X.sub rfl rfl (by omega)) ?_
              refine L.va rfl (X.sub rfl rfl (by omega)) ?_
              refine L.va rfl (X.assign (by conv => lhs; whnf)) ?_
              refine L.nil ?_
              refine J.region ?_
              refine L.va rfl (X.assign (by conv => lhs; whnf)) ?_
              refine L.nil ?_
              refine ⟨(a + h - 1 - (p - a), 1, m'), At2 (by first | rfl | exact at_int rfl (by omega) | exact at_slice rfl (by omega) | exact at_int rfl (by simp)) (by first | rfl | exact at_int rfl (by omega) | exact at_slice rfl (by omega) | exact at_int rfl (by simp)), (by (iterate 14 refine Agr.lk rfl ?_); exact Agr.rfl'), ?_⟩
              exact ⟨by omega, by omega, M'.o, grb_trans M1.g M'.g, M1.p.trans M'.p⟩
            · refine J.skip ?_
              refine ⟨(p, k, m1), At2 (by first | rfl | exact at_int rfl (by omega) | exact at_slice rfl (by omega) | exact at_int rfl (by simp)) (by first | rfl | exact at_int rfl (by omega) | exact at_slice rfl (by omega) | exact at_int rfl (by simp)), (by (iterate 2 refine Agr.lk rfl ?_); exact Agr.rfl'), ?_⟩
              exact ⟨hp1, hp2, M1⟩
          · rintro ⟨p, k, m2⟩ g w5 ⟨hp1, hp2, M2⟩
            have hml2 : m2.length = n := by rw [M2.p.len, hml]
            have hLo2 := hLo.keep M2.p
            refine J.cut (X := List Int) [61, 62, 63, 64, 65, 66, 67, 68, 69, 70, 71, 72] (fun _ => [(1, .int .i64 (a : Int))]) (fun m' w' => SwI w2 w' A n c N a (a + h) m m') ?_ ?_
            · refine J.seq ?_
              refine J.region ?_
              refine L.va rfl (X.move (by conv => lhs; whnf)) ?_
              refine L.va rfl (X.move (by conv => lhs; whnf)) ?_
              cases wb
              · refine L.caseBF (k := 62) rfl (by rfl) ?_
                refine L.no rfl ?_
                refine L.va rfl (X.pickF rfl (by conv => lhs; whnf)) ?_
                refine L.va rfl (X.move (by conv => lhs; whnf)) ?_
                refine L.no rfl ?_
                refine L.no rfl ?_
                refine L.va rfl (X.pickF rfl (by conv => lhs; whnf)) ?_
                refine L.nil ?_
                refine J.iteF rfl ?_
                refine J.skip ?_
                refine ⟨m2, At1 (by first | rfl | exact at_int rfl (by omega) | exact at_slice rfl (by omega) | exact at_int rfl (by simp)), (by (iterate 9 refine Agr.lk rfl ?_); exact Agr.rfl'), ?_⟩
                exact M2
              · refine L.caseBT (k := 62) rfl (by rfl) ?_
                refine L.va rfl (X.move (by conv => lhs; whnf)) ?_
                refine L.va rfl (X.pickT rfl (by conv => lhs; whnf)) ?_
                refine L.va rfl (X.move (by conv => lhs; whnf)) ?_
                cases wp
                · refine L.caseBF (k := 65) rfl (by rfl) ?_
                  refine L.no rfl ?_
                  refine L.no rfl ?_
                  refine L.va rfl (X.pickF rfl (by conv => lhs; whnf)) ?_
                  refine L.nil ?_
                  refine J.iteF rfl ?_
                  refine J.skip ?_
                  refine ⟨m2, At1 (by first | rfl | exact at_int rfl (by omega) | exact at_slice rfl (by omega) | exact at_int rfl (by simp)), (by (iterate 10 refine Agr.lk rfl ?_); exact Agr.rfl'), ?_⟩
                  exact M2
                · refine L.caseBT (k := 65) rfl (by rfl) ?_
                  refine L.va rfl (X.move (by conv => lhs; whnf)) ?_
                  refine L.va rfl (X.eql rfl rfl) ?_
                  refine L.va rfl (X.pickT rfl (by conv => lhs; whnf)) ?_
                  refine L.nil ?_
                  refine J.dec rfl (fun hk1 => ?_) (fun hk1 => ?_)
                  · have c1 := partinsI A n c N a (a + h) m2 w5 M2.o (by omega) hn (by omega) hLo2
                    refine J.seq ?_
                    refine J.region ?_
                    refine L.va rfl (X.move (by conv => lhs; whnf)) ?_
                    refine L.va rfl (X.move (by conv => lhs; whnf)) ?_
                    refine L.va rfl (X.move (by conv => lhs; whnf)) ?_
                    refine L.call rfl en_292 rfl (c1) ?_
                    rintro e w6 ⟨m3, z, rfl, M3, hz3⟩
                    refine ⟨_, rfl, ?_⟩
                    refine L.nil ?_
                    cases z
                    · refine J.iteF rfl ?_
                      refine J.skip ?_
                      refine ⟨m3, At1 (by first | rfl | exact at_int rfl (by omega) | exact at_slice rfl (by omega) | exact at_int rfl (by simp)), (by (iterate 14 refine Agr.lk rfl ?_); exact Agr.rfl'), ?_⟩
                      exact ⟨M3.o, grb_trans M2.g M3.g, M2.p.trans M3.p⟩
                    · refine J.iteT rfl ?_
                      refine J.ret ?_
                      refine thn_ret <|  inB_ret <|  thn_ret <|  inB_ret <| ?_
                      refine fin0 (.inl rfl) ?_
                      exact ⟨rfl, m3, ⟨M3.o, grb_trans M.g (grb_trans M2.g M3.g), M.p.trans (hwide (M2.p.trans M3.p) hml)⟩, hK m3 (M2.p.trans M3.p) (hz3 rfl)⟩
                  · refine J.skip ?_
                    refine ⟨m2, At1 (by first | rfl | exact at_int rfl (by omega) | exact at_slice rfl (by omega) | exact at_int rfl (by simp)), (by (iterate 10 refine Agr.lk rfl ?_); exact Agr.rfl'), ?_⟩
                    exact M2
            · rintro m3 g w6 M3
              have hml3 : m3.length = n := by rw [M3.p.len, hml]
              have hLo3 := hLo.keep M3.p
              have hr := Reads.of_own M3.o
              have hA := hr.some_ (by omega)
              refine J.cut (X := Unit) [1, 13, 73, 74, 75, 76, 77, 78, 79, 80, 81, 82, 83, 84, 85, 86, 87, 88, 89, 90, 91, 92, 93] (fun _ => [(1, .int .i64 (a : Int))]) (fun _ w' => Ext w6 w') ?_ ?_
              · refine J.seq ?_
                refine J.quiet mixed (by kernel_rfl) ?_
                refine Qt.va rfl (fun w' hw => X.move (by conv => lhs; whnf)) ?_
                refine Qt.va rfl (fun w' hw => X.gtr rfl rfl) ?_
                refine Qt.va rfl (fun w' hw => X.move (by conv => lhs; whnf)) ?_
                refine Qt.caseDec (k := 75) rfl (fun h0 => ?_) (fun h0 => ?_)
                · refine Qt.va rfl (fun w' hw => X.move (by conv => lhs; whnf)) ?_
                  refine Qt.va rfl (fun w' hw => X.move (by conv => lhs; whnf)) ?_
                  refine Qt.va rfl (fun w' hw => X.sub rfl rfl (by omega)) ?_
                  refine Qt.va rfl (fun w' hw => X.index1eI (j := a - 1) rfl rfl (by omega) Try.underlying23 sz_3 hA (by omega)) ?_
                  refine Qt.va rfl (fun w' hw => X.load rfl sc_3 (by first | exact Ld.num (hr.ext hw) (by omega) | exact hA)) ?_
                  refine Qt.va rfl (fun w' hw => X.move (by conv => lhs; whnf)) ?_
                  refine Qt.va rfl (fun w' hw => X.move (by conv => lhs; whnf)) ?_
                  refine Qt.va rfl (fun w' hw => (by first | exact X.index1n rfl rfl Try.underlying23 sz_3 (by first | exact Option.some_ne_none _ | exact hr.some_ (by omega) | exact hA) (by omega) | exact X.index1 rfl rfl Try.underlying23 sz_3 (by first | exact Option.some_ne_none _ | exact hr.some_ (by omega) | exact hA) (by omega))) ?_
                  refine Qt.va rfl (fun w' hw => X.load rfl sc_3 (by first | exact Ld.num (hr.ext hw) (by omega) | exact hA)) ?_
                  refine Qt.call rfl en_293 rfl (fun w' hw => calls_same hw (clessI (m3.getD (a - 1) 0) (m3.getD p 0) w')) ?_
                  refine Qt.va rfl (fun w' hw => X.not rfl) ?_
                  refine Qt.va rfl (fun w' hw => X.pickT rfl (by conv => lhs; whnf)) ?_
                  refine Qt.nil (fun w7 hq => ?_)
                  by_cases hd : m3.getD (a - 1) 0 < m3.getD p 0
                  · rw [decide_eq_true hd]
                    refine J.iteF rfl ?_
                    refine J.skip ?_
                    refine ⟨(), At1 (by first | rfl | exact at_int rfl (by omega) | exact at_slice rfl (by omega) | exact at_int rfl (by simp)), (by (iterate 16 refine Agr.lk rfl ?_); exact Agr.rfl'), ?_⟩
                    exact hq
                  · rw [decide_eq_false hd]
                    have M7 := M3.up hq
                    have hv : ∀ k, a ≤ k → k < a + h → m3.getD p 0 ≤ m3.getD k 0 := fun k k1 k2 => by
                      have := hLo3 (by omega) k k1 k2
                      omega
                    have c1 := parteqI A n c N a (a + h) p m3 w7 M7.o (by omega) hn ⟨hp1, hp2⟩
                    refine J.iteT rfl ?_
                    refine J.seq ?_
                    refine J.region ?_
                    refine L.va rfl (X.move (by conv => lhs; whnf)) ?_
                    refine L.va rfl (X.move (by conv => lhs; whnf)) ?_
                    refine L.va rfl (X.move (by conv => lhs; whnf)) ?_
                    refine L.va rfl (X.move (by conv => lhs; whnf)) ?_
                    refine L.call rfl en_294 rfl (c1) ?_
                    rintro e w8 ⟨m4, q, rfl, M4, hq1, hq2, hq3, hq4⟩
                    refine ⟨_, rfl, ?_⟩
                    obtain ⟨r1, r2⟩ := rest_eq hq1 hq3 hq4 (M4.p.all (p := fun z => m3.getD p 0 ≤ z) hv) hq2
                    have hqb : q + (a + h - q) = a + h := by omega
                    have P4 := M3.p.trans M4.p
                    refine L.va rfl (X.assign (by conv => lhs; whnf)) ?_
                    refine L.nil ?_
                    refine J.seq ?_
                    refine J.region ?_
                    refine L.va rfl (X.move (by conv => lhs; whnf)) ?_
                    refine L.va rfl (X.assign (by conv => lhs; whnf)) ?_
                    refine L.nil ?_
                    refine J.exit ?_
                    refine ⟨(q, a + h - q, lim, wb, wp, m4), At5 (by first | rfl | exact at_int rfl (by omega) | exact at_slice rfl (by omega) | exact at_int rfl (by simp)) (by first | rfl | exact at_int rfl (by omega) | exact at_slice rfl (by omega) | exact at_int rfl (by simp)) (by first | rfl | exact at_int rfl (by omega) | exact at_slice rfl (by omega) | exact at_int rfl (by simp)) (by first | rfl | exact at_int rfl (by omega) | exact at_slice rfl (by omega) | exact at_int rfl (by simp)) (by first | rfl | exact at_int rfl (by omega) | exact at_slice rfl (by omega) | exact at_int rfl (by simp)), (by (iterate 24 refine Agr.lk rfl ?_); refine Agr.lk rfl ?_; refine Agr.hav rfl ?_; refine Agr.lk rfl ?_; refine Agr.hav rfl ?_; (iterate 9 refine Agr.lk rfl ?_); refine Agr.lk rfl ?_; refine Agr.hav rfl ?_; (iterate 8 refine Agr.lk rfl ?_); exact Agr.lk rfl (Agr.hav rfl Agr.rfl')), ?_⟩
                    refine ⟨⟨by omega, by omega, hm0, hm1, ⟨M4.o, grb_trans M.g (grb_trans M7.g M4.g), M.p.trans (hwide P4 hml)⟩, by rw [hqb]; exact r1, fun m' hP hI => ?_⟩, by show a + h - q < h; omega⟩
                    rw [hqb] at hP hI
                    exact hK m' (P4.trans (hP.wide (by omega) (Nat.le_refl _) (by rw [P4.len, hml]; omega))) (r2 m' hP hI)
                · skip
                  refine Qt.no rfl ?_
                  refine Qt.no rfl ?_
                  refine Qt.no rfl ?_
                  refine Qt.no rfl ?_
                  refine Qt.no rfl ?_
                  refine Qt.no rfl ?_
                  refine Qt.no rfl ?_
                  refine Qt.no rfl ?_
                  refine Qt.no rfl ?_
                  refine Qt.no rfl ?_
                  refine Qt.no rfl ?_
                  refine Qt.va rfl (fun w' hw => X.pickF rfl (by conv => lhs; whnf)) ?_
                  refine Qt.nil (fun w7 hq => ?_)
                  refine J.iteF rfl ?_
                  refine J.skip ?_
                  refine ⟨(), At1 (by first | rfl | exact at_int rfl (by omega) | exact at_slice rfl (by omega) | exact at_int rfl (by simp)), (by (iterate 16 refine Agr.lk rfl ?_); exact Agr.rfl'), ?_⟩
                  exact hq
              · rintro ⟨⟩ g w7 he7
                have M7 := M3.up he7
                have c1 := partI A n c N a (a + h) p m3 w7 M7.o (by omega) hn ⟨hp1, hp2⟩
                refine J.seq ?_
                refine J.region ?_
                refine L.va rfl (X.move (by conv => lhs; whnf)) ?_
                refine L.va rfl (X.move (by conv => lhs; whnf)) ?_
                refine L.va rfl (X.move (by conv => lhs; whnf)) ?_
                refine L.va rfl (X.move (by conv => lhs; whnf)) ?_
                refine L.call rfl en_295 rfl (c1) ?_
                rintro e w8 ⟨m4, q, z, rfl, M4, hq1, hq2, hq3, hq4⟩
                refine ⟨_, rfl, ?_⟩
                have P4 := M3.p.trans M4.p
                have hml4 : m4.length = n := by rw [M4.p.len, hml3]
                have hLo4 := hLo.keep P4
                obtain ⟨d, rfl⟩ : ∃ d, q = a + d := ⟨q - a, by omega⟩
                refine L.va rfl (X.move (by conv => lhs; whnf)) ?_
                refine L.va rfl (X.extract rfl rfl) ?_
                refine L.va rfl (X.extract rfl rfl) ?_
                refine L.va rfl (X.assign (by conv => lhs; whnf)) ?_
                refine L.va rfl (X.assign (by conv => lhs; whnf)) ?_
                refine L.nil ?_
                refine J.seq ?_
                refine J.region ?_
                refine L.va rfl (X.move (by conv => lhs; whnf)) ?_
                refine L.va rfl (X.assign (by conv => lhs; whnf)) ?_
                refine L.nil ?_
                refine J.seq ?_
                refine J.region ?_
                refine L.va rfl (X.move (by conv => lhs; whnf)) ?_
                refine L.va rfl (X.move (by conv => lhs; whnf)) ?_
                refine L.va rfl (X.sub rfl rfl (by omega)) ?_
                refine L.va rfl (X.move (by conv => lhs; whnf)) ?_
                refine L.va rfl (X.move (by conv => lhs; whnf)) ?_
                refine L.va rfl (X.sub rfl rfl (by omega)) ?_
                refine L.va rfl (X.assign (by conv => lhs; whnf)) ?_
                refine L.va rfl (X.assign (by conv => lhs; whnf)) ?_
                refine L.nil ?_
                refine J.seq ?_
                refine J.region ?_
                refine L.va rfl (X.move (by conv => lhs; whnf)) ?_
                refine L.va rfl (X.quo rfl rfl (by omega)) ?_
                refine L.va rfl (X.assign (by conv => lhs; whnf)) ?_
                refine L.nil ?_
                refine J.seq ?_
                refine J.region ?_
                refine L.va rfl (X.move (by conv => lhs; whnf)) ?_
                refine L.va rfl (X.move (by conv => lhs; whnf)) ?_
                refine L.va rfl (X.lss rfl rfl) ?_
                refine L.nil ?_
                refine J.dec rfl (fun hlr => ?_) (fun hlr => ?_)
                · have c2 := IH d (by omega) a lim m4 w8 M4.o (by omega) hm0 hm1 (fun h0 k k1 k2 => hLo4 h0 k k1 (by omega))
                  refine J.seq ?_
                  refine J.region ?_
                  refine L.va rfl (X.move (by conv => lhs; whnf)) ?_
                  refine L.va rfl (X.move (by conv => lhs; whnf)) ?_
                  refine L.va rfl (X.geq rfl rfl) ?_
                  refine L.va rfl (X.assign (by conv => lhs; whnf)) ?_
                  refine L.nil ?_
                  refine J.seq ?_
                  refine J.region ?_
                  refine L.va rfl (X.move (by conv => lhs; whnf)) ?_
                  refine L.va rfl (X.move (by conv => lhs; whnf)) ?_
                  refine L.va rfl (X.move (by conv => lhs; whnf)) ?_
                  refine L.va rfl (X.move (by conv => lhs; whnf)) ?_
                  refine L.call rfl en_262 rfl (c2) ?_
                  rintro e w9 ⟨rfl, m5, M5, hI5⟩
                  refine ⟨_, rfl, ?_⟩
                  obtain ⟨r1, r2⟩ := rest_right (by omega) hq3 hq4 M5.p hI5
                  have P5 := P4.trans (M5.p.wide (Nat.le_refl _) (show a + d ≤ a + h by omega) (by omega))
                  have hqb : a + d + 1 + (h - d - 1) = a + h := by omega
                  refine L.nil ?_
                  refine J.region ?_
                  refine L.va rfl (X.move (by conv => lhs; whnf)) ?_
                  refine L.va rfl (X.add rfl rfl (by omega)) ?_
                  refine L.va rfl (X.assign (by conv => lhs; whnf)) ?_
                  refine L.nil ?_
                  refine ⟨(a + d + 1, h - d - 1, lim, decide ((h : Int) / 8 ≤ ((a + d : Nat) : Int) - (a : Int)), z, m5), At5 (by first | rfl | exact at_int rfl (by omega) | exact at_slice rfl (by omega) | exact at_int rfl (by simp)) (by first | rfl | exact at_int rfl (by omega) | exact at_slice rfl (by omega) | exact at_int rfl (by simp)) (by first | rfl | exact at_int rfl (by omega) | exact at_slice rfl (by omega) | exact at_int rfl (by simp)) (by first | rfl | exact at_int rfl (by omega) | exact at_slice rfl (by omega) | exact at_int rfl (by simp)) (by first | rfl | exact at_int rfl (by omega) | exact at_slice rfl (by omega) | exact at_int rfl (by simp)), (by (iterate 38 refine Agr.lk rfl ?_); refine Agr.lk rfl ?_; refine Agr.hav rfl ?_; refine Agr.lk rfl ?_; refine Agr.hav rfl ?_; refine Agr.lk rfl ?_; refine Agr.hav rfl ?_; (iterate 9 refine Agr.lk rfl ?_); refine Agr.lk rfl ?_; refine Agr.hav rfl ?_; (iterate 8 refine Agr.lk rfl ?_); exact Agr.lk rfl (Agr.hav rfl Agr.rfl')), ?_⟩
                  refine ⟨⟨by omega, by omega, hm0, hm1, ⟨M5.o, grb_trans M.g (grb_trans M7.g (grb_trans M4.g M5.g)), M.p.trans (hwide P5 hml)⟩, by rw [hqb]; exact r1, fun m' hP hI => ?_⟩, by show h - d - 1 < h; omega⟩
                  rw [hqb] at hP hI
                  exact hK m' (P5.trans (hP.wide (by omega) (Nat.le_refl _) (by rw [P5.len, hml]; omega))) (r2 m' hP hI)
                · have hqb : a + d + 1 + (h - d - 1) = a + h := by omega
                  have c2 := IH (h - d - 1) (by omega) (a + d + 1) lim m4 w8 M4.o (by omega) hm0 hm1 (by
                    rw [hqb]
                    exact fun _ k k1 k2 => by rw [Nat.add_sub_cancel]; exact hq4 k (by omega) k2)
                  rw [hqb] at c2
                  refine J.seq ?_
                  refine J.region ?_
                  refine L.va rfl (X.move (by conv => lhs; whnf)) ?_
                  refine L.va rfl (X.move (by conv => lhs; whnf)) ?_
                  refine L.va rfl (X.geq rfl rfl) ?_
                  refine L.va rfl (X.assign (by conv => lhs; whnf)) ?_
                  refine L.nil ?_
                  refine J.seq ?_
                  refine J.region ?_
                  refine L.va rfl (X.move (by conv => lhs; whnf)) ?_
                  refine L.va rfl (X.move (by conv => lhs; whnf)) ?_
                  refine L.va rfl (X.add rfl rfl (by omega)) ?_
                  refine L.va rfl (X.move (by conv => lhs; whnf)) ?_
                  refine L.va rfl (X.move (by conv => lhs; whnf)) ?_
                  refine L.call rfl en_262 rfl (c2) ?_
                  rintro e w9 ⟨rfl, m5, M5, hI5⟩
                  refine ⟨_, rfl, ?_⟩
                  obtain ⟨r1, r2⟩ := rest_left (by omega) hq3 hq4 hLo4 hq2 M5.p hI5
                  have P5 := P4.trans (M5.p.wide (show a ≤ a + d + 1 by omega) (Nat.le_refl _) (by omega))
                  refine L.nil ?_
                  refine J.region ?_
                  refine L.va rfl (X.move (by conv => lhs; whnf)) ?_
                  refine L.va rfl (X.assign (by conv => lhs; whnf)) ?_
                  refine L.nil ?_
                  refine ⟨(a, d, lim, decide ((h : Int) / 8 ≤ ((a + h : Nat) : Int) - ((a + d : Nat) : Int)), z, m5), At5 (by first | rfl | exact at_int rfl (by omega) | exact at_slice rfl (by omega) | exact at_int rfl (by simp)) (by first | rfl | exact at_int rfl (by omega) | exact at_slice rfl (by omega) | exact at_int rfl (by simp)) (by first | rfl | exact at_int rfl (by omega) | exact at_slice rfl (by omega) | exact at_int rfl (by simp)) (by first | rfl | exact at_int rfl (by omega) | exact at_slice rfl (by omega) | exact at_int rfl (by simp)) (by first | rfl | exact at_int rfl (by omega) | exact at_slice rfl (by omega) | exact at_int rfl (by simp)), (by (iterate 38 refine Agr.lk rfl ?_); refine Agr.lk rfl ?_; refine Agr.hav rfl ?_; refine Agr.lk rfl ?_; refine Agr.hav rfl ?_; refine Agr.lk rfl ?_; refine Agr.hav rfl ?_; (iterate 9 refine Agr.lk rfl ?_); refine Agr.lk rfl ?_; refine Agr.hav rfl ?_; (iterate 8 refine Agr.lk rfl ?_); exact Agr.lk rfl (Agr.hav rfl Agr.rfl')), ?_⟩
                  refine ⟨⟨ha, by omega, hm0, hm1, ⟨M5.o, grb_trans M.g (grb_trans M7.g (grb_trans M4.g M5.g)), M.p.trans (hwide P5 hml)⟩, r1, fun m' hP hI => ?_⟩, by show d < h; omega⟩
                  exact hK m' (P5.trans (hP.wide (Nat.le_refl _) (by omega) (by rw [P5.len, hml]; omega))) (r2 m' hP hI)
theorem sortI (A : Option Addr) (n c N : Nat) (l : List Int) (w : World) (ho : w.ownsRow N 3 1 (.slice A n c) n (nums .i64 l)) (hn : n ≤ 900000) :
    Calls Try.prog 230 #[.slice A n c] w fun e w' => e = .returned (.tuple #[]) ∧ ∃ l', w'.ownsRow N 3 1 (.slice A n c) n (nums .i64 l') ∧ w.grownBy w' (Value.ownBlock (.slice A n c)) ∧ l'.Perm l ∧ In l' 0 n := by
  refine enter Try.func230 rfl (by kernel_rfl) ?_
  refine J.seq ?_
  refine J.region ?_
  refine L.va rfl (X.move (by conv => lhs; whnf)) ?_
  refine L.va rfl (X.len rfl Try.underlying23) ?_
  refine L.va rfl (X.assign (by conv => lhs; whnf)) ?_
  refine L.nil ?_
  refine J.region ?_
  refine L.va rfl (X.move (by conv => lhs; whnf)) ?_
  refine L.va rfl (X.move (by conv => lhs; whnf)) ?_
  refine L.va rfl (X.move (by conv => lhs; whnf)) ?_
  refine L.va rfl ((by first | exact X.convU rfl is_3 Try.underlying255 (by omega) | exact X.convw rfl is_3 Try.underlying255)) ?_
  refine L.call rfl en_194 rfl (len_ n w (by omega)) ?_
  rintro e _ ⟨k, rfl, hk, _, rfl⟩
  refine ⟨_, rfl, ?_⟩
  have c1 := pdqI A n c N hn n 0 (k : Int) l w ho (by omega) (by omega) (by omega) (fun h => absurd h (by omega))
  rw [Nat.zero_add] at c1
  refine L.call rfl en_262 rfl (c1) ?_
  rintro e w1 ⟨rfl, l', M, hI⟩
  refine ⟨_, rfl, ?_⟩
  refine L.nil ?_
  refine fin0 (.inr rfl) ?_
  exact ⟨rfl, l', M.o, M.g, M.p.perm, hI⟩
end Go.Proofs.Ytlipeplfjkgamaa
namespace Go.Proofs.Ytlipeplfjkgamaa
set_option maxRecDepth 100000
open Go.RowKit H
set_option linter.unusedVariables false
namespace H
theorem X.eqlNil {P : Program} {w : World} {f : Fr} {x y : Operand} {d : Option Tmp} {tx tz ty : TypeId} {pos : String} {aft : Array Edge} {g : Option (Nat × Bool)} {A : Option Addr} {n c e : Nat} (hx : ev f x = .slice A n c) (hy : ev f y = .slice none 0 0) (ht : P.underlying tx = some (.slice e)) : (execOp (ev f) ⟨d, .binOp .eql tx x y tz, ty, pos, aft, g⟩).run P w = .ok (.value (.bool A.isNone)) w :=
  X.bin hx hy (by simp [go_sem]) (by simp [binOp, show (Op.equal tx (.slice A n c) (.slice none 0 0)).run P w = .ok A.isNone w from run_equalIn_slice_nil w 9999 tx e A n c ht])
end H
theorem cloneI (A : Option Addr) (n c : Nat) (l : List Int) (w : World) (hr : Reads w w.heap.size 1 A n (nums .i64 l)) (hn : n ≤ 5000) : Calls Try.prog 142 #[.slice A n c] w fun e w' => ∃ A' c', e = .returned (.slice A' n c') ∧ w'.ownsRow w.heap.size 3 1 (.slice A' n c') n (nums .i64 l) ∧ Ext w w' := by
  have hl : l.length = n := by have := hr.1; simpa [nums] using this
  refine enter Try.func142 rfl (by kernel_rfl) ?_
  refine J.seq ?_
  refine J.region ?_
  refine L.va rfl (X.assign (by conv => lhs; whnf)) ?_
  refine L.nil ?_
  refine J.seq ?_
  refine J.seq ?_
  refine J.region ?_
  refine L.va rfl (X.move (by conv => lhs; whnf)) ?_
  refine L.va rfl (X.eqlNil rfl rfl Try.underlying23) ?_
  refine L.nil ?_
  rcases A with _ | a
  · obtain rfl : n = 0 := by
      apply Decidable.byContradiction
      intro h
      exact hr.some_ (by omega) rfl
    obtain rfl : l = [] := List.length_eq_zero_iff.1 hl
    refine J.iteT rfl ?_
    refine J.seq ?_
    refine J.region ?_
    refine L.va rfl (X.assign (by conv => lhs; whnf)) ?_
    refine L.nil ?_
    refine J.ret ?_
    refine thn_ret <| ?_
    refine fin1 ?_
    exact ⟨none, 0, rfl, own_nil _ _ _ _, Ext.refl _⟩
  · refine J.iteF rfl ?_
    refine J.skip ?_
    refine J.seq ?_
    refine J.region ?_
    refine L.bslice (vs := []) rfl Evs.nil rfl rfl rfl rfl Try.underlying23 sz_3 zr_3 (by decide) ?_
    intro b1 w1 hb1 hs1 hk1 he1
    have ho1 : w1.ownsRow w.heap.size 3 1 (.slice (some ⟨b1, 0, none⟩) 0 0) 0 (nums .i64 []) := blk_own1 (q := 0) (l := []) hk1 (by omega) (Nat.zero_le _) rfl
    have z1 := he1.le
    refine L.va rfl (X.move (by conv => lhs; whnf)) ?_
    refine L.appendQ (q := n) (ys := l) rfl rfl rfl Try.underlying23 el_3 (ho1) (hr.ext he1) (by omega) (by simp) (by unfold maxLen; omega) (by omega) ?_
    intro A2 c2 w2 ho2 hg2 hb2 hor2
    refine L.va rfl (X.assign (by conv => lhs; whnf)) ?_
    refine L.nil ?_
    refine J.ret ?_
    refine fin1 ?_
    exact ⟨A2, c2, rfl, ho2, he1.grw hg2 (by intro g hg; injection hg with hg; subst hg; show w.heap.size ≤ b1; omega)⟩
theorem own_max {w : World} {base e sz n : Nat} {v : Value} {xs : List Value} (h : w.ownsRow base e sz v n xs) : n ≤ maxLen := by
  rcases h.2 with ⟨_, rfl⟩ | ⟨b, cap, cur, rfl, _, _, h1, h2, _⟩
  · exact Nat.zero_le _
  · exact Nat.le_trans h1 h2
theorem own_lower {w : World} {base base' e sz n : Nat} {v : Value} {xs : List Value} (h : w.ownsRow base e sz v n xs) (hb : base' ≤ base) : w.ownsRow base' e sz v n xs := by
  refine ⟨h.1, ?_⟩
  rcases h.2 with h1 | ⟨b, cap, cur, h1, h2, h3⟩
  · exact .inl h1
  · exact .inr ⟨b, cap, cur, h1, Nat.le_trans hb h2, h3⟩
end Go.Proofs.Ytlipeplfjkgamaa
namespace Go.Proofs.Ytlipeplfjkgamaa
set_option maxRecDepth 100000
open Go.RowKit H
open Srt
set_option linter.unusedVariables false
theorem own_setCells {base e n cap g : Nat} : ∀ (vs : List Value) (o : Nat) (w : World) (xs : List Value), w.ownsRow base e 1 (.slice (some ⟨g, 0, none⟩) n cap) n xs →
    ∃ ys, (w.setCells g o vs).ownsRow base e 1 (.slice (some ⟨g, 0, none⟩) n cap) n ys ∧ w.grownBy (w.setCells g o vs) (some g) ∧ ys.take o = xs.take o
  | [], o, w, xs, h => ⟨xs, h, grown_ext (Ext.refl _), rfl⟩
  | v :: vs, o, w, xs, h => by
    obtain ⟨h1, g1⟩ := h.stored o v
    obtain ⟨ys, h2, g2, e2⟩ := own_setCells vs (o + 1) _ _ h1
    refine ⟨ys, h2, grb_trans g1 g2, ?_⟩
    have e3 := congrArg (List.take o) e2
    rw [List.take_take, List.take_take, Nat.min_eq_left (by omega)] at e3
    rw [e3, List.take_set_of_le (Nat.le_refl _)]
theorem L.clear {P : Program} {m : Nat} {ops rest : List Oper} {Q : Exit → Fr → World → Prop} {f : Fr} {w : World} {ty : TypeId} {pos : String} {aft : Array Edge} {g : Option (Nat × Bool)} {x : Operand} {t e base n c i : Nat} {A : Option Addr} {k : IntKind} {zs : List Int} {z : Value}
    (hg : wn ops f g = true) (hx : ev f x = .slice (if c = i then A else A.map (·.add (i * 1))) (n - i) (c - i)) (ht : P.underlying t = some (.slice e)) (hz : (P.info? e).bind (·.zero) = some z) (hzc : z.cells = #[z]) (h1 : z.oneCell' = true)
    (hown : w.ownsRow base e 1 (.slice A n c) n (nums k zs)) (hi : i < n)
    (h : ∀ w', w'.ownsRow base e 1 (.slice A i c) i (nums k (zs.take i)) → w.grownBy w' (Value.ownBlock (.slice A n c)) → L P m ops Q rest f w') :
    L P m ops Q (⟨none, .call { callee := .builtin .clear, args := #[x], argTypes := #[t] }, ty, pos, aft, g⟩ :: rest) f w := by
  have hnc := (own_bd hown).1
  obtain ⟨b, cap, hA, hb, hlt⟩ := hown.form (by omega)
  injection hA with hA _ hc
  subst hA hc
  rw [if_neg (by omega)] at hx
  have hx : ev f x = .slice (some ⟨b, i, none⟩) (n - i) (c - i) := by rw [hx]; simp [Addr.add_mid]
  obtain ⟨ys, o2, g2, e2⟩ := own_setCells (List.replicate (n - i) z) i w _ hown
  have hzr : ∀ w, (zeroValue e).run P w = .ok z w := fun w => by
    cases hi2 : P.info? e with
    | none => rw [hi2] at hz; cases hz
    | some inf => rw [hi2] at hz; have hz : inf.zero = some z := hz; simp [zeroValue, typeInfo, hi2, hz]
  have hcl : ∀ j, j < n - i → (w.cell? ⟨b, i + j, none⟩).isSome = true := fun j hj => by
    rw [hown.cellAt (i + j) (by omega), List.getElem?_eq_getElem (by rw [hown.1]; omega)]; rfl
  have hrun := Go.Lib.run_clear_slice (P := P) w t e ty z ht hzr hzc h1 b i (n - i) (c - i) (by omega) hcl (fun j hj => hown.frozenAt (i + j))
  refine L.val hg (w' := w.setCells b i (List.replicate (n - i) z)) (v := .tuple #[]) ?_ (h _ ?_ g2)
  · simp [hx, go_sem, hrun]
  · have := own_cut o2 (k := i) (by omega)
    rw [Nat.mul_one, e2] at this
    simpa [nums] using this
theorem has28 (A : Option Addr) (n c : Nat) (l : List Int) (x : Int) (w : World) (hr : Reads w w.heap.size 1 A n (nums .i64 l)) (hn : n ≤ maxLen) : Calls Try.prog 179 #[.slice A n c, .int .i64 x] w fun e w' => e = .returned (.bool (l.contains x)) ∧ w = w' := by
  have hl : l.length = n := by have := hr.1; simpa [nums] using this
  unfold maxLen at hn
  refine enter Try.func179 rfl (by kernel_rfl) ?_
  refine J.seq ?_
  refine J.region ?_
  refine L.va rfl (X.assign (by conv => lhs; whnf)) ?_
  refine L.nil ?_
  refine J.seq ?_
  refine J.seq ?_
  refine J.region ?_
  refine L.va rfl (X.assign (by conv => lhs; whnf)) ?_
  refine L.nil ?_
  refine J.block ?_
  refine J.loop (X := Nat) [4, 5, 6, 7, 8, 9, 10, 11, 12, 13, 14, 15, 16, 17] (fun i => [(5, .int .i64 (i : Int))]) (fun i w' => i ≤ n ∧ (∀ j, j < i → l.getD j 0 ≠ x) ∧ w = w') (fun i => n - i) (0) (At1 (by first | rfl | exact at_int rfl (by omega) | exact at_slice rfl (by omega) | exact at_int rfl (by simp))) ?_ ?_
  · exact ⟨Nat.zero_le _, fun j hj => absurd hj (by omega), rfl⟩
  · rintro i g w2 ⟨hi, hP, rfl⟩
    refine J.seq ?_
    refine J.seq ?_
    refine J.region ?_
    refine L.va rfl (X.move (by conv => lhs; whnf)) ?_
    refine L.va rfl (X.move (by conv => lhs; whnf)) ?_
    refine L.va rfl (X.len rfl Try.underlying23) ?_
    refine L.va rfl (X.lss rfl rfl) ?_
    refine L.nil ?_
    refine J.dec rfl (fun hlt => ?_) (fun hlt => ?_)
    · have hA := hr.some_ (by omega)
      refine J.skip ?_
      refine J.seq ?_
      refine J.block ?_
      refine J.seq ?_
      refine J.region ?_
      refine L.va rfl (X.move (by conv => lhs; whnf)) ?_
      refine L.va rfl (X.move (by conv => lhs; whnf)) ?_
      refine L.va rfl ((by first | exact X.index1n rfl rfl Try.underlying23 sz_3 (by first | exact Option.some_ne_none _ | exact hr.some_ (by omega) | exact hA) (by omega) | exact X.index1 rfl rfl Try.underlying23 sz_3 (by first | exact Option.some_ne_none _ | exact hr.some_ (by omega) | exact hA) (by omega))) ?_
      refine L.va rfl (X.load rfl sc_3 (by first | exact Ld.num hr (by omega) | exact hA)) ?_
      refine L.va rfl (X.move (by conv => lhs; whnf)) ?_
      refine L.va rfl (X.eql rfl rfl) ?_
      refine L.nil ?_
      refine J.dec rfl (fun he => ?_) (fun he => ?_)
      · refine J.seq ?_
        refine J.region ?_
        refine L.va rfl (X.assign (by conv => lhs; whnf)) ?_
        refine L.nil ?_
        refine J.ret ?_
        refine inB_ret <|  thn_ret <|  thn_ret <|  inB_ret <|  thn_ret <| ?_
        refine fin1 ?_
        have : x ∈ l := by
          rw [← he, List.getD, List.getElem?_eq_getElem (by omega)]
          exact List.getElem_mem _
        rw [List.contains_iff_mem.2 this]
        exact ⟨rfl, rfl⟩
      · refine J.skip ?_
        refine J.region ?_
        refine L.va rfl (X.move (by conv => lhs; whnf)) ?_
        refine L.va rfl (X.add rfl rfl (by omega)) ?_
        refine L.va rfl (X.assign (by conv => lhs; whnf)) ?_
        refine L.nil ?_
        refine ⟨i + 1, At1 (by first | rfl | exact at_int rfl (by omega) | exact at_slice rfl (by omega) | exact at_int rfl (by simp)), (by (iterate 13 refine Agr.lk rfl ?_); exact Agr.lk rfl (Agr.hav rfl Agr.rfl')), ?_⟩
        refine ⟨⟨by omega, fun j hj => ?_, rfl⟩, by omega⟩
        rcases Nat.lt_or_ge j i with h | h
        · exact hP j h
        · obtain rfl : j = i := by omega
          exact he
    · refine J.exit ?_
      refine J.seq ?_
      refine J.region ?_
      refine L.va rfl (X.assign (by conv => lhs; whnf)) ?_
      refine L.nil ?_
      refine J.ret ?_
      refine fin1 ?_
      have : l.contains x = false := by
        rw [Bool.eq_false_iff, Ne, List.contains_iff_mem]
        intro h
        obtain ⟨j, hj, e⟩ := List.getElem_of_mem h
        have := hP j (by omega)
        rw [List.getD, List.getElem?_eq_getElem hj] at this
        exact absurd e this
      rw [this]
      exact ⟨rfl, rfl⟩
end Go.Proofs.Ytlipeplfjkgamaa
namespace Go.Proofs.Ytlipeplfjkgamaa
set_option maxRecDepth 100000
open Go.RowKit H
open Srt
open Nrm (Up Dd Cmn)
set_option linter.unusedVariables false
theorem drop_getD (m : List Int) (i j : Nat) : (m.drop i).getD j 0 = m.getD (i + j) 0 := by rw [List.getD, List.getD, List.getElem?_drop]
theorem compactI (A : Option Addr) (n c N : Nat) (l : List Int) (w : World) (ho : w.ownsRow N 3 1 (.slice A n c) n (nums .i64 l)) (hs : In l 0 n) (hn : n ≤ 900000) :
    Calls Try.prog 231 #[.slice A n c] w fun e w' => ∃ k y, e = .returned (.slice A k c) ∧ w'.ownsRow N 3 1 (.slice A k c) k (nums .i64 y) ∧ w.grownBy w' (Value.ownBlock (.slice A n c)) ∧ Up y ∧ (∀ x, x ∈ y ↔ x ∈ l) := by
  have hl : l.length = n := by have := ho.1; simpa [nums] using this
  have hnc := (own_bd ho).1
  have hcm := (own_bd ho).2
  unfold maxLen at hcm
  refine enter Try.func231 rfl (by kernel_rfl) ?_
  refine J.seq ?_
  refine J.region ?_
  refine L.va rfl (X.assign (by conv => lhs; whnf)) ?_
  refine L.nil ?_
  refine J.seq ?_
  refine J.seq ?_
  refine J.region ?_
  refine L.va rfl (X.move (by conv => lhs; whnf)) ?_
  refine L.va rfl (X.len rfl Try.underlying23) ?_
  refine L.va rfl (X.lss rfl rfl) ?_
  refine L.nil ?_
  refine J.dec rfl (fun h2 => ?_) (fun h2 => ?_)
  · refine J.seq ?_
    refine J.region ?_
    refine L.va rfl (X.move (by conv => lhs; whnf)) ?_
    refine L.va rfl (X.assign (by conv => lhs; whnf)) ?_
    refine L.nil ?_
    refine J.ret ?_
    refine thn_ret <| ?_
    refine fin1 ?_
    refine ⟨n, l, rfl, ho, grown_ext (Ext.refl _), ?_, fun x => Iff.rfl⟩
    match l, hl with
    | [], _ => exact List.Pairwise.nil
    | [a], _ => exact List.pairwise_singleton _ _
    | a :: b :: t, hl => simp only [List.length_cons] at hl; omega
  · refine J.skip ?_
    refine J.seq ?_
    refine J.seq ?_
    refine J.region ?_
    refine L.va rfl (X.assign (by conv => lhs; whnf)) ?_
    refine L.nil ?_
    refine J.block ?_
    refine J.loop (X := Nat) [2, 3, 4, 5, 10, 11, 12, 13, 14, 15, 16, 17, 18, 19, 20, 21, 22, 23, 24, 25, 26, 27, 28, 29, 30, 31, 32, 33, 34, 35, 36, 37, 38, 39, 40, 41, 42, 43, 44, 45, 46, 47, 48, 49, 50, 51, 52, 53, 54, 55, 56, 57, 58, 59] (fun i => [(3, .int .i64 (i : Int))]) (fun i w' => 1 ≤ i ∧ i ≤ n ∧ Dd l i (l.take i) ∧ Ext w w') (fun i => n - i) (1) (At1 (by first | rfl | exact at_int rfl (by omega) | exact at_slice rfl (by omega) | exact at_int rfl (by simp))) ?_ ?_
    · exact ⟨Nat.le_refl _, by omega, Dd.one (by omega), Ext.refl _⟩
    · rintro i g w2 ⟨h1, hi, hD, he⟩
      have ho2 := ho.ext he
      have hr := Reads.of_own ho2
      have hA := hr.some_ (by omega)
      refine J.seq ?_
      refine J.seq ?_
      refine J.region ?_
      refine L.va rfl (X.move (by conv => lhs; whnf)) ?_
      refine L.va rfl (X.move (by conv => lhs; whnf)) ?_
      refine L.va rfl (X.len rfl Try.underlying23) ?_
      refine L.va rfl (X.lss rfl rfl) ?_
      refine L.nil ?_
      refine J.dec rfl (fun hlt => ?_) (fun hlt => ?_)
      · refine J.skip ?_
        refine J.seq ?_
        refine J.block ?_
        refine J.seq ?_
        refine J.quiet mixed (by kernel_rfl) ?_
        refine Qt.va rfl (fun w' hw => X.move (by conv => lhs; whnf)) ?_
        refine Qt.va rfl (fun w' hw => X.move (by conv => lhs; whnf)) ?_
        refine Qt.va rfl (fun w' hw => (by first | exact X.index1n rfl rfl Try.underlying23 sz_3 (by first | exact Option.some_ne_none _ | exact hr.some_ (by omega) | exact hA) (by omega) | exact X.index1 rfl rfl Try.underlying23 sz_3 (by first | exact Option.some_ne_none _ | exact hr.some_ (by omega) | exact hA) (by omega))) ?_
        refine Qt.va rfl (fun w' hw => X.load rfl sc_3 (by first | exact Ld.num (hr.ext hw) (by omega) | exact hA)) ?_
        refine Qt.va rfl (fun w' hw => X.move (by conv => lhs; whnf)) ?_
        refine Qt.va rfl (fun w' hw => X.move (by conv => lhs; whnf)) ?_
        refine Qt.va rfl (fun w' hw => X.sub rfl rfl (by omega)) ?_
        refine Qt.va rfl (fun w' hw => X.index1eI (j := i - 1) rfl rfl (by omega) Try.underlying23 sz_3 hA (by omega)) ?_
        refine Qt.va rfl (fun w' hw => X.load rfl sc_3 (by first | exact Ld.num (hr.ext hw) (by omega) | exact hA)) ?_
        refine Qt.va rfl (fun w' hw => X.eql rfl rfl) ?_
        refine Qt.nil (fun w3 hq => ?_)
        replace hr := hr.ext hq
        refine J.dec rfl (fun hd => ?_) (fun hd => ?_)
        · have hD1 := hD.same h1 (by omega) hd
          have ho3 := ho2.ext hq
          refine J.seq ?_
          refine J.region ?_
          refine L.va rfl (X.move (by conv => lhs; whnf)) ?_
          refine L.va rfl (X.move (by conv => lhs; whnf)) ?_
          refine L.va rfl ((by first | exact X.sliceFromn rfl rfl Try.underlying23 sz_3 (by omega) | exact X.sliceFrom rfl rfl Try.underlying23 sz_3 (by omega))) ?_
          refine L.va rfl (X.assign (by conv => lhs; whnf)) ?_
          refine L.nil ?_
          refine J.seq ?_
          refine J.seq ?_
          refine J.region ?_
          refine L.va rfl (X.assign (by conv => lhs; whnf)) ?_
          refine L.nil ?_
          refine J.block ?_
          refine J.loop (X := Nat × Nat × List Int) [3, 5, 29, 30, 31, 32, 33, 34, 35, 36, 37, 38, 39, 40, 41, 42, 43, 44, 45, 46, 47, 48, 49, 50, 51, 52, 53] (fun (k, q, m) => [(3, .int .i64 (k : Int)), (5, .int .i64 (q : Int))]) (fun (k, q, m) w' => 1 ≤ k ∧ k < i + q ∧ 1 ≤ q ∧ i + q ≤ n ∧ w'.ownsRow N 3 1 (.slice A n c) n (nums .i64 m) ∧ w.grownBy w' (Value.ownBlock (.slice A n c)) ∧ m.length = n ∧ Dd l (i + q) (m.take k) ∧ (∀ j, i + q - 1 ≤ j → m.getD j 0 = l.getD j 0)) (fun (_, q, _) => n - (i + q)) ((i, 1, l)) (At2 (by first | rfl | exact at_int rfl (by omega) | exact at_slice rfl (by omega) | exact at_int rfl (by simp)) (by first | rfl | exact at_int rfl (by omega) | exact at_slice rfl (by omega) | exact at_int rfl (by simp))) ?_ ?_
          · exact ⟨h1, Nat.lt_succ_self _, Nat.le_refl _, by omega, ho3, grown_ext (he.trans hq), hl, hD1, fun j _ => rfl⟩
          · rintro ⟨k, q, m⟩ g w4 ⟨k1, k2, k3, k4, ho4, hg4, hml, hDp, hsame⟩
            have hr4 := Reads.of_own ho4
            have hr5 := part_nums hr4 (i := i) (j := n) (by omega) (Nat.le_refl _) hnc
            rw [List.take_of_length_le (by rw [List.length_drop]; omega)] at hr5
            have hA5 : (if c = i then A else A.map (·.add (i * 1))) ≠ none := by
              rw [if_neg (by omega)]
              cases A with
              | none => exact absurd rfl hA
              | some a => exact fun h => by cases h
            refine J.seq ?_
            refine J.seq ?_
            refine J.region ?_
            refine L.va rfl (X.move (by conv => lhs; whnf)) ?_
            refine L.va rfl (X.move (by conv => lhs; whnf)) ?_
            refine L.va rfl (X.len rfl Try.underlying23) ?_
            refine L.va rfl (X.lss rfl rfl) ?_
            refine L.nil ?_
            refine J.dec rfl (fun hlt2 => ?_) (fun hlt2 => ?_)
            · have hlt2 : i + q < n := by omega
              refine J.skip ?_
              refine J.seq ?_
              refine J.block ?_
              refine J.seq ?_
              refine J.quiet mixed (by kernel_rfl) ?_
              refine Qt.va rfl (fun w' hw => X.move (by conv => lhs; whnf)) ?_
              refine Qt.va rfl (fun w' hw => X.move (by conv => lhs; whnf)) ?_
              refine Qt.va rfl (fun w' hw => (by first | exact X.index1n rfl rfl Try.underlying23 sz_3 (by first | exact Option.some_ne_none _ | exact hr5.some_ (by omega) | exact hA5) (by omega) | exact X.index1 rfl rfl Try.underlying23 sz_3 (by first | exact Option.some_ne_none _ | exact hr5.some_ (by omega) | exact hA5) (by omega))) ?_
              refine Qt.va rfl (fun w' hw => X.load rfl sc_3 (by first | exact Ld.num (hr5.ext hw) (by omega) | exact hA5)) ?_
              refine Qt.va rfl (fun w' hw => X.move (by conv => lhs; whnf)) ?_
              refine Qt.va rfl (fun w' hw => X.move (by conv => lhs; whnf)) ?_
              refine Qt.va rfl (fun w' hw => X.sub rfl rfl (by omega)) ?_
              refine Qt.va rfl (fun w' hw => X.index1eI (j := q - 1) rfl rfl (by omega) Try.underlying23 sz_3 hA5 (by omega)) ?_
              refine Qt.va rfl (fun w' hw => X.load rfl sc_3 (by first | exact Ld.num (hr5.ext hw) (by omega) | exact hA5)) ?_
              refine Qt.va rfl (fun w' hw => X.neq rfl rfl) ?_
              refine Qt.nil (fun w5 hq5 => ?_)
              replace hr5 := hr5.ext hq5
              rw [drop_getD, drop_getD, show i + (q - 1) = i + q - 1 by omega, hsame _ (by omega), hsame _ (Nat.le_refl _)]
              have hs5 := hs (i + q - 1) (i + q) (by omega) (by omega) hlt2
              have ho5 := ho4.ext hq5
              refine J.ndec rfl (fun hne => ?_) (fun hne => ?_)
              · skip
                refine J.seq ?_
                refine J.region ?_
                refine L.va rfl (X.move (by conv => lhs; whnf)) ?_
                refine L.va rfl (X.move (by conv => lhs; whnf)) ?_
                refine L.va rfl (X.move (by conv => lhs; whnf)) ?_
                refine L.va rfl (X.move (by conv => lhs; whnf)) ?_
                refine L.va rfl ((by first | exact X.index1n rfl rfl Try.underlying23 sz_3 (by first | exact Option.some_ne_none _ | exact hr5.some_ (by omega) | exact hA5) (by omega) | exact X.index1 rfl rfl Try.underlying23 sz_3 (by first | exact Option.some_ne_none _ | exact hr5.some_ (by omega) | exact hA5) (by omega))) ?_
                refine L.va rfl (X.load rfl sc_3 (by first | exact Ld.num hr5 (by omega) | exact hA5)) ?_
                refine L.va rfl (X.index1n rfl rfl Try.underlying23 sz_3 hA (by omega)) ?_
                refine L.storeON rfl rfl (by conv => lhs; whnf) sz_3 (ho5) (by omega) ?_
                intro w6 ho6 hg6 hb6 hs6
                rw [drop_getD, hsame _ (by omega)] at ho6
                refine L.nil ?_
                refine J.region ?_
                refine L.va rfl (X.move (by conv => lhs; whnf)) ?_
                refine L.va rfl (X.add rfl rfl (by omega)) ?_
                refine L.va rfl (X.assign (by conv => lhs; whnf)) ?_
                refine L.nil ?_
                refine J.region ?_
                refine L.va rfl (X.move (by conv => lhs; whnf)) ?_
                refine L.va rfl (X.add rfl rfl (by omega)) ?_
                refine L.va rfl (X.assign (by conv => lhs; whnf)) ?_
                refine L.nil ?_
                refine ⟨(k + 1, q + 1, m.set k (l.getD (i + q) 0)), At2 (by first | rfl | exact at_int rfl (by omega) | exact at_slice rfl (by omega) | exact at_int rfl (by simp)) (by first | rfl | exact at_int rfl (by omega) | exact at_slice rfl (by omega) | exact at_int rfl (by simp)), (by (iterate 27 refine Agr.lk rfl ?_); exact Agr.lk rfl (Agr.hav rfl Agr.rfl')), ?_⟩
                refine ⟨⟨by omega, by omega, by omega, by omega, ho6, grb_trans hg4 (grb_trans (grown_ext hq5) hg6), by rw [List.length_set]; exact hml, ?_, fun j hj => ?_⟩, by show n - (i + (q + 1)) < n - (i + q); omega⟩
                · have e : (m.set k (l.getD (i + q) 0)).take (k + 1) = m.take k ++ [l.getD (i + q) 0] := by
                    rw [Nrm.take_next _ 0 (by rw [List.length_set]; omega), List.take_set_of_le (Nat.le_refl _)]
                    congr 2
                    rw [List.getD, List.getElem?_set_self (by omega)]
                    rfl
                  rw [e]
                  exact hDp.new (by omega) (by omega)
                · have : k ≠ j := by omega
                  rw [List.getD, List.getElem?_set_ne this]
                  exact hsame j (by omega)
              · skip
                refine J.skip ?_
                refine J.region ?_
                refine L.va rfl (X.move (by conv => lhs; whnf)) ?_
                refine L.va rfl (X.add rfl rfl (by omega)) ?_
                refine L.va rfl (X.assign (by conv => lhs; whnf)) ?_
                refine L.nil ?_
                refine ⟨(k, q + 1, m), At2 (by first | rfl | exact at_int rfl (by omega) | exact at_slice rfl (by omega) | exact at_int rfl (by simp)) (by first | rfl | exact at_int rfl (by omega) | exact at_slice rfl (by omega) | exact at_int rfl (by simp)), (by (iterate 17 refine Agr.lk rfl ?_); exact Agr.lk rfl (Agr.hav rfl Agr.rfl')), ?_⟩
                refine ⟨⟨by omega, by omega, by omega, by omega, ho5, grb_trans hg4 (grown_ext hq5), hml, hDp.same (by omega) (by omega) (by omega), fun j hj => hsame j (by omega)⟩, by show n - (i + (q + 1)) < n - (i + q); omega⟩
            · refine J.exit ?_
              refine J.seq ?_
              refine J.region ?_
              refine L.va rfl (X.move (by conv => lhs; whnf)) ?_
              refine L.va rfl (X.move (by conv => lhs; whnf)) ?_
              refine L.va rfl ((by first | exact X.sliceFromn rfl rfl Try.underlying23 sz_3 (by omega) | exact X.sliceFrom rfl rfl Try.underlying23 sz_3 (by omega))) ?_
              refine L.clear (z := .int .i64 0) rfl rfl Try.underlying23 (by kernel_rfl) rfl rfl ho4 (show k < n by omega) ?_
              intro w5 ho5 hg5
              refine L.nil ?_
              refine J.seq ?_
              refine J.region ?_
              refine L.va rfl (X.move (by conv => lhs; whnf)) ?_
              refine L.va rfl (X.move (by conv => lhs; whnf)) ?_
              refine L.va rfl ((by first | exact X.sliceTon rfl rfl Try.underlying23 sz_3 (by omega) | exact X.sliceTo rfl rfl Try.underlying23 sz_3 (by omega))) ?_
              refine L.va rfl (X.assign (by conv => lhs; whnf)) ?_
              refine L.nil ?_
              refine J.ret ?_
              refine inB_ret <|  thn_ret <|  thn_ret <|  inB_ret <|  thn_ret <| ?_
              refine fin1 ?_
              refine ⟨k, m.take k, rfl, ho5, grb_trans hg4 hg5, hDp.up, fun x => hDp.mems (by omega) x⟩
        · skip
          refine J.skip ?_
          refine J.region ?_
          refine L.va rfl (X.move (by conv => lhs; whnf)) ?_
          refine L.va rfl (X.add rfl rfl (by omega)) ?_
          refine L.va rfl (X.assign (by conv => lhs; whnf)) ?_
          refine L.nil ?_
          refine ⟨i + 1, At1 (by first | rfl | exact at_int rfl (by omega) | exact at_slice rfl (by omega) | exact at_int rfl (by simp)), (by (iterate 17 refine Agr.lk rfl ?_); exact Agr.lk rfl (Agr.hav rfl Agr.rfl')), ?_⟩
          refine ⟨⟨by omega, by omega, ?_, he.trans hq⟩, by omega⟩
          rw [Nrm.take_next l 0 (by omega)]
          have := hs (i - 1) i (by omega) (by omega) (by omega)
          exact hD.new (by omega) (by omega)
      · refine J.exit ?_
        refine J.seq ?_
        refine J.region ?_
        refine L.va rfl (X.move (by conv => lhs; whnf)) ?_
        refine L.va rfl (X.assign (by conv => lhs; whnf)) ?_
        refine L.nil ?_
        refine J.ret ?_
        refine fin1 ?_
        obtain rfl : i = n := by omega
        rw [← hl, List.take_length, hl] at hD
        exact ⟨i, l, rfl, ho2, grown_ext he, hD.up, fun x => Iff.rfl⟩
end Go.Proofs.Ytlipeplfjkgamaa
namespace Go.Proofs.Ytlipeplfjkgamaa
set_option maxRecDepth 100000
open Go.RowKit H
open Srt
open Nrm (Up Dd Cmn)
set_option linter.unusedVariables false
theorem own_bot {w : World} {base : Nat} {e : TypeId} {size n : Nat} {v : Value} {xs : List Value} (h : w.ownsRow base e size v n xs) (g : Nat) (hg : v.ownBlock = some g) : base ≤ g := by
  rcases h.2 with ⟨rfl, _⟩ | ⟨b, cap, cur, rfl, hb, hh, _⟩
  · cases hg
  · obtain rfl : b = g := by injection hg
    exact hb
structure Cs where
  (A : Option Addr) (n c : Nat) (l : List Int)
namespace Cs
abbrev val (s : Cs) : Value := .slice s.A s.n s.c
structure At (s : Cs) (N : Nat) (w : World) : Prop where
  r : Reads w N 1 s.A s.n (nums .i64 s.l)
  c : s.n ≤ s.c
  m : s.c ≤ maxLen
theorem At.ext {f : Cs} {N : Nat} {w w' : World} (h : f.At N w) (he : Ext w w') : f.At N w' := ⟨h.r.ext he, h.c, h.m⟩
theorem At.low {f : Cs} {N B : Nat} {w w' : World} (h : f.At N w) (he : Below B w w') (hB : N ≤ B) : f.At N w' := ⟨h.r.low he hB, h.c, h.m⟩
theorem At.more {f : Cs} {N N' : Nat} {w : World} (h : f.At N w) (hN : N ≤ N') : f.At N' w := ⟨h.r.more hN, h.c, h.m⟩
theorem At.len {f : Cs} {N : Nat} {w : World} (h : f.At N w) : f.l.length = f.n := by have := h.r.1; simpa [nums] using this
theorem At.own {A : Option Addr} {n c N : Nat} {l : List Int} {w : World} {e : TypeId} (h : w.ownsRow N e 1 (.slice A n c) n (nums .i64 l)) : (Cs.mk A n c l).At w.heap.size w := ⟨Reads.of_own h, (own_bd h).1, (own_bd h).2⟩
def tl (s : Cs) : Cs := ⟨if s.c = 1 then s.A else s.A.map (·.add (1 * 1)), s.n - 1, s.c - 1, s.l.tail⟩
theorem At.tl {f : Cs} {N : Nat} {w : World} (h : f.At N w) (hn : 0 < f.n) : f.tl.At N w := by
  have hl := h.len
  have hc := h.c
  have hm := h.m
  have := part_nums h.r (i := 1) (j := f.n) hn (Nat.le_refl _) h.c
  rw [List.take_of_length_le (by rw [List.length_drop]; omega), List.drop_one] at this
  exact ⟨this, show f.n - 1 ≤ f.c - 1 by omega, show f.c - 1 ≤ maxLen by omega⟩
end Cs
theorem plainI (A : Option Addr) (n c : Nat) (l : List Int) (w : World) (hr : Reads w w.heap.size 1 A n (nums .i64 l)) (hn : n ≤ 5000) :
    Calls Try.prog 175 #[.slice A n c] w fun e w' => ∃ s : Cs, e = .returned s.val ∧ w'.ownsRow w.heap.size 3 1 s.val s.n (nums .i64 s.l) ∧ Ext w w' ∧ Up s.l ∧ (∀ x, x ∈ s.l ↔ x ∈ l) := by
  refine enter Try.func175 rfl (by kernel_rfl) ?_
  refine J.seq ?_
  refine J.region ?_
  refine L.va rfl (X.assign (by conv => lhs; whnf)) ?_
  refine L.nil ?_
  refine J.seq ?_
  refine J.region ?_
  refine L.va rfl (X.move (by conv => lhs; whnf)) ?_
  refine L.call rfl en_142 rfl (cloneI A n c l w hr hn) ?_
  rintro e w1 ⟨A1, c1, rfl, ho1, he1⟩
  refine ⟨_, rfl, ?_⟩
  refine L.va rfl (X.assign (by conv => lhs; whnf)) ?_
  refine L.nil ?_
  refine J.seq ?_
  refine J.region ?_
  refine L.va rfl (X.move (by conv => lhs; whnf)) ?_
  refine L.call rfl en_230 rfl (sortI A1 n c1 w.heap.size l w1 ho1 (by omega)) ?_
  rintro e w2 ⟨rfl, l2, ho2, hg2, hp2, hs2⟩
  refine ⟨_, rfl, ?_⟩
  refine L.nil ?_
  refine J.seq ?_
  refine J.region ?_
  refine L.va rfl (X.move (by conv => lhs; whnf)) ?_
  refine L.call rfl en_231 rfl (compactI A1 n c1 w.heap.size l2 w2 ho2 hs2 (by omega)) ?_
  rintro e w3 ⟨k, y, rfl, ho3, hg3, hu, hm⟩
  refine ⟨_, rfl, ?_⟩
  refine L.va rfl (X.assign (by conv => lhs; whnf)) ?_
  refine L.nil ?_
  refine J.ret ?_
  refine fin1 ?_
  exact ⟨⟨A1, k, c1, y⟩, rfl, ho3, he1.grw (grb_trans hg2 hg3) (fun g hg => own_bot ho1 g hg), hu, fun x => (hm x).trans hp2.mem_iff⟩
theorem commonI (a b : Cs) (w : World) (ha : a.At w.heap.size w) (hb : b.At w.heap.size w) (ua : Up a.l) (ub : Up b.l) (hn : a.n ≤ 5000) :
    Calls Try.prog 174 #[a.val, b.val] w fun e w' => ∃ s : Cs, e = .returned s.val ∧ w'.ownsRow w.heap.size 3 1 s.val s.n (nums .i64 s.l) ∧ Ext w w' ∧ Up s.l ∧ (∀ x, x ∈ s.l ↔ (x ∈ a.l ∧ x ∈ b.l)) := by
  have hma := ha.m
  have hca := ha.c
  have hmb := hb.m
  have hcb := hb.c
  unfold maxLen at hma hmb
  refine enter Try.func174 rfl (by kernel_rfl) ?_
  refine J.seq ?_
  refine J.region ?_
  refine L.va rfl (X.assign (by conv => lhs; whnf)) ?_
  refine L.nil ?_
  refine J.seq ?_
  refine J.region ?_
  refine L.va rfl (X.assign (by conv => lhs; whnf)) ?_
  refine L.nil ?_
  refine J.seq ?_
  refine J.block ?_
  refine J.loop (X := Cs × Cs × Cs) [0, 1, 5, 6, 7, 8, 9, 10, 11, 12, 13, 14, 15, 16, 17, 18, 19, 20, 21, 22, 23, 24, 25, 26, 27, 28, 29, 30, 31, 32, 33, 34, 35, 36, 37, 38, 39, 40, 41, 42, 43] (fun (u, v, o) => [(0, u.val), (1, v.val), (5, o.val)]) (fun (u, v, o) w' => u.At w.heap.size w' ∧ v.At w.heap.size w' ∧ w'.ownsRow w.heap.size 3 1 o.val o.n (nums .i64 o.l) ∧ Cmn a.l b.l u.l v.l o.l ∧ o.n + u.n ≤ a.n ∧ Ext w w') (fun (u, v, _) => u.n + v.n) ((a, b, ⟨none, 0, 0, []⟩)) (At3 (by first | rfl | exact at_int rfl (by omega) | exact at_slice rfl (by omega) | exact at_int rfl (by simp)) (by first | rfl | exact at_int rfl (by omega) | exact at_slice rfl (by omega) | exact at_int rfl (by simp)) (by first | rfl | exact at_int rfl (by omega) | exact at_slice rfl (by omega) | exact at_int rfl (by simp))) ?_ ?_
  · exact ⟨ha, hb, own_nilN _ _ _ _, Cmn.start ua ub, by show 0 + a.n ≤ a.n; omega, Ext.refl _⟩
  · rintro ⟨u, v, o⟩ g w2 ⟨hu, hv, ho, hC, hlen, he⟩
    have hmu := hu.m
    have hcu := hu.c
    have hlu := hu.len
    have hmv := hv.m
    have hcv := hv.c
    have hlv := hv.len
    unfold maxLen at hmu hmv
    have hru := hu.r
    have hrv := hv.r
    refine J.seq ?_
    refine J.seq ?_
    refine J.region ?_
    refine L.va rfl (X.move (by conv => lhs; whnf)) ?_
    refine L.va rfl (X.len rfl Try.underlying23) ?_
    refine L.va rfl (X.gtr rfl rfl) ?_
    refine L.va rfl (X.move (by conv => lhs; whnf)) ?_
    refine L.caseDec (k := 9) rfl (fun h1 => ?_) (fun h1 => ?_)
    · refine L.va rfl (X.move (by conv => lhs; whnf)) ?_
      refine L.va rfl (X.len rfl Try.underlying23) ?_
      refine L.va rfl (X.gtr rfl rfl) ?_
      refine L.va rfl (X.pickT rfl (by conv => lhs; whnf)) ?_
      refine L.nil ?_
      refine J.dec rfl (fun h2 => ?_) (fun h2 => ?_)
      · have hAu := hru.some_ (by omega)
        have hAv := hrv.some_ (by omega)
        obtain ⟨x, xt, ex⟩ : ∃ x xt, u.l = x :: xt := by
          match h : u.l with
          | [] => rw [h] at hlu; simp at hlu; omega
          | x :: xt => exact ⟨x, xt, rfl⟩
        obtain ⟨z, zt, ez⟩ : ∃ x xt, v.l = x :: xt := by
          match h : v.l with
          | [] => rw [h] at hlv; simp at hlv; omega
          | x :: xt => exact ⟨x, xt, rfl⟩
        rw [ex, ez] at hC
        have eu : u.tl.l = xt := by show u.l.tail = xt; rw [ex]; rfl
        have ew : v.tl.l = zt := by show v.l.tail = zt; rw [ez]; rfl
        rw [ex] at hru
        rw [ez] at hrv
        have hut := hu.tl (by omega)
        have hvt := hv.tl (by omega)
        refine J.skip ?_
        refine J.block ?_
        refine J.block ?_
        refine J.seq ?_
        refine J.quiet mixed (by kernel_rfl) ?_
        refine Qt.va rfl (fun w' hw => X.move (by conv => lhs; whnf)) ?_
        refine Qt.va rfl (fun w' hw => X.index1n (j := 0) rfl rfl Try.underlying23 sz_3 (by first | exact Option.some_ne_none _ | exact hru.some_ (by omega) | exact hrv.some_ (by omega) | exact hAu | exact hAv) (by omega)) ?_
        refine Qt.va rfl (fun w' hw => X.load rfl sc_3 (by first | exact Ld.num (hru.ext hw) (by omega) | exact Ld.num (hrv.ext hw) (by omega) | exact hAu | exact hAv)) ?_
        refine Qt.va rfl (fun w' hw => X.move (by conv => lhs; whnf)) ?_
        refine Qt.va rfl (fun w' hw => X.index1n (j := 0) rfl rfl Try.underlying23 sz_3 (by first | exact Option.some_ne_none _ | exact hru.some_ (by omega) | exact hrv.some_ (by omega) | exact hAu | exact hAv) (by omega)) ?_
        refine Qt.va rfl (fun w' hw => X.load rfl sc_3 (by first | exact Ld.num (hru.ext hw) (by omega) | exact Ld.num (hrv.ext hw) (by omega) | exact hAu | exact hAv)) ?_
        refine Qt.va rfl (fun w' hw => X.lss rfl rfl) ?_
        refine Qt.va rfl (fun w' hw => X.assign (by conv => lhs; whnf)) ?_
        refine Qt.nil (fun w3 hq => ?_)
        replace hru := hru.ext hq
        replace hrv := hrv.ext hq
        refine J.dec rfl (fun h3 => ?_) (fun h3 => ?_)
        · refine J.region ?_
          refine L.va rfl (X.move (by conv => lhs; whnf)) ?_
          refine L.va rfl ((by first | exact X.sliceFromn (i := 1) rfl rfl Try.underlying23 sz_3 (by omega) | exact X.sliceFrom rfl rfl Try.underlying23 sz_3 (by omega))) ?_
          refine L.va rfl (X.assign (by conv => lhs; whnf)) ?_
          refine L.nil ?_
          refine ⟨(u.tl, v, o), At3 (by first | rfl | exact at_int rfl (by omega) | exact at_slice rfl (by omega) | exact at_int rfl (by simp)) (by first | rfl | exact at_int rfl (by omega) | exact at_slice rfl (by omega) | exact at_int rfl (by simp)) (by first | rfl | exact at_int rfl (by omega) | exact at_slice rfl (by omega) | exact at_int rfl (by simp)), (by (iterate 20 refine Agr.lk rfl ?_); exact Agr.lk rfl (Agr.hav rfl Agr.rfl')), ?_⟩
          refine ⟨⟨hut.ext hq, hv.ext hq, ho.ext hq, ?_, ?_, he.trans hq⟩, ?_⟩
          · rw [eu, ez]; exact hC.left h3
          · show o.n + (u.n - 1) ≤ a.n; omega
          · show u.n - 1 + v.n < u.n + v.n; omega
        · refine J.seq ?_
          refine J.quiet mixed (by kernel_rfl) ?_
          refine Qt.va rfl (fun w' hw => X.move (by conv => lhs; whnf)) ?_
          refine Qt.va rfl (fun w' hw => X.index1n (j := 0) rfl rfl Try.underlying23 sz_3 (by first | exact Option.some_ne_none _ | exact hru.some_ (by omega) | exact hrv.some_ (by omega) | exact hAu | exact hAv) (by omega)) ?_
          refine Qt.va rfl (fun w' hw => X.load rfl sc_3 (by first | exact Ld.num (hru.ext hw) (by omega) | exact Ld.num (hrv.ext hw) (by omega) | exact hAu | exact hAv)) ?_
          refine Qt.va rfl (fun w' hw => X.move (by conv => lhs; whnf)) ?_
          refine Qt.va rfl (fun w' hw => X.index1n (j := 0) rfl rfl Try.underlying23 sz_3 (by first | exact Option.some_ne_none _ | exact hru.some_ (by omega) | exact hrv.some_ (by omega) | exact hAu | exact hAv) (by omega)) ?_
          refine Qt.va rfl (fun w' hw => X.load rfl sc_3 (by first | exact Ld.num (hru.ext hw) (by omega) | exact Ld.num (hrv.ext hw) (by omega) | exact hAu | exact hAv)) ?_
          refine Qt.va rfl (fun w' hw => X.gtr rfl rfl) ?_
          refine Qt.va rfl (fun w' hw => X.assign (by conv => lhs; whnf)) ?_
          refine Qt.nil (fun w4 hq4 => ?_)
          replace hru := hru.ext hq4
          replace hrv := hrv.ext hq4
          refine J.dec rfl (fun h4 => ?_) (fun h4 => ?_)
          · refine J.region ?_
            refine L.va rfl (X.move (by conv => lhs; whnf)) ?_
            refine L.va rfl ((by first | exact X.sliceFromn (i := 1) rfl rfl Try.underlying23 sz_3 (by omega) | exact X.sliceFrom rfl rfl Try.underlying23 sz_3 (by omega))) ?_
            refine L.va rfl (X.assign (by conv => lhs; whnf)) ?_
            refine L.nil ?_
            refine ⟨(u, v.tl, o), At3 (by first | rfl | exact at_int rfl (by omega) | exact at_slice rfl (by omega) | exact at_int rfl (by simp)) (by first | rfl | exact at_int rfl (by omega) | exact at_slice rfl (by omega) | exact at_int rfl (by simp)) (by first | rfl | exact at_int rfl (by omega) | exact at_slice rfl (by omega) | exact at_int rfl (by simp)), (by (iterate 28 refine Agr.lk rfl ?_); exact Agr.lk rfl (Agr.hav rfl Agr.rfl')), ?_⟩
            refine ⟨⟨(hu.ext hq).ext hq4, (hvt.ext hq).ext hq4, (ho.ext hq).ext hq4, ?_, hlen, (he.trans hq).trans hq4⟩, ?_⟩
            · rw [ew, ex]; exact hC.right h4
            · show u.n + (v.n - 1) < u.n + v.n; omega
          · have e0 : x = z := by
              have h3 : ¬ x < z := h3
              have h4 : ¬ z < x := h4
              omega
            subst e0
            have ho4 := (ho.ext hq).ext hq4
            have he4 := (he.trans hq).trans hq4
            have z4 := he4.le
            refine J.seq ?_
            refine J.region ?_
            refine L.va rfl (X.move (by conv => lhs; whnf)) ?_
            refine L.va rfl (X.move (by conv => lhs; whnf)) ?_
            refine L.va rfl (X.index1n (j := 0) rfl rfl Try.underlying23 sz_3 (by first | exact Option.some_ne_none _ | exact hru.some_ (by omega) | exact hrv.some_ (by omega) | exact hAu | exact hAv) (by omega)) ?_
            refine L.va rfl (X.load rfl sc_3 (by first | exact Ld.num hru (by omega) | exact Ld.num hrv (by omega) | exact hAu | exact hAv)) ?_
            refine L.bslice (vs := [_]) rfl (Evs.cons (by conv => lhs; whnf) Evs.nil) rfl rfl rfl rfl Try.underlying23 sz_3 zr_3 (by decide) ?_
            intro b5 w5 hb5 hs5 hk5 he5
            refine L.appendQ (q := o.n + 1) (ys := o.l ++ [x]) rfl rfl rfl Try.underlying23 el_3 (ho4.ext he5) ((blk_reads (q := 1) (l := nums .i64 [x]) hk5 hk5.lt rfl)) (by omega) (by simp) (by unfold maxLen; omega) (by omega) ?_
            intro A6 c6 w6 ho6 hg6 hb6 hor6
            have he46 : Ext w w6 := (he4.trans he5).low hb6 (Nat.le_refl _)
            have hut6 : u.tl.At w.heap.size w6 := ((((hut.ext hq).ext hq4).ext he5)).low hb6 (Nat.le_refl _)
            have hvt6 : v.tl.At w.heap.size w6 := ((((hvt.ext hq).ext hq4).ext he5)).low hb6 (Nat.le_refl _)
            refine L.va rfl (X.assign (by conv => lhs; whnf)) ?_
            refine L.nil ?_
            refine J.quiet mixed (by kernel_rfl) ?_
            refine Qt.va rfl (fun w' hw => X.move (by conv => lhs; whnf)) ?_
            refine Qt.va rfl (fun w' hw => (by first | exact X.sliceFromn (i := 1) rfl rfl Try.underlying23 sz_3 (by omega) | exact X.sliceFrom rfl rfl Try.underlying23 sz_3 (by omega))) ?_
            refine Qt.va rfl (fun w' hw => X.move (by conv => lhs; whnf)) ?_
            refine Qt.va rfl (fun w' hw => (by first | exact X.sliceFromn (i := 1) rfl rfl Try.underlying23 sz_3 (by omega) | exact X.sliceFrom rfl rfl Try.underlying23 sz_3 (by omega))) ?_
            refine Qt.va rfl (fun w' hw => X.assign (by conv => lhs; whnf)) ?_
            refine Qt.va rfl (fun w' hw => X.assign (by conv => lhs; whnf)) ?_
            refine Qt.nil (fun w7 hq7 => ?_)
            refine ⟨(u.tl, v.tl, ⟨A6, o.n + 1, c6, o.l ++ [x]⟩), At3 (by first | rfl | exact at_int rfl (by omega) | exact at_slice rfl (by omega) | exact at_int rfl (by simp)) (by first | rfl | exact at_int rfl (by omega) | exact at_slice rfl (by omega) | exact at_int rfl (by simp)) (by first | rfl | exact at_int rfl (by omega) | exact at_slice rfl (by omega) | exact at_int rfl (by simp)), (by (iterate 38 refine Agr.lk rfl ?_); exact Agr.lk rfl (Agr.hav rfl Agr.rfl')), ?_⟩
            refine ⟨⟨hut6.ext hq7, hvt6.ext hq7, ho6.ext hq7, ?_, ?_, he46.trans hq7⟩, ?_⟩
            · rw [eu, ew]; exact hC.both
            · show o.n + 1 + (u.n - 1) ≤ a.n; omega
            · show u.n - 1 + (v.n - 1) < u.n + v.n; omega
      · refine J.exit ?_
        refine J.seq ?_
        refine J.region ?_
        refine L.va rfl (X.move (by conv => lhs; whnf)) ?_
        refine L.va rfl (X.assign (by conv => lhs; whnf)) ?_
        refine L.nil ?_
        refine J.ret ?_
        refine fin1 ?_
        have e0 : v.l = [] := List.length_eq_zero_iff.1 (by omega)
        exact ⟨o, rfl, ho, he, hC.uo, hC.stop (.inr e0)⟩
    · refine L.no rfl ?_
      refine L.no rfl ?_
      refine L.no rfl ?_
      refine L.va rfl (X.pickF rfl (by conv => lhs; whnf)) ?_
      refine L.nil ?_
      refine J.iteF rfl ?_
      refine J.exit ?_
      refine J.seq ?_
      refine J.region ?_
      refine L.va rfl (X.move (by conv => lhs; whnf)) ?_
      refine L.va rfl (X.assign (by conv => lhs; whnf)) ?_
      refine L.nil ?_
      refine J.ret ?_
      refine fin1 ?_
      have e0 : u.l = [] := List.length_eq_zero_iff.1 (by omega)
      exact ⟨o, rfl, ho, he, hC.uo, hC.stop (.inl e0)⟩
end Go.Proofs.Ytlipeplfjkgamaa
namespace Go.Proofs.Ytlipeplfjkgamaa
open Go.RowKit H
set_option linter.unusedVariables false
def strs (l : List ByteArray) : List Value := l.map Value.string
theorem strs_length (l : List ByteArray) : (strs l).length = l.length := by simp [strs]
def be0 : ByteArray := ⟨#[]⟩
namespace H
theorem Ld.str {w : World} {B n : Nat} {A : Option Addr} {l : List ByteArray} (h : Reads w B 1 A n (strs l)) {j : Nat} (hj : j < n) : Ld w (pA A j) (.string (l.getD j be0)) := by
  have h1 := Ld.rd h (j := j) (by omega)
  have hl : j < l.length := by have := h.1; rw [strs_length] at this; omega
  have : (strs l).getD j undef = .string (l.getD j be0) := by simp [strs, List.getD, hl]
  rwa [this] at h1
theorem Ld.ostr {w : World} {base n c : Nat} {e : TypeId} {A : Option Addr} {l : List ByteArray} (h : w.ownsRow base e 1 (.slice A n c) n (strs l)) {j : Nat} (hj : j < n) : Ld w (pA A j) (.string (l.getD j be0)) := Ld.str (Reads.of_own h) hj
theorem X.lssS {P : Program} {w : World} {f : Operand → Value} {x y : Operand} {d : Option Tmp} {tx tz ty : TypeId} {pos : String} {aft : Array Edge} {g : Option (Nat × Bool)} {a b : ByteArray} (hx : f x = .string a) (hy : f y = .string b) : (execOp f ⟨d, .binOp .lss tx x y tz, ty, pos, aft, g⟩).run P w = .ok (.value (.bool (decide (Op.bytesLess a.toList b.toList = true)))) w :=
  X.bin hx hy (by simp [go_sem]) (by simp [binOp, Op.stringOp])
end H
def Ws : List ByteArray := [⟨#[97, 110, 100]⟩, ⟨#[97, 115, 99]⟩, ⟨#[98, 121]⟩, ⟨#[99, 111, 117, 110, 116]⟩, ⟨#[100, 101, 115, 99]⟩, ⟨#[100, 101, 118]⟩, ⟨#[105, 110]⟩, ⟨#[108, 105, 109, 105, 116]⟩, ⟨#[109, 97, 120]⟩, ⟨#[109, 101, 97, 110]⟩, ⟨#[109, 105, 110]⟩, ⟨#[111, 114, 100, 101, 114]⟩, ⟨#[115, 101, 108, 101, 99, 116]⟩, ⟨#[115, 104, 97, 114, 101]⟩, ⟨#[115, 117, 109]⟩, ⟨#[119, 104, 101, 114, 101]⟩]
theorem words_any (w : World) : Calls Try.prog 263 #[] w fun e w' => ∃ b, e = .returned (.slice (some ⟨b, 0, none⟩) 16 16) ∧ Reads w' w'.heap.size 1 (some ⟨b, 0, none⟩) 16 (strs Ws) ∧ Ext w w' := by
  refine enter Try.func263 rfl (by kernel_rfl) ?_
  refine J.seq ?_
  refine J.region ?_
  refine L.va rfl (X.assign (by conv => lhs; whnf)) ?_
  refine L.nil ?_
  refine J.seq ?_
  refine J.region ?_
  refine L.bslice (vs := [_, _, _, _, _, _, _, _, _, _, _, _, _, _, _, _]) rfl (Evs.cons (by conv => lhs; whnf) (Evs.cons (by conv => lhs; whnf) (Evs.cons (by conv => lhs; whnf) (Evs.cons (by conv => lhs; whnf) (Evs.cons (by conv => lhs; whnf) (Evs.cons (by conv => lhs; whnf) (Evs.cons (by conv => lhs; whnf) (Evs.cons (by conv => lhs; whnf) (Evs.cons (by conv => lhs; whnf) (Evs.cons (by conv => lhs; whnf) (Evs.cons (by conv => lhs; whnf) (Evs.cons (by conv => lhs; whnf) (Evs.cons (by conv => lhs; whnf) (Evs.cons (by conv => lhs; whnf) (Evs.cons (by conv => lhs; whnf) (Evs.cons (by conv => lhs; whnf) Evs.nil)))))))))))))))) rfl rfl rfl rfl Try.underlying46 sz_9 zr_9 (by decide) ?_
  intro b w1 hb hs hk he
  refine L.va rfl (X.assign (by conv => lhs; whnf)) ?_
  refine L.nil ?_
  refine J.ret ?_
  refine fin1 ?_
  exact ⟨b, rfl, blk_reads (l := strs Ws) hk (by omega) rfl, he⟩
theorem rwords_any (w : World) : Calls Try.prog 233 #[] w fun e w' => ∃ b, e = .returned (.slice (some ⟨b, 0, none⟩) 16 16) ∧ Reads w' w'.heap.size 1 (some ⟨b, 0, none⟩) 16 (strs Ws) ∧ Ext w w' := by
  refine enter Try.func233 rfl (by kernel_rfl) ?_
  refine J.seq ?_
  refine J.region ?_
  refine L.va rfl (X.assign (by conv => lhs; whnf)) ?_
  refine L.nil ?_
  refine J.seq ?_
  refine J.region ?_
  refine L.bslice (vs := [_, _, _, _, _, _, _, _, _, _, _, _, _, _, _, _]) rfl (Evs.cons (by conv => lhs; whnf) (Evs.cons (by conv => lhs; whnf) (Evs.cons (by conv => lhs; whnf) (Evs.cons (by conv => lhs; whnf) (Evs.cons (by conv => lhs; whnf) (Evs.cons (by conv => lhs; whnf) (Evs.cons (by conv => lhs; whnf) (Evs.cons (by conv => lhs; whnf) (Evs.cons (by conv => lhs; whnf) (Evs.cons (by conv => lhs; whnf) (Evs.cons (by conv => lhs; whnf) (Evs.cons (by conv => lhs; whnf) (Evs.cons (by conv => lhs; whnf) (Evs.cons (by conv => lhs; whnf) (Evs.cons (by conv => lhs; whnf) (Evs.cons (by conv => lhs; whnf) Evs.nil)))))))))))))))) rfl rfl rfl rfl Try.underlying46 sz_9 zr_9 (by decide) ?_
  intro b w1 hb hs hk he
  refine L.va rfl (X.assign (by conv => lhs; whnf)) ?_
  refine L.nil ?_
  refine J.ret ?_
  refine fin1 ?_
  exact ⟨b, rfl, blk_reads (l := strs Ws) hk (by omega) rfl, he⟩
theorem ws_less : ∀ m : Fin 16, ∀ j : Fin 16, Op.bytesLess (Ws.getD m.1 be0).data.toList (Ws.getD j.1 be0).data.toList = decide (m.1 < j.1) := by decide
theorem ba_toList (a : ByteArray) : a.toList = a.data.toList := Lib.toList_data a
def among (l : List ByteArray) (s : ByteArray) : Bool := l.any fun x => decide (x = s)
theorem among_iff {l : List ByteArray} {s : ByteArray} : among l s = true ↔ s ∈ l := by
  unfold among
  rw [List.any_eq_true]
  constructor
  · rintro ⟨x, hx, h⟩; rw [← of_decide_eq_true h]; exact hx
  · exact fun h => ⟨s, h, decide_eq_true rfl⟩
theorem ws_lt (m j : Nat) (hm : m < 16) (hj : j < 16) : Op.bytesLess (Ws.getD m be0).toList (Ws.getD j be0).toList = decide (m < j) := by
  rw [ba_toList, ba_toList]; exact ws_less ⟨m, hm⟩ ⟨j, hj⟩
theorem ws_mem {s : ByteArray} (h : s ∈ Ws) : ∃ j, j < 16 ∧ Ws.getD j be0 = s := by
  obtain ⟨i, hi, rfl⟩ := List.mem_iff_getElem.1 h
  exact ⟨i, hi, by simp only [List.getD, List.getElem?_eq_getElem hi, Option.getD_some]⟩
theorem ws_at {j : Nat} (h : j < 16) : Ws.getD j be0 ∈ Ws := by
  have hl : j < Ws.length := h
  simp only [List.getD, List.getElem?_eq_getElem hl, Option.getD_some]
  exact List.getElem_mem hl
theorem word_any (s : ByteArray) (w : World) : Calls Try.prog 234 #[.string s] w fun e w' => e = .returned (.bool (among Ws s)) ∧ Ext w w' := by
  refine enter Try.func234 rfl (by kernel_rfl) ?_
  refine J.seq ?_
  refine J.region ?_
  refine L.va rfl (X.assign (by conv => lhs; whnf)) ?_
  refine L.nil ?_
  refine J.seq ?_
  refine J.region ?_
  refine L.call rfl en_263 rfl (words_any _) ?_
  rintro e w1 ⟨b, rfl, hr, he⟩
  refine ⟨_, rfl, ?_⟩
  have he : Ext w w1 := he
  refine L.va rfl (X.assign (by conv => lhs; whnf)) ?_
  refine L.nil ?_
  refine J.seq ?_
  refine J.region ?_
  refine L.va rfl (X.move (by conv => lhs; whnf)) ?_
  refine L.va rfl (X.len rfl Try.underlying46) ?_
  refine L.va rfl (X.assign (by conv => lhs; whnf)) ?_
  refine L.va rfl (X.assign (by conv => lhs; whnf)) ?_
  refine L.nil ?_
  refine J.seq ?_
  refine J.block ?_
  refine J.loop (X := Nat × Nat) [2, 4, 5, 6, 10, 11, 12, 13, 14, 15, 16, 17, 18, 19, 20, 21, 22, 23, 24, 25, 26, 27, 28, 29, 30, 31, 32, 33] (fun x => [(4, .int .i64 (x.1 : Int)), (5, .int .i64 (x.2 : Int))]) (fun x w' => w' = w1 ∧ x.1 ≤ x.2 ∧ x.2 ≤ 16 ∧ (∀ j, j < 16 → j < x.1 → Ws.getD j be0 ≠ s) ∧ (∀ j, j < 16 → x.2 ≤ j → Ws.getD j be0 ≠ s)) (fun x => x.2 - x.1) ((0, 16)) (At2 (by first | rfl | exact at_int rfl (by omega) | exact at_slice rfl (by omega) | exact at_int rfl (by simp)) (by first | rfl | exact at_int rfl (by omega) | exact at_slice rfl (by omega) | exact at_int rfl (by simp))) ?_ ?_
  · exact ⟨rfl, by decide, by decide, fun j _ h => absurd h (Nat.not_lt_zero _), fun j h1 h2 => absurd h1 (Nat.not_lt.2 h2)⟩
  · rintro ⟨lo, hi⟩ g w2 ⟨rfl, h1, h2, h3, h4⟩
    dsimp only at h1 h2 h3 h4
    have q1 : ((lo, hi) : Nat × Nat).1 = lo := rfl
    have q2 : ((lo, hi) : Nat × Nat).2 = hi := rfl
    refine J.seq ?_
    refine J.seq ?_
    refine J.region ?_
    refine L.va rfl (X.move (by conv => lhs; whnf)) ?_
    refine L.va rfl (X.move (by conv => lhs; whnf)) ?_
    refine L.va rfl (X.lss rfl rfl) ?_
    refine L.nil ?_
    refine J.dec rfl (fun hlt => ?_) (fun hlt => ?_)
    · refine J.skip ?_
      refine J.block ?_
      refine J.seq ?_
      refine J.region ?_
      refine L.va rfl (X.move (by conv => lhs; whnf)) ?_
      refine L.va rfl (X.move (by conv => lhs; whnf)) ?_
      refine L.va rfl (X.add rfl rfl (by omega)) ?_
      refine L.va rfl (X.quo rfl rfl (by omega)) ?_
      refine L.va rfl (X.assign (by conv => lhs; whnf)) ?_
      refine L.nil ?_
      refine J.block ?_
      have e : (((lo, hi) : Nat × Nat).1 + (((lo, hi) : Nat × Nat).2 : Int) : Int) / 2 = (((lo + hi) / 2 : Nat) : Int) := by dsimp only; omega
      rw [e]
      have hmid : lo ≤ (lo + hi) / 2 ∧ (lo + hi) / 2 < hi := by dsimp only at hlt; omega
      generalize (lo + hi) / 2 = m at hmid
      refine J.seq ?_
      refine J.region ?_
      refine L.va rfl (X.move (by conv => lhs; whnf)) ?_
      refine L.va rfl (X.move (by conv => lhs; whnf)) ?_
      refine L.va rfl ((by first | exact X.index1n rfl rfl Try.underlying46 sz_9 (by first | exact Option.some_ne_none _ | exact hr.some_ (by omega)) (by omega) | exact X.index1 rfl rfl Try.underlying46 sz_9 (by first | exact Option.some_ne_none _ | exact hr.some_ (by omega)) (by omega))) ?_
      refine L.va rfl (X.load rfl sc_9 (by first | exact Ld.str hr (by omega))) ?_
      refine L.va rfl (X.move (by conv => lhs; whnf)) ?_
      refine L.va rfl (X.eqlS rfl rfl) ?_
      refine L.va rfl (X.assign (by conv => lhs; whnf)) ?_
      refine L.nil ?_
      refine J.dec rfl (fun heq => ?_) (fun heq => ?_)
      · have hE : among Ws s = true := by rw [← heq]; exact among_iff.2 (ws_at (by omega))
        rw [hE]
        refine J.seq ?_
        refine J.region ?_
        refine L.va rfl (X.assign (by conv => lhs; whnf)) ?_
        refine L.nil ?_
        refine J.ret ?_
        refine inB_ret <|  inB_ret <|  thn_ret <|  inB_ret <|  thn_ret <| ?_
        refine fin1 ?_
        exact ⟨rfl, he⟩
      · refine J.seq ?_
        refine J.region ?_
        refine L.va rfl (X.move (by conv => lhs; whnf)) ?_
        refine L.va rfl (X.move (by conv => lhs; whnf)) ?_
        refine L.va rfl ((by first | exact X.index1n rfl rfl Try.underlying46 sz_9 (by first | exact Option.some_ne_none _ | exact hr.some_ (by omega)) (by omega) | exact X.index1 rfl rfl Try.underlying46 sz_9 (by first | exact Option.some_ne_none _ | exact hr.some_ (by omega)) (by omega))) ?_
        refine L.va rfl (X.load rfl sc_9 (by first | exact Ld.str hr (by omega))) ?_
        refine L.va rfl (X.move (by conv => lhs; whnf)) ?_
        refine L.va rfl (X.lssS rfl rfl) ?_
        refine L.va rfl (X.assign (by conv => lhs; whnf)) ?_
        refine L.nil ?_
        refine J.dec rfl (fun hless => ?_) (fun hless => ?_)
        · refine J.region ?_
          refine L.va rfl (X.move (by conv => lhs; whnf)) ?_
          refine L.va rfl (X.add rfl rfl (by omega)) ?_
          refine L.va rfl (X.assign (by conv => lhs; whnf)) ?_
          refine L.nil ?_
          refine ⟨(m + 1, hi), At2 (by first | rfl | exact at_int rfl (by omega) | exact at_slice rfl (by omega) | exact at_int rfl (by simp)) (by first | rfl | exact at_int rfl (by omega) | exact at_slice rfl (by omega) | exact at_int rfl (by simp)), (by (iterate 25 refine Agr.lk rfl ?_); exact Agr.lk rfl (Agr.hav rfl Agr.rfl')), ?_⟩
          refine ⟨⟨rfl, by dsimp only; omega, h2, fun j hj hjm hjs => ?_, h4⟩, by dsimp only; omega⟩
          dsimp only at hjm
          rw [← hjs, ws_lt m j (by omega) hj] at hless
          have := of_decide_eq_true hless
          omega
        · refine J.region ?_
          refine L.va rfl (X.move (by conv => lhs; whnf)) ?_
          refine L.va rfl (X.assign (by conv => lhs; whnf)) ?_
          refine L.nil ?_
          refine ⟨(lo, m), At2 (by first | rfl | exact at_int rfl (by omega) | exact at_slice rfl (by omega) | exact at_int rfl (by simp)) (by first | rfl | exact at_int rfl (by omega) | exact at_slice rfl (by omega) | exact at_int rfl (by simp)), (by (iterate 24 refine Agr.lk rfl ?_); exact Agr.lk rfl (Agr.hav rfl Agr.rfl')), ?_⟩
          refine ⟨⟨rfl, by dsimp only; omega, by dsimp only; omega, h3, fun j hj hjm hjs => ?_⟩, by dsimp only; omega⟩
          dsimp only at hjm
          by_cases hjm' : j = m
          · subst hjm'; exact heq hjs
          · rw [← hjs, ws_lt m j (by omega) hj] at hless
            exact hless (decide_eq_true (by omega))
    · have hE : among Ws s = false := by
        rw [← Bool.not_eq_true]
        intro hm
        replace hm := among_iff.1 hm
        obtain ⟨j, hj, hjs⟩ := ws_mem hm
        dsimp only at hlt
        rcases Nat.lt_or_ge j lo with h | h
        · exact h3 j hj h hjs
        · exact h4 j hj (by omega) hjs
      rw [hE]
      refine J.exit ?_
      refine J.seq ?_
      refine J.region ?_
      refine L.va rfl (X.assign (by conv => lhs; whnf)) ?_
      refine L.nil ?_
      refine J.ret ?_
      refine fin1 ?_
      exact ⟨rfl, he⟩
end Go.Proofs.Ytlipeplfjkgamaa
namespace Go.Proofs.Ytlipeplfjkgamaa
open Go.RowKit H
set_option linter.unusedVariables false
def ch (s : ByteArray) (i : Nat) : Int := ((s.data.toList.getD i 0).toNat : Int)
theorem ch_bd (s : ByteArray) (i : Nat) : 0 ≤ ch s i ∧ ch s i ≤ 255 := by
  unfold ch
  have := (s.data.toList.getD i 0).toNat_lt
  omega
abbrev letC (c : Int) : Prop := 97 ≤ c ∧ c ≤ 122
abbrev digC (c : Int) : Prop := (48 ≤ c ∧ c ≤ 57) ∨ c = 95
def isS (s : ByteArray) : Bool := decide (1 ≤ s.size ∧ s.size ≤ 16 ∧ letC (ch s 0) ∧ (∀ j, j < s.size → letC (ch s j) ∨ digC (ch s j)) ∧ among Ws s = false)
theorem size_ne {s : ByteArray} (h : ¬ s = ⟨#[]⟩) : 1 ≤ s.size := by
  rcases Nat.eq_zero_or_pos s.size with h0 | h0
  · exfalso
    apply h
    cases s with
    | mk a => exact congrArg ByteArray.mk (Array.eq_empty_of_size_eq_zero h0)
  · exact h0
theorem isS_no {s : ByteArray} (h : ¬ (1 ≤ s.size ∧ s.size ≤ 16 ∧ letC (ch s 0) ∧ (∀ j, j < s.size → letC (ch s j) ∨ digC (ch s j)) ∧ among Ws s = false)) : isS s = false := decide_eq_false h
theorem is_any (s : ByteArray) (w : World) : Calls Try.prog 181 #[.string s] w fun e w' => e = .returned (.bool (isS s)) ∧ Ext w w' := by
  refine enter Try.func181 rfl (by kernel_rfl) ?_
  refine J.seq ?_
  refine J.region ?_
  refine L.va rfl (X.assign (by conv => lhs; whnf)) ?_
  refine L.nil ?_
  refine J.seq ?_
  refine J.seq ?_
  refine J.region ?_
  refine L.va rfl (X.move (by conv => lhs; whnf)) ?_
  refine L.va rfl (X.eqlS rfl rfl) ?_
  refine L.va rfl (X.move (by conv => lhs; whnf)) ?_
  refine L.caseDec (k := 7) rfl (fun h1 => ?_) (fun h1 => ?_)
  · have hE : isS s = false := isS_no (by rw [h1]; rintro ⟨h, _⟩; exact absurd h (by decide))
    rw [hE]
    refine L.no rfl ?_
    refine L.no rfl ?_
    refine L.no rfl ?_
    refine L.va rfl (X.pickT rfl (by conv => lhs; whnf)) ?_
    refine L.va rfl (X.move (by conv => lhs; whnf)) ?_
    refine L.no rfl ?_
    refine L.no rfl ?_
    refine L.no rfl ?_
    refine L.va rfl (X.pickT rfl (by conv => lhs; whnf)) ?_
    refine L.va rfl (X.move (by conv => lhs; whnf)) ?_
    refine L.no rfl ?_
    refine L.no rfl ?_
    refine L.no rfl ?_
    refine L.va rfl (X.pickT rfl (by conv => lhs; whnf)) ?_
    refine L.nil ?_
    refine J.iteT rfl ?_
    refine J.seq ?_
    refine J.region ?_
    refine L.va rfl (X.assign (by conv => lhs; whnf)) ?_
    refine L.nil ?_
    refine J.ret ?_
    refine thn_ret <| ?_
    refine fin1 ?_
    exact ⟨rfl, Ext.refl _⟩
  · have hsz := size_ne h1
    refine L.va rfl (X.move (by conv => lhs; whnf)) ?_
    refine L.va rfl (X.lens rfl Try.underlying9) ?_
    refine L.va rfl (X.gtr rfl rfl) ?_
    refine L.va rfl (X.pickF rfl (by conv => lhs; whnf)) ?_
    refine L.va rfl (X.move (by conv => lhs; whnf)) ?_
    refine L.caseDec (k := 12) rfl (fun h2 => ?_) (fun h2 => ?_)
    · have hE : isS s = false := isS_no (by rintro ⟨_, h, _⟩; omega)
      rw [hE]
      refine L.no rfl ?_
      refine L.no rfl ?_
      refine L.no rfl ?_
      refine L.va rfl (X.pickT rfl (by conv => lhs; whnf)) ?_
      refine L.va rfl (X.move (by conv => lhs; whnf)) ?_
      refine L.no rfl ?_
      refine L.no rfl ?_
      refine L.no rfl ?_
      refine L.va rfl (X.pickT rfl (by conv => lhs; whnf)) ?_
      refine L.nil ?_
      refine J.iteT rfl ?_
      refine J.seq ?_
      refine J.region ?_
      refine L.va rfl (X.assign (by conv => lhs; whnf)) ?_
      refine L.nil ?_
      refine J.ret ?_
      refine thn_ret <| ?_
      refine fin1 ?_
      exact ⟨rfl, Ext.refl _⟩
    · refine L.va rfl (X.move (by conv => lhs; whnf)) ?_
      refine L.va rfl (X.indexStr rfl rfl Try.underlying9 (by omega)) ?_
      refine L.va rfl (X.lss rfl rfl) ?_
      refine L.va rfl (X.pickF rfl (by conv => lhs; whnf)) ?_
      refine L.va rfl (X.move (by conv => lhs; whnf)) ?_
      refine L.caseDec (k := 17) rfl (fun h3 => ?_) (fun h3 => ?_)
      · have h3' : ch s 0 < 97 := h3
        have hE : isS s = false := isS_no (by rintro ⟨_, _, h, _⟩; omega)
        rw [hE]
        refine L.no rfl ?_
        refine L.no rfl ?_
        refine L.no rfl ?_
        refine L.va rfl (X.pickT rfl (by conv => lhs; whnf)) ?_
        refine L.nil ?_
        refine J.iteT rfl ?_
        refine J.seq ?_
        refine J.region ?_
        refine L.va rfl (X.assign (by conv => lhs; whnf)) ?_
        refine L.nil ?_
        refine J.ret ?_
        refine thn_ret <| ?_
        refine fin1 ?_
        exact ⟨rfl, Ext.refl _⟩
      · have h3' : ¬ ch s 0 < 97 := h3
        refine L.va rfl (X.move (by conv => lhs; whnf)) ?_
        refine L.va rfl (X.indexStr rfl rfl Try.underlying9 (by omega)) ?_
        refine L.va rfl (X.gtr rfl rfl) ?_
        refine L.va rfl (X.pickF rfl (by conv => lhs; whnf)) ?_
        refine L.nil ?_
        refine J.dec rfl (fun h4 => ?_) (fun h4 => ?_)
        · have h4' : 122 < ch s 0 := h4
          have hE : isS s = false := isS_no (by rintro ⟨_, _, h, _⟩; omega)
          rw [hE]
          refine J.seq ?_
          refine J.region ?_
          refine L.va rfl (X.assign (by conv => lhs; whnf)) ?_
          refine L.nil ?_
          refine J.ret ?_
          refine thn_ret <| ?_
          refine fin1 ?_
          exact ⟨rfl, Ext.refl _⟩
        · have h4' : ¬ 122 < ch s 0 := h4
          refine J.skip ?_
          refine J.seq ?_
          refine J.seq ?_
          refine J.region ?_
          refine L.va rfl (X.move (by conv => lhs; whnf)) ?_
          refine L.va rfl (X.lens rfl Try.underlying9) ?_
          refine L.va rfl (X.move (by conv => lhs; whnf)) ?_
          refine L.nil ?_
          refine J.block ?_
          refine J.loop (X := Nat) [2, 3, 4, 24, 25, 26, 27, 28, 29, 30, 31, 32, 33, 34, 35, 36, 37, 38, 39, 40, 41, 42, 43, 44, 45, 46, 47, 48] (fun i => [(24, .int .i64 (i : Int))]) (fun i w' => w' = w ∧ i ≤ s.size ∧ ∀ j, j < i → letC (ch s j) ∨ digC (ch s j)) (fun i => s.size - i) (0) (At1 (by first | rfl | exact at_int rfl (by omega) | exact at_slice rfl (by omega) | exact at_int rfl (by simp))) ?_ ?_
          · exact ⟨rfl, by omega, fun j hj => absurd hj (by omega)⟩
          · rintro i g w2 ⟨rfl, hi, hP⟩
            have hc := ch_bd s i
            have hnext : letC (ch s i) ∨ digC (ch s i) → ∀ j, j < i + 1 → letC (ch s j) ∨ digC (ch s j) := by
              intro h j hj
              rcases Nat.lt_or_ge j i with h' | h'
              · exact hP j h'
              · obtain rfl : j = i := by omega
                exact h
            have hbad : i < s.size → ¬ (letC (ch s i) ∨ digC (ch s i)) → isS s = false := fun hl h => isS_no (by rintro ⟨_, _, _, h', _⟩; exact h (h' i hl))
            refine J.seq ?_
            refine J.region ?_
            refine L.va rfl (X.lss rfl rfl) ?_
            refine L.nil ?_
            refine J.seq ?_
            refine J.dec rfl (fun hlt => ?_) (fun hlt => ?_)
            · have hl : i < s.size := by omega
              replace hbad := hbad hl
              refine J.skip ?_
              refine J.seq ?_
              refine J.block ?_
              refine J.seq ?_
              refine J.region ?_
              refine L.va rfl (X.move (by conv => lhs; whnf)) ?_
              refine L.va rfl (X.assign (by conv => lhs; whnf)) ?_
              refine L.nil ?_
              refine J.seq ?_
              refine J.region ?_
              refine L.va rfl (X.move (by conv => lhs; whnf)) ?_
              refine L.va rfl (X.move (by conv => lhs; whnf)) ?_
              refine L.va rfl (X.indexStr rfl rfl Try.underlying9 (by omega)) ?_
              refine L.va rfl (X.assign (by conv => lhs; whnf)) ?_
              refine L.nil ?_
              rw [show ((s.data.toList.getD ((i : Int)).toNat 0).toNat : Int) = ch s i from rfl]
              generalize ch s i = c at hc hnext hbad
              refine J.seq ?_
              refine J.region ?_
              refine L.va rfl (X.move (by conv => lhs; whnf)) ?_
              refine L.va rfl (X.lss rfl rfl) ?_
              refine L.va rfl (X.move (by conv => lhs; whnf)) ?_
              refine L.caseDec (k := 32) rfl (fun a1 => ?_) (fun a1 => ?_)
              · refine L.no rfl ?_
                refine L.no rfl ?_
                refine L.va rfl (X.pickT rfl (by conv => lhs; whnf)) ?_
                refine L.va rfl (X.move (by conv => lhs; whnf)) ?_
                refine L.va rfl (X.move (by conv => lhs; whnf)) ?_
                refine L.va rfl (X.lss rfl rfl) ?_
                refine L.va rfl (X.move (by conv => lhs; whnf)) ?_
                refine L.caseDec (k := 39) rfl (fun a2 => ?_) (fun a2 => ?_)
                · refine L.no rfl ?_
                  refine L.no rfl ?_
                  refine L.va rfl (X.pickT rfl (by conv => lhs; whnf)) ?_
                  refine L.va rfl (X.pickT rfl (by conv => lhs; whnf)) ?_
                  refine L.va rfl (X.move (by conv => lhs; whnf)) ?_
                  refine L.va rfl (X.move (by conv => lhs; whnf)) ?_
                  refine L.va rfl (X.neq rfl rfl) ?_
                  refine L.va rfl (X.pickT rfl (by conv => lhs; whnf)) ?_
                  refine L.nil ?_
                  refine J.ndecT rfl (by omega) ?_
                  have hE := hbad (by omega)
                  rw [hE]
                  refine J.seq ?_
                  refine J.region ?_
                  refine L.va rfl (X.assign (by conv => lhs; whnf)) ?_
                  refine L.nil ?_
                  refine J.ret ?_
                  refine inB_ret <|  thn_ret <|  thn_ret <|  inB_ret <|  thn_ret <| ?_
                  refine fin1 ?_
                  exact ⟨rfl, Ext.refl _⟩
                · refine L.va rfl (X.move (by conv => lhs; whnf)) ?_
                  refine L.va rfl (X.gtr rfl rfl) ?_
                  refine L.va rfl (X.pickF rfl (by conv => lhs; whnf)) ?_
                  refine L.va rfl (X.pickT rfl (by conv => lhs; whnf)) ?_
                  refine L.va rfl (X.move (by conv => lhs; whnf)) ?_
                  refine L.caseDec (k := 44) rfl (fun a3 => ?_) (fun a3 => ?_)
                  · refine L.va rfl (X.move (by conv => lhs; whnf)) ?_
                    refine L.va rfl (X.neq rfl rfl) ?_
                    refine L.va rfl (X.pickT rfl (by conv => lhs; whnf)) ?_
                    refine L.nil ?_
                    refine J.ndec rfl (fun a4 => ?_) (fun a4 => ?_)
                    · have hE := hbad (by omega)
                      rw [hE]
                      refine J.seq ?_
                      refine J.region ?_
                      refine L.va rfl (X.assign (by conv => lhs; whnf)) ?_
                      refine L.nil ?_
                      refine J.ret ?_
                      refine inB_ret <|  thn_ret <|  thn_ret <|  inB_ret <|  thn_ret <| ?_
                      refine fin1 ?_
                      exact ⟨rfl, Ext.refl _⟩
                    · refine J.skip ?_
                      refine J.region ?_
                      refine L.va rfl (X.add rfl rfl (by omega)) ?_
                      refine L.va rfl (X.move (by conv => lhs; whnf)) ?_
                      refine L.nil ?_
                      refine ⟨i + 1, At1 (by first | rfl | exact at_int rfl (by omega) | exact at_slice rfl (by omega) | exact at_int rfl (by simp)), (by (iterate 30 refine Agr.lk rfl ?_); exact Agr.lk rfl (Agr.hav rfl Agr.rfl')), ?_⟩
                      exact ⟨⟨rfl, by omega, hnext (by omega)⟩, by omega⟩
                  · refine L.no rfl ?_
                    refine L.no rfl ?_
                    refine L.va rfl (X.pickF rfl (by conv => lhs; whnf)) ?_
                    refine L.nil ?_
                    refine J.iteF rfl ?_
                    refine J.skip ?_
                    refine J.region ?_
                    refine L.va rfl (X.add rfl rfl (by omega)) ?_
                    refine L.va rfl (X.move (by conv => lhs; whnf)) ?_
                    refine L.nil ?_
                    refine ⟨i + 1, At1 (by first | rfl | exact at_int rfl (by omega) | exact at_slice rfl (by omega) | exact at_int rfl (by simp)), (by (iterate 30 refine Agr.lk rfl ?_); exact Agr.lk rfl (Agr.hav rfl Agr.rfl')), ?_⟩
                    exact ⟨⟨rfl, by omega, hnext (by omega)⟩, by omega⟩
              · refine L.va rfl (X.move (by conv => lhs; whnf)) ?_
                refine L.va rfl (X.gtr rfl rfl) ?_
                refine L.va rfl (X.pickF rfl (by conv => lhs; whnf)) ?_
                refine L.va rfl (X.move (by conv => lhs; whnf)) ?_
                refine L.caseDec (k := 36) rfl (fun a5 => ?_) (fun a5 => ?_)
                · refine L.va rfl (X.move (by conv => lhs; whnf)) ?_
                  refine L.va rfl (X.lss rfl rfl) ?_
                  refine L.va rfl (X.move (by conv => lhs; whnf)) ?_
                  refine L.caseDecF (k := 39) rfl (by omega) ?_
                  refine L.va rfl (X.move (by conv => lhs; whnf)) ?_
                  refine L.va rfl (X.gtr rfl rfl) ?_
                  refine L.va rfl (X.pickF rfl (by conv => lhs; whnf)) ?_
                  refine L.va rfl (X.pickT rfl (by conv => lhs; whnf)) ?_
                  refine L.va rfl (X.move (by conv => lhs; whnf)) ?_
                  refine L.caseDecT (k := 44) rfl (by omega) ?_
                  refine L.va rfl (X.move (by conv => lhs; whnf)) ?_
                  refine L.va rfl (X.neq rfl rfl) ?_
                  refine L.va rfl (X.pickT rfl (by conv => lhs; whnf)) ?_
                  refine L.nil ?_
                  refine J.ndecT rfl (by omega) ?_
                  have hE := hbad (by omega)
                  rw [hE]
                  refine J.seq ?_
                  refine J.region ?_
                  refine L.va rfl (X.assign (by conv => lhs; whnf)) ?_
                  refine L.nil ?_
                  refine J.ret ?_
                  refine inB_ret <|  thn_ret <|  thn_ret <|  inB_ret <|  thn_ret <| ?_
                  refine fin1 ?_
                  exact ⟨rfl, Ext.refl _⟩
                · refine L.no rfl ?_
                  refine L.no rfl ?_
                  refine L.no rfl ?_
                  refine L.no rfl ?_
                  refine L.no rfl ?_
                  refine L.no rfl ?_
                  refine L.va rfl (X.pickF rfl (by conv => lhs; whnf)) ?_
                  refine L.va rfl (X.move (by conv => lhs; whnf)) ?_
                  refine L.no rfl ?_
                  refine L.no rfl ?_
                  refine L.va rfl (X.pickF rfl (by conv => lhs; whnf)) ?_
                  refine L.nil ?_
                  refine J.iteF rfl ?_
                  refine J.skip ?_
                  refine J.region ?_
                  refine L.va rfl (X.add rfl rfl (by omega)) ?_
                  refine L.va rfl (X.move (by conv => lhs; whnf)) ?_
                  refine L.nil ?_
                  refine ⟨i + 1, At1 (by first | rfl | exact at_int rfl (by omega) | exact at_slice rfl (by omega) | exact at_int rfl (by simp)), (by (iterate 29 refine Agr.lk rfl ?_); exact Agr.lk rfl (Agr.hav rfl Agr.rfl')), ?_⟩
                  exact ⟨⟨rfl, by omega, hnext (by omega)⟩, by omega⟩
            · obtain rfl : i = s.size := by omega
              have hE : isS s = !among Ws s := by
                cases hw : among Ws s with
                | true => exact isS_no (by rintro ⟨_, _, _, _, h⟩; rw [hw] at h; cases h)
                | false => exact decide_eq_true ⟨hsz, by omega, by omega, hP, hw⟩
              rw [hE]
              refine J.exit ?_
              refine J.seq ?_
              refine J.region ?_
              refine L.va rfl (X.move (by conv => lhs; whnf)) ?_
              refine L.call rfl en_234 rfl (word_any s _) ?_
              rintro e w3 ⟨rfl, he⟩
              refine ⟨_, rfl, ?_⟩
              refine L.va rfl (X.not rfl) ?_
              refine L.va rfl (X.assign (by conv => lhs; whnf)) ?_
              refine L.nil ?_
              refine J.ret ?_
              refine fin1 ?_
              exact ⟨rfl, he⟩
def plc (l : List ByteArray) (s : ByteArray) : Int := match l.findIdx? (fun x => decide (x = s)) with
  | some i => (i : Int)
  | none => -1
theorem plc_none {l : List ByteArray} {s : ByteArray} (h : ∀ j, j < l.length → l.getD j be0 ≠ s) : plc l s = -1 := by
  have : l.findIdx? (fun x => decide (x = s)) = none := by
    rw [List.findIdx?_eq_none_iff]
    intro x hx
    obtain ⟨i, hi, rfl⟩ := List.mem_iff_getElem.1 hx
    have := h i hi
    simp only [List.getD, List.getElem?_eq_getElem hi, Option.getD_some] at this
    exact decide_eq_false this
  unfold plc
  rw [this]
theorem plc_some {l : List ByteArray} {s : ByteArray} {i : Nat} (hi : i < l.length) (he : l.getD i be0 = s) (h : ∀ j, j < i → l.getD j be0 ≠ s) : plc l s = (i : Int) := by
  have : l.findIdx? (fun x => decide (x = s)) = some i := by
    rw [List.findIdx?_eq_some_iff_getElem]
    refine ⟨hi, ?_, fun j hj => ?_⟩
    · simp only [List.getD, List.getElem?_eq_getElem hi, Option.getD_some] at he
      exact decide_eq_true he
    · have := h j hj
      have hj' : j < l.length := by omega
      simp only [List.getD, List.getElem?_eq_getElem hj', Option.getD_some] at this
      simpa using this
  unfold plc
  rw [this]
theorem plc_iff {l : List ByteArray} {s : ByteArray} : 0 ≤ plc l s ↔ s ∈ l := by
  unfold plc
  cases h : l.findIdx? (fun x => decide (x = s)) with
  | none =>
    rw [List.findIdx?_eq_none_iff] at h
    constructor
    · intro h'; simp at h'
    · intro hm
      have := h s hm
      simp at this
  | some i =>
    rw [List.findIdx?_eq_some_iff_getElem] at h
    obtain ⟨hi, he, _⟩ := h
    constructor
    · intro _
      rw [← of_decide_eq_true he]
      exact List.getElem_mem hi
    · intro _; simp
theorem place_any (A : Option Addr) (n c : Nat) (l : List ByteArray) (s : ByteArray) (w : World) (hr : Reads w w.heap.size 1 A n (strs l)) (hn : n ≤ 9223372036854775807) :
    Calls Try.prog 232 #[.slice A n c, .string s] w fun e w' => e = .returned (.int .i64 (plc l s)) ∧ w = w' := by
  have hl : l.length = n := by have := hr.1; simpa [strs] using this
  refine enter Try.func232 rfl (by kernel_rfl) ?_
  refine J.seq ?_
  refine J.region ?_
  refine L.va rfl (X.assign (by conv => lhs; whnf)) ?_
  refine L.nil ?_
  refine J.seq ?_
  refine J.seq ?_
  refine J.region ?_
  refine L.va rfl (X.assign (by conv => lhs; whnf)) ?_
  refine L.nil ?_
  refine J.block ?_
  refine J.loop (X := Nat) [4, 5, 6, 7, 8, 9, 10, 11, 12, 13, 14, 15, 16, 17, 18] (fun i => [(5, .int .i64 (i : Int))]) (fun i w' => w' = w ∧ i ≤ n ∧ ∀ j, j < i → l.getD j be0 ≠ s) (fun i => n - i) (0) (At1 (by first | rfl | exact at_int rfl (by omega) | exact at_slice rfl (by omega) | exact at_int rfl (by simp))) ?_ ?_
  · exact ⟨rfl, by omega, fun j hj => absurd hj (by omega)⟩
  · rintro i g w2 ⟨rfl, hi, hP⟩
    refine J.seq ?_
    refine J.seq ?_
    refine J.region ?_
    refine L.va rfl (X.move (by conv => lhs; whnf)) ?_
    refine L.va rfl (X.move (by conv => lhs; whnf)) ?_
    refine L.va rfl (X.len rfl Try.underlying46) ?_
    refine L.va rfl (X.lss rfl rfl) ?_
    refine L.nil ?_
    refine J.dec rfl (fun hlt => ?_) (fun hlt => ?_)
    · refine J.skip ?_
      refine J.seq ?_
      refine J.block ?_
      refine J.seq ?_
      refine J.region ?_
      refine L.va rfl (X.move (by conv => lhs; whnf)) ?_
      refine L.va rfl (X.move (by conv => lhs; whnf)) ?_
      refine L.va rfl ((by first | exact X.index1n rfl rfl Try.underlying46 sz_9 (by first | exact Option.some_ne_none _ | exact hr.some_ (by omega)) (by omega) | exact X.index1 rfl rfl Try.underlying46 sz_9 (by first | exact Option.some_ne_none _ | exact hr.some_ (by omega)) (by omega))) ?_
      refine L.va rfl (X.load rfl sc_9 (by first | exact Ld.str hr (by omega))) ?_
      refine L.va rfl (X.move (by conv => lhs; whnf)) ?_
      refine L.va rfl (X.eqlS rfl rfl) ?_
      refine L.nil ?_
      refine J.dec rfl (fun heq => ?_) (fun heq => ?_)
      · have hE : plc l s = (i : Int) := plc_some (by omega) heq hP
        rw [hE]
        refine J.seq ?_
        refine J.region ?_
        refine L.va rfl (X.move (by conv => lhs; whnf)) ?_
        refine L.va rfl (X.assign (by conv => lhs; whnf)) ?_
        refine L.nil ?_
        refine J.ret ?_
        refine inB_ret <|  thn_ret <|  thn_ret <|  inB_ret <|  thn_ret <| ?_
        refine fin1 ?_
        exact ⟨rfl, rfl⟩
      · refine J.skip ?_
        refine J.region ?_
        refine L.va rfl (X.move (by conv => lhs; whnf)) ?_
        refine L.va rfl (X.add rfl rfl (by omega)) ?_
        refine L.va rfl (X.assign (by conv => lhs; whnf)) ?_
        refine L.nil ?_
        refine ⟨i + 1, At1 (by first | rfl | exact at_int rfl (by omega) | exact at_slice rfl (by omega) | exact at_int rfl (by simp)), (by (iterate 13 refine Agr.lk rfl ?_); exact Agr.lk rfl (Agr.hav rfl Agr.rfl')), ?_⟩
        refine ⟨⟨rfl, by omega, fun j hj => ?_⟩, by omega⟩
        rcases Nat.lt_or_ge j i with h' | h'
        · exact hP j h'
        · obtain rfl : j = i := by omega
          exact heq
    · obtain rfl : i = n := by omega
      have hE : plc l s = -1 := plc_none (by rw [hl]; exact hP)
      rw [hE]
      refine J.exit ?_
      refine J.seq ?_
      refine J.region ?_
      refine L.va rfl (X.assign (by conv => lhs; whnf)) ?_
      refine L.nil ?_
      refine J.ret ?_
      refine fin1 ?_
      exact ⟨rfl, rfl⟩
end Go.Proofs.Ytlipeplfjkgamaa
namespace Go.Proofs.Ytlipeplfjkgamaa
open Go.RowKit H
set_option linter.unusedVariables false
theorem nd_t {p : Prop} [Decidable p] (h : (!decide p) = true) : ¬ p := by simpa using h
theorem nd_f {p : Prop} [Decidable p] (h : (!decide p) = false) : p := by simpa using h
theorem nd_mk {p : Prop} [Decidable p] (h : ¬ p) : (!decide p) = true := by simpa using h
theorem ris_any (s : ByteArray) (w : World) : Calls Try.prog 177 #[.string s] w fun e w' => e = .returned (.bool (isS s)) ∧ Ext w w' := by
  refine enter Try.func177 rfl (by kernel_rfl) ?_
  refine J.seq ?_
  refine J.region ?_
  refine L.va rfl (X.assign (by conv => lhs; whnf)) ?_
  refine L.nil ?_
  refine J.seq ?_
  refine J.seq ?_
  refine J.region ?_
  refine L.va rfl (X.move (by conv => lhs; whnf)) ?_
  refine L.va rfl (X.lens rfl Try.underlying9) ?_
  refine L.va rfl (X.lss rfl rfl) ?_
  refine L.va rfl (X.move (by conv => lhs; whnf)) ?_
  refine L.caseDec (k := 9) rfl (fun h1 => ?_) (fun h1 => ?_)
  · have hE : isS s = false := isS_no (by rintro ⟨h, _⟩; omega)
    rw [hE]
    refine L.no rfl ?_
    refine L.no rfl ?_
    refine L.no rfl ?_
    refine L.va rfl (X.pickT rfl (by conv => lhs; whnf)) ?_
    refine L.va rfl (X.move (by conv => lhs; whnf)) ?_
    refine L.no rfl ?_
    refine L.no rfl ?_
    refine L.no rfl ?_
    refine L.no rfl ?_
    refine L.va rfl (X.pickT rfl (by conv => lhs; whnf)) ?_
    refine L.nil ?_
    refine J.iteT rfl ?_
    refine J.seq ?_
    refine J.region ?_
    refine L.va rfl (X.assign (by conv => lhs; whnf)) ?_
    refine L.nil ?_
    refine J.ret ?_
    refine thn_ret <| ?_
    refine fin1 ?_
    exact ⟨rfl, Ext.refl _⟩
  · refine L.va rfl (X.move (by conv => lhs; whnf)) ?_
    refine L.va rfl (X.lens rfl Try.underlying9) ?_
    refine L.va rfl (X.gtr rfl rfl) ?_
    refine L.va rfl (X.pickF rfl (by conv => lhs; whnf)) ?_
    refine L.va rfl (X.move (by conv => lhs; whnf)) ?_
    refine L.caseDec (k := 14) rfl (fun h2 => ?_) (fun h2 => ?_)
    · have hE : isS s = false := isS_no (by rintro ⟨_, h, _⟩; omega)
      rw [hE]
      refine L.no rfl ?_
      refine L.no rfl ?_
      refine L.no rfl ?_
      refine L.no rfl ?_
      refine L.va rfl (X.pickT rfl (by conv => lhs; whnf)) ?_
      refine L.nil ?_
      refine J.iteT rfl ?_
      refine J.seq ?_
      refine J.region ?_
      refine L.va rfl (X.assign (by conv => lhs; whnf)) ?_
      refine L.nil ?_
      refine J.ret ?_
      refine thn_ret <| ?_
      refine fin1 ?_
      exact ⟨rfl, Ext.refl _⟩
    ·
      refine L.call rfl en_233 rfl (rwords_any _) ?_
      rintro e w1 ⟨b, rfl, hr, he⟩
      refine ⟨_, rfl, ?_⟩
      have he : Ext w w1 := he
      refine L.va rfl (X.move (by conv => lhs; whnf)) ?_
      refine L.call rfl en_232 rfl (place_any (some ⟨b, 0, none⟩) 16 16 Ws s _ hr (by decide)) ?_
      rintro e _ ⟨rfl, rfl⟩
      refine ⟨_, rfl, ?_⟩
      refine L.va rfl (X.geq rfl rfl) ?_
      refine L.va rfl (X.pickF rfl (by conv => lhs; whnf)) ?_
      refine L.nil ?_
      refine J.dec rfl (fun h3 => ?_) (fun h3 => ?_)
      · have hE : isS s = false := isS_no (by
          rintro ⟨_, _, _, _, h⟩
          rw [among_iff.2 (plc_iff.1 h3)] at h
          cases h)
        rw [hE]
        refine J.seq ?_
        refine J.region ?_
        refine L.va rfl (X.assign (by conv => lhs; whnf)) ?_
        refine L.nil ?_
        refine J.ret ?_
        refine thn_ret <| ?_
        refine fin1 ?_
        exact ⟨rfl, he⟩
      · have hw : among Ws s = false := by
          rw [← Bool.not_eq_true]
          intro h
          exact h3 (plc_iff.2 (among_iff.1 h))
        refine J.skip ?_
        refine J.seq ?_
        refine J.seq ?_
        refine J.region ?_
        refine L.va rfl (X.assign (by conv => lhs; whnf)) ?_
        refine L.nil ?_
        refine J.block ?_
        refine J.loop (X := Nat) [2, 3, 4, 5, 20, 21, 22, 23, 24, 25, 26, 27, 28, 29, 30, 31, 32, 33, 34, 35, 36, 37, 38, 39, 40, 41, 42, 43, 44, 45, 46, 47, 48, 49, 50, 51, 52, 53, 54, 55, 56, 57, 58, 59, 60, 61] (fun i => [(3, .int .i64 (i : Int))]) (fun i w' => w' = w1 ∧ i ≤ s.size ∧ ∀ j, j < i → letC (ch s j) ∨ (digC (ch s j) ∧ j ≠ 0)) (fun i => s.size - i) (0) (At1 (by first | rfl | exact at_int rfl (by omega) | exact at_slice rfl (by omega) | exact at_int rfl (by simp))) ?_ ?_
        · exact ⟨rfl, by omega, fun j hj => absurd hj (by omega)⟩
        · rintro i g w2 ⟨rfl, hi, hP⟩
          have hc := ch_bd s i
          have hq : ((s.data.toList.getD ((i : Int)).toNat 0).toNat : Int) = ch s i := rfl
          have hnext : letC (ch s i) ∨ (digC (ch s i) ∧ i ≠ 0) → ∀ j, j < i + 1 → letC (ch s j) ∨ (digC (ch s j) ∧ j ≠ 0) := by
            intro h j hj
            rcases Nat.lt_or_ge j i with h' | h'
            · exact hP j h'
            · obtain rfl : j = i := by omega
              exact h
          have hbad : i < s.size → ¬ (letC (ch s i) ∨ (digC (ch s i) ∧ i ≠ 0)) → isS s = false := fun hl h => isS_no (by
            rintro ⟨_, _, h0, h', _⟩
            apply h
            rcases h' i hl with k | k
            · exact .inl k
            · by_cases hi0 : i = 0
              · subst hi0; exact .inl h0
              · exact .inr ⟨k, hi0⟩)
          refine J.seq ?_
          refine J.seq ?_
          refine J.region ?_
          refine L.va rfl (X.move (by conv => lhs; whnf)) ?_
          refine L.va rfl (X.move (by conv => lhs; whnf)) ?_
          refine L.va rfl (X.lens rfl Try.underlying9) ?_
          refine L.va rfl (X.lss rfl rfl) ?_
          refine L.nil ?_
          refine J.dec rfl (fun hlt => ?_) (fun hlt => ?_)
          · have hl : i < s.size := by omega
            replace hbad := hbad hl
            refine J.skip ?_
            refine J.seq ?_
            refine J.block ?_
            refine J.seq ?_
            refine J.region ?_
            refine L.va rfl (X.move (by conv => lhs; whnf)) ?_
            refine L.va rfl (X.move (by conv => lhs; whnf)) ?_
            refine L.va rfl (X.indexStr rfl rfl Try.underlying9 (by omega)) ?_
            refine L.va rfl (X.geq rfl rfl) ?_
            refine L.va rfl (X.move (by conv => lhs; whnf)) ?_
            refine L.caseDec (k := 30) rfl (fun a1 => ?_) (fun a1 => ?_)
            · refine L.va rfl (X.move (by conv => lhs; whnf)) ?_
              refine L.va rfl (X.move (by conv => lhs; whnf)) ?_
              refine L.va rfl (X.indexStr rfl rfl Try.underlying9 (by omega)) ?_
              refine L.va rfl (X.leq rfl rfl) ?_
              refine L.va rfl (X.pickT rfl (by conv => lhs; whnf)) ?_
              refine L.va rfl (X.assign (by conv => lhs; whnf)) ?_
              refine L.nil ?_
              refine J.seq ?_
              refine J.region ?_
              refine L.va rfl (X.move (by conv => lhs; whnf)) ?_
              refine L.va rfl (X.move (by conv => lhs; whnf)) ?_
              refine L.va rfl (X.indexStr rfl rfl Try.underlying9 (by omega)) ?_
              refine L.va rfl (X.geq rfl rfl) ?_
              refine L.va rfl (X.move (by conv => lhs; whnf)) ?_
              refine L.caseDecT (k := 40) rfl (by omega) ?_
              refine L.va rfl (X.move (by conv => lhs; whnf)) ?_
              refine L.va rfl (X.move (by conv => lhs; whnf)) ?_
              refine L.va rfl (X.indexStr rfl rfl Try.underlying9 (by omega)) ?_
              refine L.va rfl (X.leq rfl rfl) ?_
              refine L.va rfl (X.pickT rfl (by conv => lhs; whnf)) ?_
              refine L.va rfl (X.move (by conv => lhs; whnf)) ?_
              refine L.caseDecF (k := 46) rfl (by omega) ?_
              refine L.va rfl (X.move (by conv => lhs; whnf)) ?_
              refine L.va rfl (X.move (by conv => lhs; whnf)) ?_
              refine L.va rfl (X.indexStr rfl rfl Try.underlying9 (by omega)) ?_
              refine L.va rfl (X.eql rfl rfl) ?_
              refine L.va rfl (X.pickF rfl (by conv => lhs; whnf)) ?_
              refine L.va rfl (X.assign (by conv => lhs; whnf)) ?_
              refine L.nil ?_
              refine J.seq ?_
              refine J.region ?_
              refine L.va rfl (X.move (by conv => lhs; whnf)) ?_
              refine L.va rfl (X.not rfl) ?_
              refine L.va rfl (X.move (by conv => lhs; whnf)) ?_
              refine L.caseB (k := 54) rfl (fun a2 => ?_) (fun a2 => ?_)
              · have a2' : ¬ ch s i ≤ 122 := nd_t a2
                refine L.va rfl (X.move (by conv => lhs; whnf)) ?_
                refine L.va rfl (X.not rfl) ?_
                refine L.va rfl (X.move (by conv => lhs; whnf)) ?_
                refine L.caseBT (k := 57) rfl (by exact nd_mk (p := ch s i = 95) (by omega)) ?_
                have hE := hbad (by omega)
                rw [hE]
                refine L.no rfl ?_
                refine L.no rfl ?_
                refine L.va rfl (X.pickT rfl (by conv => lhs; whnf)) ?_
                refine L.va rfl (X.pickT rfl (by conv => lhs; whnf)) ?_
                refine L.nil ?_
                refine J.iteT rfl ?_
                refine J.seq ?_
                refine J.region ?_
                refine L.va rfl (X.assign (by conv => lhs; whnf)) ?_
                refine L.nil ?_
                refine J.ret ?_
                refine inB_ret <|  thn_ret <|  thn_ret <|  inB_ret <|  thn_ret <| ?_
                refine fin1 ?_
                exact ⟨rfl, he⟩
              · have a2' : ch s i ≤ 122 := nd_f a2
                refine L.no rfl ?_
                refine L.no rfl ?_
                refine L.no rfl ?_
                refine L.no rfl ?_
                refine L.no rfl ?_
                refine L.no rfl ?_
                refine L.va rfl (X.pickF rfl (by conv => lhs; whnf)) ?_
                refine L.nil ?_
                refine J.iteF rfl ?_
                refine J.skip ?_
                refine J.region ?_
                refine L.va rfl (X.move (by conv => lhs; whnf)) ?_
                refine L.va rfl (X.add rfl rfl (by omega)) ?_
                refine L.va rfl (X.assign (by conv => lhs; whnf)) ?_
                refine L.nil ?_
                refine ⟨i + 1, At1 (by first | rfl | exact at_int rfl (by omega) | exact at_slice rfl (by omega) | exact at_int rfl (by simp)), (by (iterate 49 refine Agr.lk rfl ?_); exact Agr.lk rfl (Agr.hav rfl Agr.rfl')), ?_⟩
                exact ⟨⟨rfl, by omega, hnext (by omega)⟩, by omega⟩
            · refine L.no rfl ?_
              refine L.no rfl ?_
              refine L.no rfl ?_
              refine L.no rfl ?_
              refine L.va rfl (X.pickF rfl (by conv => lhs; whnf)) ?_
              refine L.va rfl (X.assign (by conv => lhs; whnf)) ?_
              refine L.nil ?_
              refine J.seq ?_
              refine J.region ?_
              refine L.va rfl (X.move (by conv => lhs; whnf)) ?_
              refine L.va rfl (X.move (by conv => lhs; whnf)) ?_
              refine L.va rfl (X.indexStr rfl rfl Try.underlying9 (by omega)) ?_
              refine L.va rfl (X.geq rfl rfl) ?_
              refine L.va rfl (X.move (by conv => lhs; whnf)) ?_
              refine L.caseDec (k := 40) rfl (fun a3 => ?_) (fun a3 => ?_)
              · refine L.va rfl (X.move (by conv => lhs; whnf)) ?_
                refine L.va rfl (X.move (by conv => lhs; whnf)) ?_
                refine L.va rfl (X.indexStr rfl rfl Try.underlying9 (by omega)) ?_
                refine L.va rfl (X.leq rfl rfl) ?_
                refine L.va rfl (X.pickT rfl (by conv => lhs; whnf)) ?_
                refine L.va rfl (X.move (by conv => lhs; whnf)) ?_
                refine L.caseDec (k := 46) rfl (fun a4 => ?_) (fun a4 => ?_)
                · refine L.no rfl ?_
                  refine L.no rfl ?_
                  refine L.no rfl ?_
                  refine L.no rfl ?_
                  refine L.va rfl (X.pickT rfl (by conv => lhs; whnf)) ?_
                  refine L.va rfl (X.assign (by conv => lhs; whnf)) ?_
                  refine L.nil ?_
                  refine J.seq ?_
                  refine J.region ?_
                  refine L.va rfl (X.move (by conv => lhs; whnf)) ?_
                  refine L.va rfl (X.not rfl) ?_
                  refine L.va rfl (X.move (by conv => lhs; whnf)) ?_
                  refine L.va rfl (X.move (by conv => lhs; whnf)) ?_
                  refine L.va rfl (X.not rfl) ?_
                  refine L.va rfl (X.move (by conv => lhs; whnf)) ?_
                  refine L.va rfl (X.move (by conv => lhs; whnf)) ?_
                  refine L.va rfl (X.eql rfl rfl) ?_
                  refine L.va rfl (X.pickF rfl (by conv => lhs; whnf)) ?_
                  refine L.va rfl (X.pickT rfl (by conv => lhs; whnf)) ?_
                  refine L.nil ?_
                  refine J.dec rfl (fun a6 => ?_) (fun a6 => ?_)
                  · have hE := hbad (by omega)
                    rw [hE]
                    refine J.seq ?_
                    refine J.region ?_
                    refine L.va rfl (X.assign (by conv => lhs; whnf)) ?_
                    refine L.nil ?_
                    refine J.ret ?_
                    refine inB_ret <|  thn_ret <|  thn_ret <|  inB_ret <|  thn_ret <| ?_
                    refine fin1 ?_
                    exact ⟨rfl, he⟩
                  · refine J.skip ?_
                    refine J.region ?_
                    refine L.va rfl (X.move (by conv => lhs; whnf)) ?_
                    refine L.va rfl (X.add rfl rfl (by omega)) ?_
                    refine L.va rfl (X.assign (by conv => lhs; whnf)) ?_
                    refine L.nil ?_
                    refine ⟨i + 1, At1 (by first | rfl | exact at_int rfl (by omega) | exact at_slice rfl (by omega) | exact at_int rfl (by simp)), (by (iterate 48 refine Agr.lk rfl ?_); exact Agr.lk rfl (Agr.hav rfl Agr.rfl')), ?_⟩
                    exact ⟨⟨rfl, by omega, hnext (by omega)⟩, by omega⟩
                · refine L.va rfl (X.move (by conv => lhs; whnf)) ?_
                  refine L.va rfl (X.move (by conv => lhs; whnf)) ?_
                  refine L.va rfl (X.indexStr rfl rfl Try.underlying9 (by omega)) ?_
                  refine L.va rfl (X.eql rfl rfl) ?_
                  refine L.va rfl (X.pickF rfl (by conv => lhs; whnf)) ?_
                  refine L.va rfl (X.assign (by conv => lhs; whnf)) ?_
                  refine L.nil ?_
                  refine J.seq ?_
                  refine J.region ?_
                  refine L.va rfl (X.move (by conv => lhs; whnf)) ?_
                  refine L.va rfl (X.not rfl) ?_
                  refine L.va rfl (X.move (by conv => lhs; whnf)) ?_
                  refine L.va rfl (X.move (by conv => lhs; whnf)) ?_
                  refine L.va rfl (X.not rfl) ?_
                  refine L.va rfl (X.move (by conv => lhs; whnf)) ?_
                  refine L.caseB (k := 57) rfl (fun a5 => ?_) (fun a5 => ?_)
                  · have a5' : ¬ ch s i = 95 := nd_t a5
                    have hE := hbad (by omega)
                    rw [hE]
                    refine L.no rfl ?_
                    refine L.no rfl ?_
                    refine L.va rfl (X.pickT rfl (by conv => lhs; whnf)) ?_
                    refine L.va rfl (X.pickT rfl (by conv => lhs; whnf)) ?_
                    refine L.nil ?_
                    refine J.iteT rfl ?_
                    refine J.seq ?_
                    refine J.region ?_
                    refine L.va rfl (X.assign (by conv => lhs; whnf)) ?_
                    refine L.nil ?_
                    refine J.ret ?_
                    refine inB_ret <|  thn_ret <|  thn_ret <|  inB_ret <|  thn_ret <| ?_
                    refine fin1 ?_
                    exact ⟨rfl, he⟩
                  · have a5' : ch s i = 95 := nd_f a5
                    refine L.va rfl (X.move (by conv => lhs; whnf)) ?_
                    refine L.va rfl (X.eql rfl rfl) ?_
                    refine L.va rfl (X.pickF rfl (by conv => lhs; whnf)) ?_
                    refine L.va rfl (X.pickT rfl (by conv => lhs; whnf)) ?_
                    refine L.nil ?_
                    refine J.dec rfl (fun a6 => ?_) (fun a6 => ?_)
                    · have hE := hbad (by omega)
                      rw [hE]
                      refine J.seq ?_
                      refine J.region ?_
                      refine L.va rfl (X.assign (by conv => lhs; whnf)) ?_
                      refine L.nil ?_
                      refine J.ret ?_
                      refine inB_ret <|  thn_ret <|  thn_ret <|  inB_ret <|  thn_ret <| ?_
                      refine fin1 ?_
                      exact ⟨rfl, he⟩
                    · refine J.skip ?_
                      refine J.region ?_
                      refine L.va rfl (X.move (by conv => lhs; whnf)) ?_
                      refine L.va rfl (X.add rfl rfl (by omega)) ?_
                      refine L.va rfl (X.assign (by conv => lhs; whnf)) ?_
                      refine L.nil ?_
                      refine ⟨i + 1, At1 (by first | rfl | exact at_int rfl (by omega) | exact at_slice rfl (by omega) | exact at_int rfl (by simp)), (by (iterate 49 refine Agr.lk rfl ?_); exact Agr.lk rfl (Agr.hav rfl Agr.rfl')), ?_⟩
                      exact ⟨⟨rfl, by omega, hnext (by omega)⟩, by omega⟩
              · refine L.no rfl ?_
                refine L.no rfl ?_
                refine L.no rfl ?_
                refine L.no rfl ?_
                refine L.va rfl (X.pickF rfl (by conv => lhs; whnf)) ?_
                refine L.va rfl (X.move (by conv => lhs; whnf)) ?_
                refine L.va rfl (X.move (by conv => lhs; whnf)) ?_
                refine L.va rfl (X.move (by conv => lhs; whnf)) ?_
                refine L.va rfl (X.indexStr rfl rfl Try.underlying9 (by omega)) ?_
                refine L.va rfl (X.eql rfl rfl) ?_
                refine L.va rfl (X.pickF rfl (by conv => lhs; whnf)) ?_
                refine L.va rfl (X.assign (by conv => lhs; whnf)) ?_
                refine L.nil ?_
                refine J.seq ?_
                refine J.region ?_
                refine L.va rfl (X.move (by conv => lhs; whnf)) ?_
                refine L.va rfl (X.not rfl) ?_
                refine L.va rfl (X.move (by conv => lhs; whnf)) ?_
                refine L.va rfl (X.move (by conv => lhs; whnf)) ?_
                refine L.va rfl (X.not rfl) ?_
                refine L.va rfl (X.move (by conv => lhs; whnf)) ?_
                refine L.caseB (k := 57) rfl (fun a5 => ?_) (fun a5 => ?_)
                · have a5' : ¬ ch s i = 95 := nd_t a5
                  have hE := hbad (by omega)
                  rw [hE]
                  refine L.no rfl ?_
                  refine L.no rfl ?_
                  refine L.va rfl (X.pickT rfl (by conv => lhs; whnf)) ?_
                  refine L.va rfl (X.pickT rfl (by conv => lhs; whnf)) ?_
                  refine L.nil ?_
                  refine J.iteT rfl ?_
                  refine J.seq ?_
                  refine J.region ?_
                  refine L.va rfl (X.assign (by conv => lhs; whnf)) ?_
                  refine L.nil ?_
                  refine J.ret ?_
                  refine inB_ret <|  thn_ret <|  thn_ret <|  inB_ret <|  thn_ret <| ?_
                  refine fin1 ?_
                  exact ⟨rfl, he⟩
                · have a5' : ch s i = 95 := nd_f a5
                  refine L.va rfl (X.move (by conv => lhs; whnf)) ?_
                  refine L.va rfl (X.eql rfl rfl) ?_
                  refine L.va rfl (X.pickF rfl (by conv => lhs; whnf)) ?_
                  refine L.va rfl (X.pickT rfl (by conv => lhs; whnf)) ?_
                  refine L.nil ?_
                  refine J.dec rfl (fun a6 => ?_) (fun a6 => ?_)
                  · have hE := hbad (by omega)
                    rw [hE]
                    refine J.seq ?_
                    refine J.region ?_
                    refine L.va rfl (X.assign (by conv => lhs; whnf)) ?_
                    refine L.nil ?_
                    refine J.ret ?_
                    refine inB_ret <|  thn_ret <|  thn_ret <|  inB_ret <|  thn_ret <| ?_
                    refine fin1 ?_
                    exact ⟨rfl, he⟩
                  · refine J.skip ?_
                    refine J.region ?_
                    refine L.va rfl (X.move (by conv => lhs; whnf)) ?_
                    refine L.va rfl (X.add rfl rfl (by omega)) ?_
                    refine L.va rfl (X.assign (by conv => lhs; whnf)) ?_
                    refine L.nil ?_
                    refine ⟨i + 1, At1 (by first | rfl | exact at_int rfl (by omega) | exact at_slice rfl (by omega) | exact at_int rfl (by simp)), (by (iterate 48 refine Agr.lk rfl ?_); exact Agr.lk rfl (Agr.hav rfl Agr.rfl')), ?_⟩
                    exact ⟨⟨rfl, by omega, hnext (by omega)⟩, by omega⟩
          · obtain rfl : i = s.size := by omega
            have hE : isS s = true := decide_eq_true ⟨by omega, by omega, by have := hP 0 (by omega); omega, fun j hj => by have := hP j hj; omega, hw⟩
            rw [hE]
            refine J.exit ?_
            refine J.seq ?_
            refine J.region ?_
            refine L.va rfl (X.assign (by conv => lhs; whnf)) ?_
            refine L.nil ?_
            refine J.ret ?_
            refine fin1 ?_
            exact ⟨rfl, he⟩
end Go.Proofs.Ytlipeplfjkgamaa
namespace Go.Proofs.Ytlipeplfjkgamaa
open Go.RowKit H
set_option linter.unusedVariables false
def tw (l : List ByteArray) : Int := match (List.range l.length).find? (fun i => among (l.take i) (l.getD i be0)) with
  | some i => (i : Int)
  | none => -1
theorem tw_some {l : List ByteArray} {i : Nat} (hi : i < l.length) (h : among (l.take i) (l.getD i be0) = true) (hP : ∀ j, j < i → among (l.take j) (l.getD j be0) = false) : tw l = (i : Int) := by
  have : (List.range l.length).find? (fun i => among (l.take i) (l.getD i be0)) = some i := by
    rw [List.find?_range_eq_some]
    refine ⟨h, List.mem_range.2 hi, fun j hj => by rw [hP j hj]; rfl⟩
  unfold tw
  rw [this]
theorem tw_none {l : List ByteArray} (hP : ∀ j, j < l.length → among (l.take j) (l.getD j be0) = false) : tw l = -1 := by
  have : (List.range l.length).find? (fun i => among (l.take i) (l.getD i be0)) = none := by
    rw [List.find?_range_eq_none]
    exact fun j hj => by rw [hP j hj]; rfl
  unfold tw
  rw [this]
theorem strs_take (l : List ByteArray) (k : Nat) : (strs l).take k = strs (l.take k) := by simp [strs, List.map_take]
theorem rtwice_any (A : Option Addr) (n c : Nat) (l : List ByteArray) (w : World) (hr : Reads w w.heap.size 1 A n (strs l)) (hnc : n ≤ c) (hn : n ≤ 9223372036854775807) :
    Calls Try.prog 178 #[.slice A n c] w fun e w' => e = .returned (.int .i64 (tw l)) ∧ Ext w w' := by
  have hl : l.length = n := by have := hr.1; simpa [strs] using this
  refine enter Try.func178 rfl (by kernel_rfl) ?_
  refine J.seq ?_
  refine J.region ?_
  refine L.va rfl (X.assign (by conv => lhs; whnf)) ?_
  refine L.nil ?_
  refine J.seq ?_
  refine J.seq ?_
  refine J.region ?_
  refine L.va rfl (X.assign (by conv => lhs; whnf)) ?_
  refine L.nil ?_
  refine J.block ?_
  refine J.loop (X := Nat) [2, 3, 4, 5, 6, 7, 8, 9, 10, 11, 12, 13, 14, 15, 16, 17, 18, 19] (fun i => [(3, .int .i64 (i : Int))]) (fun i w' => Ext w w' ∧ i ≤ n ∧ ∀ j, j < i → among (l.take j) (l.getD j be0) = false) (fun i => n - i) (0) (At1 (by first | rfl | exact at_int rfl (by omega) | exact at_slice rfl (by omega) | exact at_int rfl (by simp))) ?_ ?_
  · exact ⟨Ext.refl _, by omega, fun j hj => absurd hj (by omega)⟩
  · rintro i g w2 ⟨he, hi, hP⟩
    have hr2 := hr.ext he
    refine J.seq ?_
    refine J.seq ?_
    refine J.region ?_
    refine L.va rfl (X.move (by conv => lhs; whnf)) ?_
    refine L.va rfl (X.move (by conv => lhs; whnf)) ?_
    refine L.va rfl (X.len rfl Try.underlying46) ?_
    refine L.va rfl (X.lss rfl rfl) ?_
    refine L.nil ?_
    refine J.dec rfl (fun hlt => ?_) (fun hlt => ?_)
    · have hrt : ∀ w', Ext w2 w' → Reads w' w'.heap.size 1 A i (strs (l.take i)) := by
        intro w' hw'
        have := ((hr2.ext hw').here (by decide)).first (k := i) (by omega)
        rw [Nat.mul_one, strs_take] at this
        exact this
      refine J.skip ?_
      refine J.seq ?_
      refine J.block ?_
      refine J.seq ?_
      refine J.quiet mixed (by kernel_rfl) ?_
      refine Qt.va rfl (fun w' hw => X.move (by conv => lhs; whnf)) ?_
      refine Qt.va rfl (fun w' hw => X.move (by conv => lhs; whnf)) ?_
      refine Qt.va rfl (fun w' hw => (by first | exact X.sliceTon rfl rfl Try.underlying46 sz_9 (by omega) | exact X.sliceTo rfl rfl Try.underlying46 sz_9 (by omega))) ?_
      refine Qt.va rfl (fun w' hw => X.move (by conv => lhs; whnf)) ?_
      refine Qt.va rfl (fun w' hw => X.move (by conv => lhs; whnf)) ?_
      refine Qt.va rfl (fun w' hw => (by first | exact X.index1n rfl rfl Try.underlying46 sz_9 (by first | exact Option.some_ne_none _ | exact hr2.some_ (by omega)) (by omega) | exact X.index1 rfl rfl Try.underlying46 sz_9 (by first | exact Option.some_ne_none _ | exact hr2.some_ (by omega)) (by omega))) ?_
      refine Qt.va rfl (fun w' hw => X.load rfl sc_9 (by first | exact Ld.str (hr2.ext hw) (by omega))) ?_
      refine Qt.call rfl en_232 rfl (fun w' hw => calls_same hw (place_any A i c (l.take i) (l.getD i be0) _ (hrt _ hw) (by omega))) ?_
      refine Qt.va rfl (fun w' hw => X.geq rfl rfl) ?_
      refine Qt.nil (fun w3 hq => ?_)
      replace hr2 := hr2.ext hq
      refine J.dec rfl (fun hin => ?_) (fun hin => ?_)
      · have hE : tw l = (i : Int) := tw_some (by omega) (among_iff.2 (plc_iff.1 hin)) hP
        rw [hE]
        refine J.seq ?_
        refine J.region ?_
        refine L.va rfl (X.move (by conv => lhs; whnf)) ?_
        refine L.va rfl (X.assign (by conv => lhs; whnf)) ?_
        refine L.nil ?_
        refine J.ret ?_
        refine inB_ret <|  thn_ret <|  thn_ret <|  inB_ret <|  thn_ret <| ?_
        refine fin1 ?_
        exact ⟨rfl, he.trans hq⟩
      · refine J.skip ?_
        refine J.region ?_
        refine L.va rfl (X.move (by conv => lhs; whnf)) ?_
        refine L.va rfl (X.add rfl rfl (by omega)) ?_
        refine L.va rfl (X.assign (by conv => lhs; whnf)) ?_
        refine L.nil ?_
        refine ⟨i + 1, At1 (by first | rfl | exact at_int rfl (by omega) | exact at_slice rfl (by omega) | exact at_int rfl (by simp)), (by (iterate 16 refine Agr.lk rfl ?_); exact Agr.lk rfl (Agr.hav rfl Agr.rfl')), ?_⟩
        refine ⟨⟨he.trans hq, by omega, fun j hj => ?_⟩, by omega⟩
        rcases Nat.lt_or_ge j i with h' | h'
        · exact hP j h'
        · obtain rfl : j = i := by omega
          rw [← Bool.not_eq_true]
          exact fun h => hin (plc_iff.2 (among_iff.1 h))
    · obtain rfl : i = n := by omega
      have hE : tw l = -1 := tw_none (by rw [hl]; exact hP)
      rw [hE]
      refine J.exit ?_
      refine J.seq ?_
      refine J.region ?_
      refine L.va rfl (X.assign (by conv => lhs; whnf)) ?_
      refine L.nil ?_
      refine J.ret ?_
      refine fin1 ?_
      exact ⟨rfl, he⟩
end Go.Proofs.Ytlipeplfjkgamaa
namespace Go.Proofs.Ytlipeplfjkgamaa
open Go.RowKit H
set_option linter.unusedVariables false
theorem take_nextS {l : List ByteArray} {i : Nat} (h : i < l.length) : l.take (i + 1) = l.take i ++ [l.getD i be0] := by
  rw [List.take_add_one, List.getElem?_eq_getElem h]
  simp [List.getD, h]
theorem among_next {l : List ByteArray} {i : Nat} (h : i < l.length) (s : ByteArray) : among (l.take (i + 1)) s = (among (l.take i) s || decide (l.getD i be0 = s)) := by
  rw [take_nextS h]
  unfold among
  rw [List.any_append]
  simp
set_option maxRecDepth 100000 in
theorem twice_any (A : Option Addr) (n c : Nat) (l : List ByteArray) (w : World) (hr : Reads w w.heap.size 1 A n (strs l)) (hn : n ≤ maxLen) (hs : ∀ s ∈ l, s.size ≤ maxLen) :
    Calls Try.prog 182 #[.slice A n c] w fun e w' => e = .returned (.int .i64 (tw l)) ∧ Ext w w' := by
  have hl : l.length = n := by have := hr.1; simpa [strs] using this
  unfold maxLen at hn
  have hz : ∀ w' : World, (zeroValue 3).run Try.prog w' = .ok (.int .i64 0) w' := fun w' => rfl
  refine enter Try.func182 rfl (by kernel_rfl) ?_
  refine J.seq ?_
  refine J.region ?_
  refine L.va rfl (X.assign (by conv => lhs; whnf)) ?_
  refine L.nil ?_
  refine J.seq ?_
  refine J.region ?_
  refine L.va rfl (X.move (by conv => lhs; whnf)) ?_
  refine L.va rfl (X.len rfl Try.underlying46) ?_
  refine L.makeMap rfl rfl Try.underlying289 ?_
  intro b w1 hb hs1 hm he
  refine L.va rfl (X.assign (by conv => lhs; whnf)) ?_
  refine L.nil ?_
  refine J.seq ?_
  refine J.seq ?_
  refine J.region ?_
  refine L.va rfl (X.move (by conv => lhs; whnf)) ?_
  refine L.va rfl (X.len rfl Try.underlying46) ?_
  refine L.va rfl (X.move (by conv => lhs; whnf)) ?_
  refine L.nil ?_
  refine J.block ?_
  refine J.loop (X := Nat × (ByteArray → Option Int)) [2, 4, 5, 6, 7, 13, 14, 15, 16, 17, 18, 19, 20, 21, 22, 23, 24, 25, 26, 27, 28, 29] (fun x => [(13, .int .i64 (x.1 : Int))]) (fun x w' => x.1 ≤ n ∧ MapSI Try.prog 9 3 w' b x.1 x.2 ∧ (∀ s, (x.2 s).isSome = among (l.take x.1) s) ∧ (∀ j, j < x.1 → among (l.take j) (l.getD j be0) = false) ∧ Ext w w') (fun x => n - x.1) ((0, fun _ => none)) (At1 (by first | rfl | exact at_int rfl (by omega) | exact at_slice rfl (by omega) | exact at_int rfl (by simp))) ?_ ?_
  · exact ⟨by dsimp only; omega, hm, fun s => rfl, fun j hj => absurd hj (Nat.not_lt_zero _), he⟩
  · rintro ⟨i, f⟩ g w2 ⟨hi, hm2, hf, hP, he2⟩
    dsimp only at hi hm2 hf hP
    have q1 : ((i, f) : Nat × (ByteArray → Option Int)).1 = i := rfl
    have hr2 := hr.ext he2
    refine J.seq ?_
    refine J.region ?_
    refine L.va rfl (X.lss rfl rfl) ?_
    refine L.nil ?_
    refine J.seq ?_
    refine J.dec rfl (fun hlt => ?_) (fun hlt => ?_)
    · have hil : i < l.length := by rw [hl]; dsimp only at hlt; omega
      have hsz : (l.getD i be0).size ≤ maxLen := by
        apply hs
        simp only [List.getD, List.getElem?_eq_getElem hil, Option.getD_some]
        exact List.getElem_mem hil
      refine J.skip ?_
      refine J.seq ?_
      refine J.block ?_
      refine J.seq ?_
      refine J.region ?_
      refine L.va rfl (X.move (by conv => lhs; whnf)) ?_
      refine L.va rfl ((by first | exact X.index1n rfl rfl Try.underlying46 sz_9 (by first | exact Option.some_ne_none _ | exact hr2.some_ (by omega)) (by omega) | exact X.index1 rfl rfl Try.underlying46 sz_9 (by first | exact Option.some_ne_none _ | exact hr2.some_ (by omega)) (by omega))) ?_
      refine L.va rfl (X.load rfl sc_9 (by first | exact Ld.str hr2 (by omega))) ?_
      refine L.va rfl (X.assign (by conv => lhs; whnf)) ?_
      refine L.va rfl (X.assign (by conv => lhs; whnf)) ?_
      refine L.nil ?_
      refine J.seq ?_
      refine J.seq ?_
      refine J.region ?_
      refine L.va rfl (X.move (by conv => lhs; whnf)) ?_
      refine L.va rfl (X.move (by conv => lhs; whnf)) ?_
      refine L.va rfl (X.look rfl rfl hm2 Try.underlying289 (by kernel_rfl) (by kernel_rfl) (hz _) hsz) ?_
      refine L.va rfl (X.move (by conv => lhs; whnf)) ?_
      refine L.va rfl (X.extract rfl rfl) ?_
      refine L.va rfl (X.extract rfl rfl) ?_
      refine L.va rfl (X.assign (by conv => lhs; whnf)) ?_
      refine L.va rfl (X.assign (by conv => lhs; whnf)) ?_
      refine L.nil ?_
      refine J.seq ?_
      refine J.region ?_
      refine L.va rfl (X.move (by conv => lhs; whnf)) ?_
      refine L.nil ?_
      refine J.ite rfl (fun hin => ?_) (fun hin => ?_)
      · have hin' : among (l.take i) (l.getD i be0) = true := by rw [← hf]; exact hin
        have hE : tw l = (i : Int) := tw_some hil hin' hP
        rw [hE]
        refine J.seq ?_
        refine J.region ?_
        refine L.va rfl (X.move (by conv => lhs; whnf)) ?_
        refine L.va rfl (X.assign (by conv => lhs; whnf)) ?_
        refine L.nil ?_
        refine J.ret ?_
        refine thn_ret <|  inB_ret <|  thn_ret <|  thn_ret <|  inB_ret <|  thn_ret <| ?_
        refine fin1 ?_
        exact ⟨rfl, he2⟩
      · have hin' : among (l.take i) (l.getD i be0) = false := by rw [← hf]; simpa using hin
        refine J.skip ?_
        refine J.region ?_
        refine L.va rfl (X.move (by conv => lhs; whnf)) ?_
        refine L.va rfl (X.move (by conv => lhs; whnf)) ?_
        refine L.va rfl (X.move (by conv => lhs; whnf)) ?_
        refine L.mapPut rfl rfl rfl rfl (hm2) Try.underlying289 (by kernel_rfl) (by kernel_rfl) (by unfold maxLen; omega) (hsz) (wf64 (by dsimp only; omega)) ?_
        intro w3 hm3 hg3
        have he3 : Ext w w3 := he2.grw hg3 (by intro g hg; injection hg with hg; omega)
        refine L.nil ?_
        refine J.region ?_
        refine L.va rfl (X.add rfl rfl (by omega)) ?_
        refine L.va rfl (X.move (by conv => lhs; whnf)) ?_
        refine L.nil ?_
        refine ⟨(i + 1, fun x => if x = l.getD i be0 then some (i : Int) else f x), At1 (by first | rfl | exact at_int rfl (by omega) | exact at_slice rfl (by omega) | exact at_int rfl (by simp)), (by (iterate 20 refine Agr.lk rfl ?_); exact Agr.lk rfl (Agr.hav rfl Agr.rfl')), ?_⟩
        refine ⟨⟨by dsimp only; omega, hm3, fun s => ?_, fun j hj => ?_, he3⟩, by dsimp only; omega⟩
        · dsimp only
          rw [among_next hil, ← hf]
          by_cases hss : s = l.getD i be0
          · subst hss; simp
          · rw [if_neg hss, decide_eq_false (fun h => hss h.symm), Bool.or_false]
        · dsimp only at hj
          rcases Nat.lt_or_ge j i with h' | h'
          · exact hP j h'
          · obtain rfl : j = i := by omega
            exact hin'
    · obtain rfl : i = n := by dsimp only at hlt; omega
      have hE : tw l = -1 := tw_none (by rw [hl]; exact hP)
      rw [hE]
      refine J.exit ?_
      refine J.seq ?_
      refine J.region ?_
      refine L.va rfl (X.assign (by conv => lhs; whnf)) ?_
      refine L.nil ?_
      refine J.ret ?_
      refine fin1 ?_
      exact ⟨rfl, he2⟩
end Go.Proofs.Ytlipeplfjkgamaa
namespace Go.Proofs.Ytlipeplfjkgamaa
set_option maxRecDepth 100000
open Go.RowKit H
set_option linter.unusedVariables false
theorem LiesSlice.strs {w : World} {B n : Nat} {A : Option Addr} {xs : List Str} (h : LiesSlice w B A n xs) : Reads w B 1 A n (strs (xs.map (·.s))) := by
  refine ⟨by simp [strs_length, h.1], fun hn => ?_⟩
  obtain ⟨ad, e, hb, hc⟩ := h.2 hn
  refine ⟨ad, e, hb, fun j u hu => ?_⟩
  simp only [Go.Proofs.Ytlipeplfjkgamaa.strs, List.map_map, List.getElem?_map, Option.map_eq_some_iff] at hu
  obtain ⟨x, hx, rfl⟩ := hu
  obtain ⟨us, hus, hl⟩ := hc j x hx
  obtain rfl : us = [.string x.s] := hl
  have := hus 0 (show 0 < 1 by decide)
  simpa [show Lay.size Str = 1 from rfl] using this
def dimsV (l : List (ByteArray × Int)) : List Value := l.flatMap fun p => [.string p.1, .int .i64 p.2]
theorem dimsV_length (l : List (ByteArray × Int)) : (dimsV l).length = l.length * 2 := by
  induction l with
  | nil => rfl
  | cons a l ih => simp only [dimsV, List.flatMap_cons, List.length_append, List.length_cons, List.length_nil] at ih ⊢; omega
theorem dimsV_at : ∀ (l : List (ByteArray × Int)) (i : Nat), (dimsV l)[i * 2]? = (l[i]?).map (fun p => Value.string p.1) ∧ (dimsV l)[i * 2 + 1]? = (l[i]?).map (fun p => Value.int .i64 p.2)
  | [], i => by simp [dimsV]
  | a :: l, 0 => by simp [dimsV]
  | a :: l, i + 1 => by
    obtain ⟨h1, h2⟩ := dimsV_at l i
    have e : dimsV (a :: l) = .string a.1 :: .int .i64 a.2 :: dimsV l := rfl
    rw [e, show (i + 1) * 2 = i * 2 + 1 + 1 by omega]
    simp only [List.getElem?_cons_succ]
    exact ⟨h1, h2⟩
def d0 : ByteArray × Int := (be0, 0)
theorem LiesSlice.dims {w : World} {B n : Nat} {A : Option Addr} {xs : List (Str × Nm .i64)} (h : LiesSlice w B A n xs) : Reads w B 2 A n (dimsV (xs.map fun p => (p.1.s, p.2.z))) := by
  refine ⟨by rw [dimsV_length, List.length_map, h.1], fun hn => ?_⟩
  obtain ⟨ad, e, hb, hc⟩ := h.2 hn
  refine ⟨ad, e, hb, fun j u hu => ?_⟩
  have hj : j < n * 2 := by
    have := (List.getElem?_eq_some_iff.1 hu).1
    rw [dimsV_length, List.length_map, h.1] at this
    exact this
  obtain ⟨k1, k2⟩ := dimsV_at (xs.map fun p => (p.1.s, p.2.z)) (j / 2)
  have hi : j / 2 < xs.length := by rw [h.1]; omega
  have hx : xs[j / 2]? = some xs[j / 2] := List.getElem?_eq_getElem hi
  obtain ⟨us, hus, us1, ws1, rfl, hl1, hl2⟩ := hc (j / 2) _ hx
  obtain rfl : us1 = [.string xs[j / 2].1.s] := hl1
  obtain rfl : ws1 = [.int .i64 xs[j / 2].2.z] := hl2
  have c0 := hus 0 (show 0 < 2 by decide)
  have c1 := hus 1 (show 1 < 2 by decide)
  have hs2 : Lay.size (Str × Nm .i64) = 2 := rfl
  rw [hs2] at c0 c1
  rw [List.getElem?_map, hx] at k1 k2
  rcases Nat.mod_two_eq_zero_or_one j with h0 | h0
  · rw [show j / 2 * 2 = j by omega] at k1
    rw [k1] at hu
    rw [show j / 2 * 2 + 0 = j by omega] at c0
    rw [c0, ← hu]
    rfl
  · rw [show j / 2 * 2 + 1 = j by omega] at k2
    rw [k2] at hu
    rw [show j / 2 * 2 + 1 = j by omega] at c1
    rw [c1, ← hu]
    rfl
namespace H
theorem Ld.dimS {w : World} {B n : Nat} {A : Option Addr} {l : List (ByteArray × Int)} (h : Reads w B 2 A n (dimsV l)) {i : Nat} (hi : i < n) : Ld w (pA A (i * 2)) (.string (l.getD i d0).1) := by
  have h1 := Ld.rd h (j := i * 2) (by omega)
  have hl : i < l.length := by have := h.1; rw [dimsV_length] at this; omega
  have : (dimsV l).getD (i * 2) undef = .string (l.getD i d0).1 := by
    simp only [List.getD, (dimsV_at l i).1, List.getElem?_eq_getElem hl, Option.map_some, Option.getD_some]
  rwa [this] at h1
theorem Ld.dimN {w : World} {B n : Nat} {A : Option Addr} {l : List (ByteArray × Int)} (h : Reads w B 2 A n (dimsV l)) {i : Nat} (hi : i < n) : Ld w (pA A (i * 2 + 1)) (.int .i64 (l.getD i d0).2) := by
  have h1 := Ld.rd h (j := i * 2 + 1) (by omega)
  have hl : i < l.length := by have := h.1; rw [dimsV_length] at this; omega
  have : (dimsV l).getD (i * 2 + 1) undef = .int .i64 (l.getD i d0).2 := by
    simp only [List.getD, (dimsV_at l i).2, List.getElem?_eq_getElem hl, Option.map_some, Option.getD_some]
  rwa [this] at h1
end H
theorem schema4 {w : World} {B : Nat} {vs : List Value} {x : (List (Str × Nm .i64)) × List Str × List Str × List (Nm .u32)} (h : Lay.lies w B vs x) :
    ∃ Ad nd cd A1 n1 c1 A2 n2 c2 Av nv cv, vs = [.slice Ad nd cd, .slice A1 n1 c1, .slice A2 n2 c2, .slice Av nv cv] ∧ (nd ≤ cd ∧ cd ≤ maxLen) ∧ (n1 ≤ c1 ∧ c1 ≤ maxLen) ∧ (n2 ≤ c2 ∧ c2 ≤ maxLen) ∧ (nv ≤ cv ∧ cv ≤ maxLen) ∧
      Reads w B 2 Ad nd (dimsV (x.1.map fun p => (p.1.s, p.2.z))) ∧ Reads w B 1 A1 n1 (strs (x.2.1.map (·.s))) ∧ Reads w B 1 A2 n2 (strs (x.2.2.1.map (·.s))) ∧ Reads w B 1 Av nv (nums .u32 (zsOf x.2.2.2)) := by
  obtain ⟨us, ws, rfl, ⟨Ad, nd, cd, rfl, g1, g2, _, g3⟩, us2, ws2, rfl, ⟨A1, n1, c1, rfl, k1, k2, _, k3⟩, us3, ws3, rfl, ⟨A2, n2, c2, rfl, l1, l2, _, l3⟩, Av, nv, cv, rfl, m1, m2, _, m3⟩ := h
  exact ⟨Ad, nd, cd, A1, n1, c1, A2, n2, c2, Av, nv, cv, rfl, ⟨g1, g2⟩, ⟨k1, k2⟩, ⟨l1, l2⟩, ⟨m1, m2⟩, g3.dims, k3.strs, l3.strs, m3.reads⟩
end Go.Proofs.Ytlipeplfjkgamaa
namespace Go.Proofs.Ytlipeplfjkgamaa
set_option maxRecDepth 100000
open Go.RowKit H
set_option linter.unusedVariables false
theorem strs_ones (l : List ByteArray) : (strs l).all (·.oneCell') = true := by
  rw [List.all_eq_true]
  intro u hu
  simp only [strs, List.mem_map] at hu
  obtain ⟨x, _, rfl⟩ := hu
  rfl
theorem strs_append (a b : List ByteArray) : strs a ++ strs b = strs (a ++ b) := by simp [strs]
theorem dims_row {l : List (ByteArray × Int)} {i : Nat} (h : i < l.length) : ∀ (r : Nat) (v : Value), [Value.string (l.getD i d0).1, Value.int .i64 (l.getD i d0).2][r]? = some v → (dimsV l)[i * 2 + r]? = some v := by
  have e : l.getD i d0 = l[i] := by simp [List.getD, h]
  obtain ⟨h1, h2⟩ := dimsV_at l i
  rw [List.getElem?_eq_getElem h] at h1 h2
  rw [e]
  intro r v hv
  match r, hv with
  | 0, hv => rw [Nat.add_zero, h1]; exact hv
  | 1, hv => rw [h2]; exact hv
def nmL (ds : List (ByteArray × Int)) (s1 s2 : List ByteArray) : List ByteArray := ds.map (·.1) ++ s1 ++ s2
theorem names_take {ds : List (ByteArray × Int)} {i : Nat} (h : i < ds.length) : (ds.take (i + 1)).map (·.1) = (ds.take i).map (·.1) ++ [(ds.getD i d0).1] := by
  rw [List.take_add_one, List.getElem?_eq_getElem h, List.map_append]
  congr 1
  simp [List.getD, h]
theorem sall_any (Ad : Option Addr) (nd cd : Nat) (A1 : Option Addr) (n1 c1 : Nat) (A2 : Option Addr) (n2 c2 : Nat) (Av : Option Addr) (nv cv : Nat) (ds : List (ByteArray × Int)) (s1 s2 : List ByteArray) (w : World)
    (hd : Reads w w.heap.size 2 Ad nd (dimsV ds)) (h1 : Reads w w.heap.size 1 A1 n1 (strs s1)) (h2 : Reads w w.heap.size 1 A2 n2 (strs s2)) (hnd : nd ≤ 1000) (hn1 : n1 ≤ 1000) (hn2 : n2 ≤ 1000) :
    Calls Try.prog 180 #[.agg #[.slice Ad nd cd, .slice A1 n1 c1, .slice A2 n2 c2, .slice Av nv cv]] w fun e w' => ∃ A c, e = .returned (.slice A (nd + n1 + n2) c) ∧ w'.ownsRow w.heap.size 9 1 (.slice A (nd + n1 + n2) c) (nd + n1 + n2) (strs (nmL ds s1 s2)) ∧ Ext w w' := by
  have hl : ds.length = nd := by have := hd.1; rw [dimsV_length] at this; omega
  refine enter Try.func180 rfl (by kernel_rfl) ?_
  refine J.seq ?_
  refine J.region ?_
  refine L.boxA (l := [_, _, _, _]) rfl rfl ?_
  intro b1 w1 hb1 hs1 hk1 he1
  refine L.va rfl (X.assign (by conv => lhs; whnf)) ?_
  refine L.nil ?_
  refine J.seq ?_
  refine J.region ?_
  refine L.va rfl (X.assign (by conv => lhs; whnf)) ?_
  refine L.nil ?_
  refine J.seq ?_
  refine J.seq ?_
  refine J.region ?_
  refine L.va rfl (X.fieldAddr rfl Try.underlying49 rfl sz_45 (by decide)) ?_
  refine L.va rfl (X.load rfl sc_45 (by first | exact Ld.blk hk1 rfl)) ?_
  refine L.va rfl (X.len rfl Try.underlying45) ?_
  refine L.va rfl (X.move (by conv => lhs; whnf)) ?_
  refine L.nil ?_
  refine J.block ?_
  refine J.loop (X := Nat × Option Addr × Nat) [3, 5, 9, 10, 11, 12, 13, 14, 15, 16, 17, 18] (fun x => [(9, .int .i64 (x.1 : Int)), (3, .slice x.2.1 x.1 x.2.2)]) (fun x w' => x.1 ≤ nd ∧ w'.ownsRow w.heap.size 9 1 (.slice x.2.1 x.1 x.2.2) x.1 (strs ((ds.take x.1).map (·.1))) ∧ Blk w' b1 49 #[.slice Ad nd cd, .slice A1 n1 c1, .slice A2 n2 c2, .slice Av nv cv] ∧ Ext w w') (fun x => nd - x.1) ((0, none, 0)) (At2 (by first | rfl | exact at_int rfl (by omega) | exact at_slice rfl (by omega) | exact at_int rfl (by simp)) (by first | rfl | exact at_int rfl (by omega) | exact at_slice rfl (by omega) | exact at_int rfl (by simp))) ?_ ?_
  · exact ⟨by dsimp only; omega, own_nil _ _ _ _, hk1, he1⟩
  · rintro ⟨i, A, c⟩ g w2 ⟨hi, ho2, hk12, he2⟩
    dsimp only at hi ho2
    have q1 : ((i, A, c) : Nat × Option Addr × Nat).1 = i := rfl
    have hz2 := he2.le
    have hd2 := hd.ext he2
    refine J.seq ?_
    refine J.region ?_
    refine L.va rfl (X.lss rfl rfl) ?_
    refine L.nil ?_
    refine J.seq ?_
    refine J.dec rfl (fun hlt => ?_) (fun hlt => ?_)
    · have hil : i < ds.length := by rw [hl]; dsimp only at hlt; omega
      refine J.skip ?_
      refine J.seq ?_
      refine J.block ?_
      refine J.seq ?_
      refine J.region ?_
      refine L.va rfl ((by first | exact X.indexAddrn rfl rfl Try.underlying45 sz_128 (by first | exact Option.some_ne_none _ | exact hd2.some_ (by omega)) (by omega) | exact X.indexAddr rfl rfl Try.underlying45 sz_128 (by first | exact Option.some_ne_none _ | exact hd2.some_ (by omega)) (by omega))) ?_
      refine L.va rfl (X.loadRow (cs := [.string (ds.getD i d0).1, .int .i64 (ds.getD i d0).2]) rfl hd2 (dims_row hil) (Nat.zero_lt_succ _) Try.underlying128 rfl (by kernel_rfl)) ?_
      refine L.alloc rfl zr_128 ?_
      intro b3 w3 hb3 hs3 hk3 he3
      refine L.storeAgg (vs := [_, _]) rfl rfl rfl rfl sz_128 (hk3) rfl ?_
      intro w4 hk4 hg4 hs4
      have ho4 := (ho2.ext he3).kept hg4 (.inr (own_blk_ne (ho2.ext he3) hk3 (by decide)))
      have hlt1 := hk12.lt
      have hkS4 := (hk12.ext he3).grown hg4 (by intro hg; injection hg with hg; omega)
      have he4 : Ext w w4 := (he2.trans he3).grw hg4 (by intro g hg; injection hg with hg; omega)
      have hz4 := he4.le
      refine L.nil ?_
      refine J.region ?_
      refine L.va rfl (X.move (by conv => lhs; whnf)) ?_
      refine L.va rfl (X.fieldAddr rfl Try.underlying128 rfl sz_9 (by decide)) ?_
      refine L.va rfl (X.load rfl sc_9 (by first | exact Ld.blk hk4 rfl)) ?_
      refine L.bslice (vs := [_]) rfl (Evs.cons (by conv => lhs; whnf) Evs.nil) rfl rfl rfl rfl Try.underlying46 sz_9 zr_9 (by decide) ?_
      intro b5 w5 hb5 hs5 hk5 he5
      have hz5 := he5.le
      refine L.appendV (q := i + 1) (ys := strs ((ds.take i).map (·.1)) ++ strs [(ds.getD i d0).1]) rfl rfl rfl Try.underlying46 el_9 (ho4.ext he5) ((blk_reads (q := 1) (l := strs [(ds.getD i d0).1]) hk5 (by omega : b5 < w5.heap.size) rfl)) (by first | rfl | exact strs_ones _ | assumption) (by omega) (by simp) (by unfold maxLen; omega) (by omega) ?_
      intro A6 c6 w6 ho6 hg6 hb6 hor6
      rw [strs_append, ← names_take hil] at ho6
      have he6 : Ext w w6 := (he4.trans he5).low hb6 (Nat.le_refl _)
      have hkS6 := (hkS4.ext he5).grown hg6 (fun h => own_blk_ne (ho4.ext he5) (hkS4.ext he5) (by decide) h.symm)
      refine L.va rfl (X.assign (by conv => lhs; whnf)) ?_
      refine L.nil ?_
      refine J.region ?_
      refine L.va rfl (X.add rfl rfl (by omega)) ?_
      refine L.va rfl (X.move (by conv => lhs; whnf)) ?_
      refine L.nil ?_
      refine ⟨(i + 1, A6, c6), At2 (by first | rfl | exact at_int rfl (by omega) | exact at_slice rfl (by omega) | exact at_int rfl (by simp)) (by first | rfl | exact at_int rfl (by omega) | exact at_slice rfl (by omega) | exact at_int rfl (by simp)), (by (iterate 12 refine Agr.lk rfl ?_); exact Agr.lk rfl (Agr.hav rfl Agr.rfl')), ?_⟩
      exact ⟨⟨by dsimp only; omega, ho6, hkS6, he6⟩, by dsimp only; omega⟩
    · obtain rfl : i = nd := by dsimp only at hlt; omega
      rw [List.take_of_length_le (by omega)] at ho2
      refine J.exit ?_
      refine J.seq ?_
      refine J.region ?_
      refine L.va rfl (X.move (by conv => lhs; whnf)) ?_
      refine L.va rfl (X.fieldAddr rfl Try.underlying49 rfl sz_46 (by decide)) ?_
      refine L.va rfl (X.load rfl sc_46 (by first | exact Ld.blk hk12 rfl)) ?_
      refine L.appendV (q := i + n1) (ys := strs (ds.map (·.1)) ++ strs s1) rfl rfl rfl Try.underlying46 el_9 (ho2) ((h1.ext he2).here (by decide)) (by first | rfl | exact strs_ones _ | assumption) (by omega) (by simp) (by unfold maxLen; omega) (by omega) ?_
      intro A3 c3 w3 ho3 hg3 hb3 hor3
      rw [strs_append] at ho3
      have he3 : Ext w w3 := he2.low hb3 (Nat.le_refl _)
      have hk13 := hk12.grown hg3 (fun h => own_blk_ne ho2 hk12 (by decide) h.symm)
      have hz3 := he3.le
      refine L.va rfl (X.assign (by conv => lhs; whnf)) ?_
      refine L.nil ?_
      refine J.seq ?_
      refine J.region ?_
      refine L.va rfl (X.move (by conv => lhs; whnf)) ?_
      refine L.va rfl (X.fieldAddr rfl Try.underlying49 rfl sz_46 (by decide)) ?_
      refine L.va rfl (X.load rfl sc_46 (by first | exact Ld.blk hk13 rfl)) ?_
      refine L.appendV (q := i + n1 + n2) (ys := strs (ds.map (·.1) ++ s1) ++ strs s2) rfl rfl rfl Try.underlying46 el_9 (ho3) ((h2.ext he3).here (by decide)) (by first | rfl | exact strs_ones _ | assumption) (by omega) (by simp) (by unfold maxLen; omega) (by omega) ?_
      intro A4 c4 w4 ho4 hg4 hb4 hor4
      rw [strs_append] at ho4
      refine L.va rfl (X.assign (by conv => lhs; whnf)) ?_
      refine L.nil ?_
      refine J.ret ?_
      refine fin1 ?_
      exact ⟨A4, c4, rfl, ho4, he3.low hb4 (Nat.le_refl _)⟩
end Go.Proofs.Ytlipeplfjkgamaa
namespace Go.Proofs.Ytlipeplfjkgamaa
open Go.RowKit H
open Mk
set_option linter.unusedVariables false
theorem rtwo_any (n : Nat) (w : World) (hn : n < 32) :
    Calls Try.prog 96 #[.int .i64 (n : Int)] w fun e w' => e = .returned (.int .u32 ((2 ^ n : Nat) : Int)) ∧ w = w' := by
  refine enter Try.func96 rfl (by kernel_rfl) ?_
  refine J.seq ?_
  refine J.region ?_
  refine L.va rfl (X.assign (by conv => lhs; whnf)) ?_
  refine L.nil ?_
  refine J.seq ?_
  refine J.region ?_
  refine L.va rfl (X.assign (by conv => lhs; whnf)) ?_
  refine L.nil ?_
  refine J.seq ?_
  refine J.seq ?_
  refine J.region ?_
  refine L.va rfl (X.assign (by conv => lhs; whnf)) ?_
  refine L.nil ?_
  refine J.block ?_
  refine J.loop (X := Nat × Nat) [3, 4, 5, 6, 7, 8, 9, 10, 11] (fun x => [(4, .int .i64 (x.1 : Int)), (3, .int .u32 (x.2 : Int))]) (fun x w' => w' = w ∧ x.1 ≤ n ∧ x.2 = 2 ^ x.1) (fun x => n - x.1) ((0, 1)) (At2 (by first | rfl | exact at_int rfl (by omega) | exact at_slice rfl (by omega) | exact at_int rfl (by simp)) (by first | rfl | exact at_int rfl (by omega) | exact at_slice rfl (by omega) | exact at_int rfl (by simp))) ?_ ?_
  · exact ⟨rfl, by dsimp only; omega, rfl⟩
  · rintro ⟨i, p⟩ g w1 ⟨rfl, hi, hp⟩
    dsimp only at hi hp
    refine J.seq ?_
    refine J.seq ?_
    refine J.region ?_
    refine L.va rfl (X.move (by conv => lhs; whnf)) ?_
    refine L.va rfl (X.move (by conv => lhs; whnf)) ?_
    refine L.va rfl (X.lss rfl rfl) ?_
    refine L.nil ?_
    refine J.dec rfl (fun hlt => ?_) (fun hlt => ?_)
    · have hb : 2 ^ (i + 1) ≤ 2 ^ 31 := Nat.pow_le_pow_right (by decide) (by omega)
      have e : IntKind.u32.wrap (2 * (p : Int)) = ((2 ^ (i + 1) : Nat) : Int) := by
        rw [Nat.pow_succ, ← hp] at hb ⊢
        rw [w32 (by omega)]
        omega
      refine J.skip ?_
      refine J.seq ?_
      refine J.block ?_
      refine J.region ?_
      refine L.va rfl (X.move (by conv => lhs; whnf)) ?_
      refine L.va rfl (X.mulw rfl rfl) ?_
      refine L.va rfl (X.assign (by conv => lhs; whnf)) ?_
      refine L.nil ?_
      refine J.region ?_
      refine L.va rfl (X.move (by conv => lhs; whnf)) ?_
      refine L.va rfl (X.add rfl rfl (by omega)) ?_
      refine L.va rfl (X.assign (by conv => lhs; whnf)) ?_
      refine L.nil ?_
      refine ⟨(i + 1, 2 ^ (i + 1)), At2 (rfl) (at_int rfl e), (by (iterate 9 refine Agr.lk rfl ?_); exact Agr.lk rfl (Agr.hav rfl Agr.rfl')), ?_⟩
      exact ⟨⟨rfl, by dsimp only; omega, rfl⟩, by dsimp only; omega⟩
    · obtain rfl : i = n := by omega
      subst hp
      refine J.exit ?_
      refine J.seq ?_
      refine J.region ?_
      refine L.va rfl (X.move (by conv => lhs; whnf)) ?_
      refine L.va rfl (X.assign (by conv => lhs; whnf)) ?_
      refine L.nil ?_
      refine J.ret ?_
      refine fin1 ?_
      exact ⟨rfl, rfl⟩
theorem rin_any (a n : Nat) (w : World) (ha : a < 4294967296) (hn : n < 32) :
    Calls Try.prog 95 #[.int .u32 (a : Int), .int .i64 (n : Int)] w fun e w' => e = .returned (.bool (a.testBit n)) ∧ w = w' := by
  have hpos : 0 < ((2 ^ n : Nat) : Int) := by have := Nat.pow_pos (n := n) (by decide : 0 < 2); omega
  have hd : (a : Int) / ((2 ^ n : Nat) : Int) = ((a / 2 ^ n : Nat) : Int) := rfl
  have e : decide ((a : Int) / ((2 ^ n : Nat) : Int) % 2 = 1) = a.testBit n := by
    rw [Nat.testBit_eq_decide_div_mod_eq, hd, decide_eq_decide]
    omega
  have h0 : 0 ≤ (a : Int) / ((2 ^ n : Nat) : Int) := by rw [hd]; exact Int.natCast_nonneg _
  have hp := rtwo_any n
  generalize ((2 ^ n : Nat) : Int) = p at *
  refine enter Try.func95 rfl (by kernel_rfl) ?_
  refine J.seq ?_
  refine J.region ?_
  refine L.va rfl (X.assign (by conv => lhs; whnf)) ?_
  refine L.nil ?_
  refine J.seq ?_
  refine J.region ?_
  refine L.va rfl (X.move (by conv => lhs; whnf)) ?_
  refine L.va rfl (X.move (by conv => lhs; whnf)) ?_
  refine L.call rfl en_96 rfl (hp _ hn) ?_
  rintro e _ ⟨rfl, rfl⟩
  refine ⟨_, rfl, ?_⟩
  refine L.va rfl (X.quo32 rfl rfl (by omega)) ?_
  refine L.va rfl (X.rem rfl rfl (by omega)) ?_
  refine L.va rfl (X.eql rfl rfl) ?_
  refine L.va rfl (X.assign (by conv => lhs; whnf)) ?_
  refine L.nil ?_
  refine J.ret ?_
  refine fin1 ?_
  rw [e]
  exact ⟨rfl, rfl⟩
theorem rsub_any (a b : Nat) (w : World) (ha : a < 4294967296) (hb : b < 4294967296) :
    Calls Try.prog 98 #[.int .u32 (a : Int), .int .u32 (b : Int)] w fun e w' => e = .returned (.bool (sb a b)) ∧ w = w' := by
  refine enter Try.func98 rfl (by kernel_rfl) ?_
  refine J.seq ?_
  refine J.region ?_
  refine L.va rfl (X.assign (by conv => lhs; whnf)) ?_
  refine L.nil ?_
  refine J.seq ?_
  refine J.seq ?_
  refine J.region ?_
  refine L.va rfl (X.assign (by conv => lhs; whnf)) ?_
  refine L.nil ?_
  refine J.block ?_
  refine J.loop (X := Nat) [4, 5, 6, 7, 8, 9, 10, 11, 12, 13, 14, 15, 16, 17, 18] (fun i => [(5, .int .i64 (i : Int))]) (fun i w' => w' = w ∧ i ≤ 32 ∧ ∀ j, j < i → a.testBit j = true → b.testBit j = true) (fun i => 32 - i) (0) (At1 (by first | rfl | exact at_int rfl (by omega) | exact at_slice rfl (by omega) | exact at_int rfl (by simp))) ?_ ?_
  · exact ⟨rfl, by omega, fun j hj => absurd hj (by omega)⟩
  · rintro i g w1 ⟨rfl, hi, hP⟩
    refine J.seq ?_
    refine J.seq ?_
    refine J.region ?_
    refine L.va rfl (X.move (by conv => lhs; whnf)) ?_
    refine L.va rfl (X.lss rfl rfl) ?_
    refine L.nil ?_
    refine J.dec rfl (fun hlt => ?_) (fun hlt => ?_)
    · refine J.skip ?_
      refine J.seq ?_
      refine J.block ?_
      refine J.seq ?_
      refine J.region ?_
      refine L.va rfl (X.move (by conv => lhs; whnf)) ?_
      refine L.va rfl (X.move (by conv => lhs; whnf)) ?_
      refine L.call rfl en_95 rfl (rin_any a i _ ha (by omega)) ?_
      rintro e _ ⟨rfl, rfl⟩
      refine ⟨_, rfl, ?_⟩
      refine L.va rfl (X.move (by conv => lhs; whnf)) ?_
      refine L.caseB (k := 13) rfl (fun h1 => ?_) (fun h1 => ?_)
      · refine L.va rfl (X.move (by conv => lhs; whnf)) ?_
        refine L.va rfl (X.move (by conv => lhs; whnf)) ?_
        refine L.call rfl en_95 rfl (rin_any b i _ hb (by omega)) ?_
        rintro e _ ⟨rfl, rfl⟩
        refine ⟨_, rfl, ?_⟩
        cases h2 : b.testBit i
        · have e : sb a b = false := by
            cases hs : sb a b with
            | false => rfl
            | true => have := sb_iff.1 hs i h1; rw [h2] at this; cases this
          rw [e]
          refine L.va rfl (X.not rfl) ?_
          refine L.va rfl (X.pickT rfl (by conv => lhs; whnf)) ?_
          refine L.nil ?_
          refine J.iteT rfl ?_
          refine J.seq ?_
          refine J.region ?_
          refine L.va rfl (X.assign (by conv => lhs; whnf)) ?_
          refine L.nil ?_
          refine J.ret ?_
          refine inB_ret <|  thn_ret <|  thn_ret <|  inB_ret <|  thn_ret <| ?_
          refine fin1 ?_
          exact ⟨rfl, rfl⟩
        · refine L.va rfl (X.not rfl) ?_
          refine L.va rfl (X.pickT rfl (by conv => lhs; whnf)) ?_
          refine L.nil ?_
          refine J.iteF rfl ?_
          refine J.skip ?_
          refine J.region ?_
          refine L.va rfl (X.move (by conv => lhs; whnf)) ?_
          refine L.va rfl (X.add rfl rfl (by omega)) ?_
          refine L.va rfl (X.assign (by conv => lhs; whnf)) ?_
          refine L.nil ?_
          refine ⟨i + 1, At1 (by first | rfl | exact at_int rfl (by omega) | exact at_slice rfl (by omega) | exact at_int rfl (by simp)), (by (iterate 15 refine Agr.lk rfl ?_); exact Agr.lk rfl (Agr.hav rfl Agr.rfl')), ?_⟩
          refine ⟨⟨rfl, by omega, fun j hj => ?_⟩, by omega⟩
          rcases Nat.lt_or_ge j i with h | h
          · exact hP j h
          · obtain rfl : j = i := by omega
            exact fun _ => h2
      · refine L.no rfl ?_
        refine L.no rfl ?_
        refine L.no rfl ?_
        refine L.no rfl ?_
        refine L.va rfl (X.pickF rfl (by conv => lhs; whnf)) ?_
        refine L.nil ?_
        refine J.iteF rfl ?_
        refine J.skip ?_
        refine J.region ?_
        refine L.va rfl (X.move (by conv => lhs; whnf)) ?_
        refine L.va rfl (X.add rfl rfl (by omega)) ?_
        refine L.va rfl (X.assign (by conv => lhs; whnf)) ?_
        refine L.nil ?_
        refine ⟨i + 1, At1 (by first | rfl | exact at_int rfl (by omega) | exact at_slice rfl (by omega) | exact at_int rfl (by simp)), (by (iterate 15 refine Agr.lk rfl ?_); exact Agr.lk rfl (Agr.hav rfl Agr.rfl')), ?_⟩
        refine ⟨⟨rfl, by omega, fun j hj => ?_⟩, by omega⟩
        rcases Nat.lt_or_ge j i with h | h
        · exact hP j h
        · obtain rfl : j = i := by omega
          intro h2
          rw [h1] at h2
          cases h2
    · obtain rfl : i = 32 := by omega
      have e : sb a b = true := by
        rw [sb_iff]
        intro j hj
        rcases Nat.lt_or_ge j 32 with h | h
        · exact hP j h hj
        · have : a < 2 ^ j := Nat.lt_of_lt_of_le ha (by rw [show 4294967296 = 2 ^ 32 by decide]; exact Nat.pow_le_pow_right (by decide) h)
          rw [Nat.testBit_lt_two_pow this] at hj
          cases hj
      rw [e]
      refine J.exit ?_
      refine J.seq ?_
      refine J.region ?_
      refine L.va rfl (X.assign (by conv => lhs; whnf)) ?_
      refine L.nil ?_
      refine J.ret ?_
      refine fin1 ?_
      exact ⟨rfl, rfl⟩
end Go.Proofs.Ytlipeplfjkgamaa
namespace Go.Proofs.Ytlipeplfjkgamaa
set_option maxRecDepth 100000
open Go.RowKit H
set_option linter.unusedVariables false
theorem grb_new {a b c : World} {r r' : Option Nat} (h : a.grownBy b r) (k : b.grownBy c r') (hr : r' = r ∨ ∃ g, r' = some g ∧ a.heap.size ≤ g) : a.grownBy c r :=
  ⟨k.os.trans h.os, k.tape.trans h.tape, k.output.trans h.output, Nat.le_trans h.size k.size, fun i hi hne => (k.block i (Nat.lt_of_lt_of_le hi h.size) (by
    rcases hr with rfl | ⟨g, rfl, hg⟩
    · exact hne
    · intro he; injection he with he; omega)).trans (h.block i hi hne)⟩
theorem rnames_any (Ad : Option Addr) (nd cd : Nat) (A1 : Option Addr) (n1 c1 : Nat) (A2 : Option Addr) (n2 c2 : Nat) (Av : Option Addr) (nv cv : Nat) (ds : List (ByteArray × Int)) (s1 s2 : List ByteArray) (w : World)
    (hd : Reads w w.heap.size 2 Ad nd (dimsV ds)) (h1 : Reads w w.heap.size 1 A1 n1 (strs s1)) (h2 : Reads w w.heap.size 1 A2 n2 (strs s2)) (hnd : nd ≤ 1000) (hn1 : n1 ≤ 1000) (hn2 : n2 ≤ 1000) :
    Calls Try.prog 85 #[.agg #[.slice Ad nd cd, .slice A1 n1 c1, .slice A2 n2 c2, .slice Av nv cv]] w fun e w' => ∃ A c, e = .returned (.slice A (nd + n1 + n2) c) ∧ w'.ownsRow w.heap.size 9 1 (.slice A (nd + n1 + n2) c) (nd + n1 + n2) (strs (nmL ds s1 s2)) ∧ Ext w w' := by
  have hl : ds.length = nd := by have := hd.1; rw [dimsV_length] at this; omega
  refine enter Try.func85 rfl (by kernel_rfl) ?_
  refine J.seq ?_
  refine J.region ?_
  refine L.boxA (l := [_, _, _, _]) rfl rfl ?_
  intro b1 w1 hb1 hs1 hk1 he1
  refine L.va rfl (X.assign (by conv => lhs; whnf)) ?_
  refine L.nil ?_
  refine J.seq ?_
  refine J.region ?_
  refine L.va rfl (X.assign (by conv => lhs; whnf)) ?_
  refine L.nil ?_
  refine J.seq ?_
  refine J.seq ?_
  refine J.region ?_
  refine L.va rfl (X.assign (by conv => lhs; whnf)) ?_
  refine L.nil ?_
  refine J.block ?_
  refine J.loop (X := Nat × Option Addr × Nat) [3, 4, 5, 6, 7, 8, 9, 10, 11, 12, 13, 14, 15, 16, 17, 18, 19, 20] (fun x => [(4, .int .i64 (x.1 : Int)), (3, .slice x.2.1 x.1 x.2.2)]) (fun x w' => x.1 ≤ nd ∧ w'.ownsRow w.heap.size 9 1 (.slice x.2.1 x.1 x.2.2) x.1 (strs ((ds.take x.1).map (·.1))) ∧ Blk w' b1 49 #[.slice Ad nd cd, .slice A1 n1 c1, .slice A2 n2 c2, .slice Av nv cv] ∧ Ext w w') (fun x => nd - x.1) ((0, none, 0)) (At2 (by first | rfl | exact at_int rfl (by omega) | exact at_slice rfl (by omega) | exact at_int rfl (by simp)) (by first | rfl | exact at_int rfl (by omega) | exact at_slice rfl (by omega) | exact at_int rfl (by simp))) ?_ ?_
  · exact ⟨by dsimp only; omega, own_nil _ _ _ _, hk1, he1⟩
  · rintro ⟨i, A, c⟩ g w2 ⟨hi, ho2, hk12, he2⟩
    dsimp only at hi ho2
    have q1 : ((i, A, c) : Nat × Option Addr × Nat).1 = i := rfl
    have hz2 := he2.le
    have hd2 := hd.ext he2
    refine J.seq ?_
    refine J.seq ?_
    refine J.region ?_
    refine L.va rfl (X.move (by conv => lhs; whnf)) ?_
    refine L.va rfl (X.fieldAddr rfl Try.underlying49 rfl sz_45 (by decide)) ?_
    refine L.va rfl (X.load rfl sc_45 (by first | exact Ld.blk hk12 rfl | exact Ld.rd hd2 (by omega))) ?_
    refine L.va rfl (X.len rfl Try.underlying45) ?_
    refine L.va rfl (X.lss rfl rfl) ?_
    refine L.nil ?_
    refine J.dec rfl (fun hlt => ?_) (fun hlt => ?_)
    · have hil : i < ds.length := by rw [hl]; dsimp only at hlt; omega
      refine J.skip ?_
      refine J.seq ?_
      refine J.block ?_
      refine J.region ?_
      refine L.va rfl (X.move (by conv => lhs; whnf)) ?_
      refine L.va rfl (X.fieldAddr rfl Try.underlying49 rfl sz_45 (by decide)) ?_
      refine L.va rfl (X.load rfl sc_45 (by first | exact Ld.blk hk12 rfl | exact Ld.rd hd2 (by omega))) ?_
      refine L.va rfl (X.move (by conv => lhs; whnf)) ?_
      refine L.va rfl ((by first | exact X.indexAddrn rfl rfl Try.underlying45 sz_128 (by first | exact Option.some_ne_none _ | exact hd2.some_ (by omega)) (by omega) | exact X.indexAddr rfl rfl Try.underlying45 sz_128 (by first | exact Option.some_ne_none _ | exact hd2.some_ (by omega)) (by omega))) ?_
      refine L.va rfl (X.fieldP rfl Try.underlying128 rfl sz_9 (by decide) (by first | exact Option.some_ne_none _ | exact hd2.some_ (by omega))) ?_
      refine L.va rfl (X.load rfl sc_9 (Ld.dimS hd2 (by omega))) ?_
      refine L.bslice (vs := [_]) rfl (Evs.cons (by conv => lhs; whnf) Evs.nil) rfl rfl rfl rfl Try.underlying46 sz_9 zr_9 (by decide) ?_
      intro b5 w5 hb5 hs5 hk5 he5
      have hz5 := he5.le
      have hkS := hk12
      refine L.appendV (q := i + 1) (ys := strs ((ds.take i).map (·.1)) ++ strs [(ds.getD i d0).1]) rfl rfl rfl Try.underlying46 el_9 (ho2.ext he5) ((blk_reads (q := 1) (l := strs [(ds.getD i d0).1]) hk5 (by omega : b5 < w5.heap.size) rfl)) (by first | rfl | exact strs_ones _ | assumption) (by omega) (by simp) (by unfold maxLen; omega) (by omega) ?_
      intro A6 c6 w6 ho6 hg6 hb6 hor6
      rw [strs_append, ← names_take hil] at ho6
      have he6 : Ext w w6 := (he2.trans he5).low hb6 (Nat.le_refl _)
      have hkS6 := (hkS.ext he5).grown hg6 (fun h => own_blk_ne (ho2.ext he5) (hkS.ext he5) (by decide) h.symm)
      refine L.va rfl (X.assign (by conv => lhs; whnf)) ?_
      refine L.nil ?_
      refine J.region ?_
      refine L.va rfl (X.move (by conv => lhs; whnf)) ?_
      refine L.va rfl (X.add rfl rfl (by omega)) ?_
      refine L.va rfl (X.assign (by conv => lhs; whnf)) ?_
      refine L.nil ?_
      refine ⟨(i + 1, A6, c6), At2 (by first | rfl | exact at_int rfl (by omega) | exact at_slice rfl (by omega) | exact at_int rfl (by simp)) (by first | rfl | exact at_int rfl (by omega) | exact at_slice rfl (by omega) | exact at_int rfl (by simp)), (by (iterate 18 refine Agr.lk rfl ?_); exact Agr.lk rfl (Agr.hav rfl Agr.rfl')), ?_⟩
      exact ⟨⟨by dsimp only; omega, ho6, hkS6, he6⟩, by dsimp only; omega⟩
    · obtain rfl : i = nd := by dsimp only at hlt; omega
      rw [List.take_of_length_le (by omega)] at ho2
      have r1 := (h1.ext he2).here (by decide : 0 < 1)
      have r2 := (h2.ext he2).here (by decide : 0 < 1)
      refine J.exit ?_
      refine J.seq ?_
      have hne := own_blk_ne ho2 hk12 (by decide)
      refine J.draw (ℓ := 1000000) (S := (fun w' => w2.grownBy w' (Value.slice A i c).ownBlock)) mixed (fun w3 hSE hS_h => ?_)
      have hS : ((fun w' => w2.grownBy w' (Value.slice A i c).ownBlock)) w3 := grown_ext hSE
      refine D.va 0 rfl (by kernel_rfl) (fun _ _ _ h => h) rfl (fun w' hw => X.move (by conv => lhs; whnf)) hS ?_
      refine D.va 1 rfl (by kernel_rfl) (fun _ _ _ h => h) rfl (fun w' hw => X.fieldAddr rfl Try.underlying49 rfl sz_46 (by decide)) hS ?_
      refine D.va 2 rfl (by kernel_rfl) (fun _ _ _ h => h) rfl (fun w' hw => X.load rfl sc_46 (by first | exact Ld.blk (hk12.grown hw (fun h => hne h.symm)) rfl)) hS ?_
      refine D.va 4 rfl (by kernel_rfl) (fun _ _ _ h => h) rfl (fun w' hw => X.fieldAddr rfl Try.underlying49 rfl sz_46 (by decide)) hS ?_
      refine D.va 5 rfl (by kernel_rfl) (fun _ _ _ h => h) rfl (fun w' hw => X.load rfl sc_46 (by first | exact Ld.blk (hk12.grown hw (fun h => hne h.symm)) rfl)) hS ?_
      have hz3 := hSE.le
      refine D.one 3 (by kernel_rfl) rfl ?_
      refine L.appendV (q := i + n1) (ys := strs (ds.map (·.1)) ++ strs s1) rfl rfl rfl Try.underlying46 el_9 (ho2.ext hSE) ((r1.ext hSE).here (by decide)) (by first | rfl | exact strs_ones _ | assumption) (by omega) (by simp) (by unfold maxLen; omega) (by omega) ?_
      intro A3 c3 w4 ho3 hg3 hb3 hor3
      have hS1 := grb_trans hS hg3
      refine L.nil ?_
      refine ⟨fun _ => hS1, ?_⟩
      rw [strs_append] at ho3
      have he4 : Ext w w4 := (he2.trans hSE).low hb3 (Nat.le_refl _)
      have hz4 := he4.le
      refine D.one 6 (by kernel_rfl) rfl ?_
      refine L.appendV (q := i + n1 + n2) (ys := strs (ds.map (·.1) ++ s1) ++ strs s2) rfl rfl rfl Try.underlying46 el_9 (ho3) ((h2.ext he4).here (by decide)) (by first | rfl | exact strs_ones _ | assumption) (by omega) (by simp) (by unfold maxLen; omega) (by omega) ?_
      intro A4 c4 w5 ho4 hg4 hb4 hor4
      have hS2 := grb_new hS1 hg4 (by rcases hor3 with h | h; exact .inl h; exact .inr ⟨_, h, hz3⟩)
      refine L.nil ?_
      refine ⟨fun _ => hS2, ?_⟩
      rw [strs_append] at ho4
      refine D.va 7 rfl (by kernel_rfl) (fun _ _ _ h => h) rfl (fun w' hw => X.assign (by conv => lhs; whnf)) hS2 ?_
      refine D.done (by kernel_rfl) ?_
      replace hk12 := hk12.grown hS2 (fun h => hne h.symm)
      refine J.ret ?_
      refine fin1 ?_
      exact ⟨A4, c4, rfl, ho4, he4.low hb4 (Nat.le_refl _)⟩
end Go.Proofs.Ytlipeplfjkgamaa
namespace Go.Proofs.Ytlipeplfjkgamaa
set_option maxRecDepth 100000
open Go.RowKit H
set_option linter.unusedVariables false
theorem rfull_any (Ad : Option Addr) (nd cd : Nat) (v1 v2 v3 : Value) (w : World) (hnd : nd < 32) :
    Calls Try.prog 51 #[.agg #[.slice Ad nd cd, v1, v2, v3]] w fun e w' => e = .returned (.int .u32 ((2 ^ nd - 1 : Nat) : Int)) ∧ Ext w w' := by
  have hp : 1 ≤ 2 ^ nd ∧ 2 ^ nd ≤ 2 ^ 31 := ⟨Nat.pow_pos (by decide), Nat.pow_le_pow_right (by decide) (by omega)⟩
  have c1 := rtwo_any nd
  generalize 2 ^ nd = p at *
  have e : IntKind.u32.wrap ((p : Int) - 1) = ((p - 1 : Nat) : Int) := by rw [w32 (by omega)]; omega
  refine enter Try.func51 rfl (by kernel_rfl) ?_
  refine J.seq ?_
  refine J.region ?_
  refine L.boxA (l := [_, _, _, _]) rfl rfl ?_
  intro b1 w1 hb1 hs1 hk1 he1
  refine L.va rfl (X.assign (by conv => lhs; whnf)) ?_
  refine L.nil ?_
  refine J.seq ?_
  refine J.region ?_
  refine L.va rfl (X.fieldAddr rfl Try.underlying49 rfl sz_45 (by decide)) ?_
  refine L.va rfl (X.load rfl sc_45 (by first | exact Ld.blk hk1 rfl)) ?_
  refine L.va rfl (X.len rfl Try.underlying45) ?_
  refine L.call rfl en_96 rfl (c1 _ hnd) ?_
  rintro e _ ⟨rfl, rfl⟩
  refine ⟨_, rfl, ?_⟩
  refine L.va rfl (X.subw rfl rfl) ?_
  refine L.va rfl (X.assign (by conv => lhs; whnf)) ?_
  refine L.nil ?_
  refine J.ret ?_
  refine fin1 ?_
  rw [e]
  exact ⟨rfl, he1⟩
end Go.Proofs.Ytlipeplfjkgamaa
namespace Go.Proofs.Ytlipeplfjkgamaa
set_option maxRecDepth 100000
open Go.RowKit H
set_option linter.unusedVariables false
theorem light11 (Ad : Option Addr) (nd cd : Nat) (A1 : Option Addr) (n1 c1 : Nat) (A2 : Option Addr) (n2 c2 : Nat) (Av : Option Addr) (nv cv : Nat) (ds : List (ByteArray × Int)) (s1 s2 : List ByteArray) (w : World)
    (hd : Reads w w.heap.size 2 Ad nd (dimsV ds)) (h1 : Reads w w.heap.size 1 A1 n1 (strs s1)) (h2 : Reads w w.heap.size 1 A2 n2 (strs s2)) :
    Calls Try.prog 29 #[.agg #[.slice Ad nd cd, .slice A1 n1 c1, .slice A2 n2 c2, .slice Av nv cv]] w fun e w' => ∃ b, e = .returned (.bool b) ∧ (b = true → nd ≤ 100 ∧ n1 ≤ 100 ∧ n2 ≤ 100 ∧ nv ≤ 100) ∧ Ext w w' := by
  refine enter Try.func29 rfl (by kernel_rfl) ?_
  refine J.seq ?_
  refine J.region ?_
  refine L.boxA (l := [_, _, _, _]) rfl rfl ?_
  intro b1 w1 hb1 hs1 hk1 he1
  refine L.va rfl (X.assign (by conv => lhs; whnf)) ?_
  refine L.nil ?_
  refine J.seq ?_
  refine J.seq ?_
  refine J.region ?_
  refine L.va rfl (X.fieldAddr rfl Try.underlying49 rfl sz_45 (by decide)) ?_
  refine L.va rfl (X.load rfl sc_45 (by first | exact Ld.blk hk1 rfl)) ?_
  refine L.va rfl (X.len rfl Try.underlying45) ?_
  refine L.va rfl (X.gtr rfl rfl) ?_
  refine L.va rfl (X.move (by conv => lhs; whnf)) ?_
  refine L.caseDec (k := 9) rfl (fun a1 => ?_) (fun a1 => ?_)
  · refine L.no rfl ?_
    refine L.no rfl ?_
    refine L.no rfl ?_
    refine L.no rfl ?_
    refine L.va rfl (X.pickT rfl (by conv => lhs; whnf)) ?_
    refine L.va rfl (X.move (by conv => lhs; whnf)) ?_
    refine L.no rfl ?_
    refine L.no rfl ?_
    refine L.no rfl ?_
    refine L.no rfl ?_
    refine L.va rfl (X.pickT rfl (by conv => lhs; whnf)) ?_
    refine L.va rfl (X.move (by conv => lhs; whnf)) ?_
    refine L.no rfl ?_
    refine L.no rfl ?_
    refine L.no rfl ?_
    refine L.no rfl ?_
    refine L.va rfl (X.pickT rfl (by conv => lhs; whnf)) ?_
    refine L.nil ?_
    refine J.iteT rfl ?_
    refine J.seq ?_
    refine J.region ?_
    refine L.va rfl (X.assign (by conv => lhs; whnf)) ?_
    refine L.nil ?_
    refine J.ret ?_
    refine thn_ret <| ?_
    refine fin1 ?_
    exact ⟨false, rfl, by simp, he1⟩
  · refine L.va rfl (X.fieldAddr rfl Try.underlying49 rfl sz_46 (by decide)) ?_
    refine L.va rfl (X.load rfl sc_46 (by first | exact Ld.blk hk1 rfl)) ?_
    refine L.va rfl (X.len rfl Try.underlying46) ?_
    refine L.va rfl (X.gtr rfl rfl) ?_
    refine L.va rfl (X.pickF rfl (by conv => lhs; whnf)) ?_
    refine L.va rfl (X.move (by conv => lhs; whnf)) ?_
    refine L.caseDec (k := 15) rfl (fun a2 => ?_) (fun a2 => ?_)
    · refine L.no rfl ?_
      refine L.no rfl ?_
      refine L.no rfl ?_
      refine L.no rfl ?_
      refine L.va rfl (X.pickT rfl (by conv => lhs; whnf)) ?_
      refine L.va rfl (X.move (by conv => lhs; whnf)) ?_
      refine L.no rfl ?_
      refine L.no rfl ?_
      refine L.no rfl ?_
      refine L.no rfl ?_
      refine L.va rfl (X.pickT rfl (by conv => lhs; whnf)) ?_
      refine L.nil ?_
      refine J.iteT rfl ?_
      refine J.seq ?_
      refine J.region ?_
      refine L.va rfl (X.assign (by conv => lhs; whnf)) ?_
      refine L.nil ?_
      refine J.ret ?_
      refine thn_ret <| ?_
      refine fin1 ?_
      exact ⟨false, rfl, by simp, he1⟩
    · refine L.va rfl (X.fieldAddr rfl Try.underlying49 rfl sz_46 (by decide)) ?_
      refine L.va rfl (X.load rfl sc_46 (by first | exact Ld.blk hk1 rfl)) ?_
      refine L.va rfl (X.len rfl Try.underlying46) ?_
      refine L.va rfl (X.gtr rfl rfl) ?_
      refine L.va rfl (X.pickF rfl (by conv => lhs; whnf)) ?_
      refine L.va rfl (X.move (by conv => lhs; whnf)) ?_
      refine L.caseDec (k := 21) rfl (fun a3 => ?_) (fun a3 => ?_)
      · refine L.no rfl ?_
        refine L.no rfl ?_
        refine L.no rfl ?_
        refine L.no rfl ?_
        refine L.va rfl (X.pickT rfl (by conv => lhs; whnf)) ?_
        refine L.nil ?_
        refine J.iteT rfl ?_
        refine J.seq ?_
        refine J.region ?_
        refine L.va rfl (X.assign (by conv => lhs; whnf)) ?_
        refine L.nil ?_
        refine J.ret ?_
        refine thn_ret <| ?_
        refine fin1 ?_
        exact ⟨false, rfl, by simp, he1⟩
      · refine L.va rfl (X.fieldAddr rfl Try.underlying49 rfl sz_47 (by decide)) ?_
        refine L.va rfl (X.load rfl sc_47 (by first | exact Ld.blk hk1 rfl)) ?_
        refine L.va rfl (X.len rfl Try.underlying47) ?_
        refine L.va rfl (X.gtr rfl rfl) ?_
        refine L.va rfl (X.pickF rfl (by conv => lhs; whnf)) ?_
        refine L.nil ?_
        refine J.dec rfl (fun a4 => ?_) (fun a4 => ?_)
        · refine J.seq ?_
          refine J.region ?_
          refine L.va rfl (X.assign (by conv => lhs; whnf)) ?_
          refine L.nil ?_
          refine J.ret ?_
          refine thn_ret <| ?_
          refine fin1 ?_
          exact ⟨false, rfl, by simp, he1⟩
        · refine J.skip ?_
          refine J.seq ?_
          refine J.region ?_
          refine L.va rfl ((by first | exact X.loadAgg rfl (range_l hk1) Try.underlying49 rfl (by kernel_rfl) | exact X.loadAgg rfl (range_blk hk1) Try.underlying49 rfl (by kernel_rfl))) ?_
          refine L.call rfl en_85 rfl (rnames_any Ad nd cd A1 n1 c1 A2 n2 c2 Av nv cv ds s1 s2 _ ((hd.ext he1).here (by decide)) ((h1.ext he1).here (by decide)) ((h2.ext he1).here (by decide)) (by omega) (by omega) (by omega)) ?_
          rintro e w2 ⟨A, c, rfl, ho, he2⟩
          refine ⟨_, rfl, ?_⟩
          have he2 : Ext w1 w2 := he2
          refine L.va rfl (X.assign (by conv => lhs; whnf)) ?_
          refine L.nil ?_
          refine J.seq ?_
          refine J.seq ?_
          refine J.region ?_
          refine L.va rfl (X.assign (by conv => lhs; whnf)) ?_
          refine L.nil ?_
          refine J.block ?_
          refine J.loop (X := Nat) [2, 4, 29, 30, 31, 32, 33, 34, 35, 36, 37, 38, 39, 40] (fun i => [(4, .int .i64 (i : Int))]) (fun i w' => w' = w2 ∧ i ≤ nd + n1 + n2) (fun i => nd + n1 + n2 - i) (0) (At1 (by first | rfl | exact at_int rfl (by omega) | exact at_slice rfl (by omega) | exact at_int rfl (by simp))) ?_ ?_
          · exact ⟨rfl, by omega⟩
          · rintro i g w3 ⟨rfl, hi⟩
            refine J.seq ?_
            refine J.seq ?_
            refine J.region ?_
            refine L.va rfl (X.move (by conv => lhs; whnf)) ?_
            refine L.va rfl (X.move (by conv => lhs; whnf)) ?_
            refine L.va rfl (X.len rfl Try.underlying46) ?_
            refine L.va rfl (X.lss rfl rfl) ?_
            refine L.nil ?_
            refine J.dec rfl (fun hlt => ?_) (fun hlt => ?_)
            · refine J.skip ?_
              refine J.seq ?_
              refine J.block ?_
              refine J.seq ?_
              refine J.region ?_
              refine L.va rfl (X.move (by conv => lhs; whnf)) ?_
              refine L.va rfl (X.move (by conv => lhs; whnf)) ?_
              refine L.va rfl ((by first | exact X.index1n rfl rfl Try.underlying46 sz_9 (by first | exact Option.some_ne_none _ | exact own_ne ho (by omega)) (by omega) | exact X.index1 rfl rfl Try.underlying46 sz_9 (by first | exact Option.some_ne_none _ | exact own_ne ho (by omega)) (by omega))) ?_
              refine L.va rfl (X.load rfl sc_9 (by first | exact Ld.ostr ho (by omega))) ?_
              refine L.va rfl (X.lens rfl Try.underlying9) ?_
              refine L.va rfl (X.gtr rfl rfl) ?_
              refine L.nil ?_
              refine J.dec rfl (fun a5 => ?_) (fun a5 => ?_)
              · refine J.seq ?_
                refine J.region ?_
                refine L.va rfl (X.assign (by conv => lhs; whnf)) ?_
                refine L.nil ?_
                refine J.ret ?_
                refine inB_ret <|  thn_ret <|  thn_ret <|  inB_ret <|  thn_ret <| ?_
                refine fin1 ?_
                exact ⟨false, rfl, by simp, he1.trans he2⟩
              · refine J.skip ?_
                refine J.region ?_
                refine L.va rfl (X.move (by conv => lhs; whnf)) ?_
                refine L.va rfl (X.add rfl rfl (by omega)) ?_
                refine L.va rfl (X.assign (by conv => lhs; whnf)) ?_
                refine L.nil ?_
                refine ⟨i + 1, At1 (by first | rfl | exact at_int rfl (by omega) | exact at_slice rfl (by omega) | exact at_int rfl (by simp)), (by (iterate 13 refine Agr.lk rfl ?_); exact Agr.lk rfl (Agr.hav rfl Agr.rfl')), ?_⟩
                exact ⟨⟨rfl, by omega⟩, by omega⟩
            · refine J.exit ?_
              refine J.seq ?_
              refine J.region ?_
              refine L.va rfl (X.assign (by conv => lhs; whnf)) ?_
              refine L.nil ?_
              refine J.ret ?_
              refine fin1 ?_
              exact ⟨true, rfl, fun _ => ⟨by omega, by omega, by omega, by omega⟩, he1.trans he2⟩
end Go.Proofs.Ytlipeplfjkgamaa
namespace Go.Proofs.Ytlipeplfjkgamaa
set_option maxRecDepth 100000
set_option linter.unusedVariables false
def kyA (ds : List (ByteArray × Int)) : Nat → Int
  | 0 => 1
  | i + 1 => kyA ds i * (ds.getD i d0).2
def szB (ds : List (ByteArray × Int)) : Nat → Bool
  | 0 => true
  | i + 1 => szB ds i && decide (1 ≤ (ds.getD i d0).2 ∧ (ds.getD i d0).2 ≤ 4096 ∧ kyA ds (i + 1) ≤ 1099511627776)
def viB (F : Int) (zs : List Int) : Nat → Bool
  | 0 => true
  | i + 1 => viB F zs i && decide (zs.getD i 0 < F ∧ (i = 0 ∨ zs.getD (i - 1) 0 < zs.getD i 0))
def nmB (l : List ByteArray) : Nat → Bool
  | 0 => true
  | i + 1 => nmB l i && isS (l.getD i be0)
theorem mono_b {f : Nat → Bool} (hs : ∀ i, f (i + 1) = true → f i = true) {i n : Nat} (h : i ≤ n) (hn : f n = true) : f i = true := by
  induction n with
  | zero => obtain rfl : i = 0 := by omega
            exact hn
  | succ n ih =>
    rcases Nat.lt_or_ge n i with h' | h'
    · obtain rfl : i = n + 1 := by omega
      exact hn
    · exact ih h' (hs n hn)
theorem mono_f {f : Nat → Bool} (hs : ∀ i, f (i + 1) = true → f i = true) {i n : Nat} (h : i ≤ n) (hn : f i = false) : f n = false := by
  cases hc : f n with
  | false => rfl
  | true => rw [mono_b hs h hc] at hn; cases hn
theorem szB_s (ds : List (ByteArray × Int)) (i : Nat) (h : szB ds (i + 1) = true) : szB ds i = true := by simp only [szB, Bool.and_eq_true] at h; exact h.1
theorem viB_s (F : Int) (zs : List Int) (i : Nat) (h : viB F zs (i + 1) = true) : viB F zs i = true := by simp only [viB, Bool.and_eq_true] at h; exact h.1
theorem nmB_s (l : List ByteArray) (i : Nat) (h : nmB l (i + 1) = true) : nmB l i = true := by simp only [nmB, Bool.and_eq_true] at h; exact h.1
theorem szB_at {ds : List (ByteArray × Int)} {i : Nat} (h : szB ds (i + 1) = true) : 1 ≤ (ds.getD i d0).2 ∧ (ds.getD i d0).2 ≤ 4096 ∧ kyA ds (i + 1) ≤ 1099511627776 := by
  simp only [szB, Bool.and_eq_true] at h; exact of_decide_eq_true h.2
theorem szB_mk {ds : List (ByteArray × Int)} {i : Nat} (h : szB ds i = true) (k : 1 ≤ (ds.getD i d0).2 ∧ (ds.getD i d0).2 ≤ 4096 ∧ kyA ds (i + 1) ≤ 1099511627776) : szB ds (i + 1) = true := by
  simp only [szB, Bool.and_eq_true]; exact ⟨h, decide_eq_true k⟩
theorem szB_no {ds : List (ByteArray × Int)} {i : Nat} (k : ¬ (1 ≤ (ds.getD i d0).2 ∧ (ds.getD i d0).2 ≤ 4096 ∧ kyA ds (i + 1) ≤ 1099511627776)) : szB ds (i + 1) = false := by
  cases hc : szB ds (i + 1) with
  | false => rfl
  | true => exact absurd (szB_at hc) k
theorem viB_at {F : Int} {zs : List Int} {i : Nat} (h : viB F zs (i + 1) = true) : zs.getD i 0 < F ∧ (i = 0 ∨ zs.getD (i - 1) 0 < zs.getD i 0) := by
  simp only [viB, Bool.and_eq_true] at h; exact of_decide_eq_true h.2
theorem viB_mk {F : Int} {zs : List Int} {i : Nat} (h : viB F zs i = true) (k : zs.getD i 0 < F ∧ (i = 0 ∨ zs.getD (i - 1) 0 < zs.getD i 0)) : viB F zs (i + 1) = true := by
  simp only [viB, Bool.and_eq_true]; exact ⟨h, decide_eq_true k⟩
theorem viB_no {F : Int} {zs : List Int} {i : Nat} (k : ¬ (zs.getD i 0 < F ∧ (i = 0 ∨ zs.getD (i - 1) 0 < zs.getD i 0))) : viB F zs (i + 1) = false := by
  cases hc : viB F zs (i + 1) with
  | false => rfl
  | true => exact absurd (viB_at hc) k
theorem nmB_at {l : List ByteArray} {i : Nat} (h : nmB l (i + 1) = true) : isS (l.getD i be0) = true := by
  simp only [nmB, Bool.and_eq_true] at h; exact h.2
theorem nmB_mk {l : List ByteArray} {i : Nat} (h : nmB l i = true) (k : isS (l.getD i be0) = true) : nmB l (i + 1) = true := by
  simp only [nmB, Bool.and_eq_true]; exact ⟨h, k⟩
theorem nmB_no {l : List ByteArray} {i : Nat} (k : isS (l.getD i be0) = false) : nmB l (i + 1) = false := by
  simp only [nmB, k, Bool.and_false]
theorem kyA_bd {ds : List (ByteArray × Int)} {n : Nat} (h : szB ds n = true) : 1 ≤ kyA ds n ∧ kyA ds n ≤ 1099511627776 := by
  induction n with
  | zero => exact ⟨Int.le_refl _, show (1 : Int) ≤ 1099511627776 by decide⟩
  | succ n ih =>
    have h1 := ih (szB_s _ _ h)
    have h2 := szB_at h
    refine ⟨?_, h2.2.2⟩
    have : kyA ds (n + 1) = kyA ds n * (ds.getD n d0).2 := rfl
    rw [this]
    have := Int.mul_le_mul h1.1 h2.1 (by decide) (by omega)
    simpa using this
theorem ky_next {ds : List (ByteArray × Int)} {i : Nat} (hz : szB ds i = true) (h1 : 1 ≤ (ds.getD i d0).2) (h2 : (ds.getD i d0).2 ≤ 4096) : 1 ≤ kyA ds (i + 1) ∧ kyA ds (i + 1) ≤ 1099511627776 * 4096 := by
  have hb := kyA_bd hz
  have hA : kyA ds (i + 1) = kyA ds i * (ds.getD i d0).2 := rfl
  rw [hA]
  constructor
  · have := Int.mul_le_mul hb.1 h1 (by decide) (by omega)
    simpa using this
  · exact Int.mul_le_mul hb.2 h2 (by omega) (by decide)
def chk (nd n1 n2 nv : Nat) (ds : List (ByteArray × Int)) (s1 s2 : List ByteArray) (zs : List Int) : Int :=
  if ¬ (1 ≤ nd ∧ nd ≤ 6 ∧ n1 ≤ 3 ∧ n2 ≤ 2 ∧ nv ≤ 15) then 3
  else if nmB (nmL ds s1 s2) (nd + n1 + n2) = false then 8
  else if 0 ≤ tw (nmL ds s1 s2) then 9
  else if szB ds nd = false then 2
  else if viB ((2 ^ nd - 1 : Nat) : Int) zs nv = false then 6
  else 0
section
variable {nd n1 n2 nv : Nat} {ds : List (ByteArray × Int)} {s1 s2 : List ByteArray} {zs : List Int}
theorem chk_3 (h : ¬ (1 ≤ nd ∧ nd ≤ 6 ∧ n1 ≤ 3 ∧ n2 ≤ 2 ∧ nv ≤ 15)) : chk nd n1 n2 nv ds s1 s2 zs = 3 := by unfold chk; rw [if_pos h]
theorem chk_8 (h : 1 ≤ nd ∧ nd ≤ 6 ∧ n1 ≤ 3 ∧ n2 ≤ 2 ∧ nv ≤ 15) (h8 : nmB (nmL ds s1 s2) (nd + n1 + n2) = false) : chk nd n1 n2 nv ds s1 s2 zs = 8 := by unfold chk; rw [if_neg (fun k => k h), if_pos h8]
theorem chk_9 (h : 1 ≤ nd ∧ nd ≤ 6 ∧ n1 ≤ 3 ∧ n2 ≤ 2 ∧ nv ≤ 15) (h8 : nmB (nmL ds s1 s2) (nd + n1 + n2) = true) (h9 : 0 ≤ tw (nmL ds s1 s2)) : chk nd n1 n2 nv ds s1 s2 zs = 9 := by unfold chk; rw [if_neg (fun k => k h), if_neg (by rw [h8]; decide), if_pos h9]
theorem chk_2 (h : 1 ≤ nd ∧ nd ≤ 6 ∧ n1 ≤ 3 ∧ n2 ≤ 2 ∧ nv ≤ 15) (h8 : nmB (nmL ds s1 s2) (nd + n1 + n2) = true) (h9 : ¬ 0 ≤ tw (nmL ds s1 s2)) (h2 : szB ds nd = false) : chk nd n1 n2 nv ds s1 s2 zs = 2 := by unfold chk; rw [if_neg (fun k => k h), if_neg (by rw [h8]; decide), if_neg h9, if_pos h2]
theorem chk_6 (h : 1 ≤ nd ∧ nd ≤ 6 ∧ n1 ≤ 3 ∧ n2 ≤ 2 ∧ nv ≤ 15) (h8 : nmB (nmL ds s1 s2) (nd + n1 + n2) = true) (h9 : ¬ 0 ≤ tw (nmL ds s1 s2)) (h2 : szB ds nd = true) (h6 : viB ((2 ^ nd - 1 : Nat) : Int) zs nv = false) : chk nd n1 n2 nv ds s1 s2 zs = 6 := by unfold chk; rw [if_neg (fun k => k h), if_neg (by rw [h8]; decide), if_neg h9, if_neg (by rw [h2]; decide), if_pos h6]
theorem chk_0 (h : 1 ≤ nd ∧ nd ≤ 6 ∧ n1 ≤ 3 ∧ n2 ≤ 2 ∧ nv ≤ 15) (h8 : nmB (nmL ds s1 s2) (nd + n1 + n2) = true) (h9 : ¬ 0 ≤ tw (nmL ds s1 s2)) (h2 : szB ds nd = true) (h6 : viB ((2 ^ nd - 1 : Nat) : Int) zs nv = true) : chk nd n1 n2 nv ds s1 s2 zs = 0 := by unfold chk; rw [if_neg (fun k => k h), if_neg (by rw [h8]; decide), if_neg h9, if_neg (by rw [h2]; decide), if_neg (by rw [h6]; decide)]
theorem chk_ok (h : chk nd n1 n2 nv ds s1 s2 zs = 0) : (1 ≤ nd ∧ nd ≤ 6 ∧ n1 ≤ 3 ∧ n2 ≤ 2 ∧ nv ≤ 15) ∧ szB ds nd = true ∧ viB ((2 ^ nd - 1 : Nat) : Int) zs nv = true := by
  unfold chk at h
  split at h
  · cases h
  · rename_i h1
    split at h
    · cases h
    · split at h
      · cases h
      · split at h
        · cases h
        · rename_i h2
          split at h
          · cases h
          · rename_i h6
            exact ⟨Decidable.not_not.1 h1, by simpa using h2, by simpa using h6⟩
end
end Go.Proofs.Ytlipeplfjkgamaa
namespace Go.Proofs.Ytlipeplfjkgamaa
set_option maxRecDepth 100000
open Go.RowKit H
set_option linter.unusedVariables false
theorem pw6 {nd : Nat} (h : nd ≤ 6) : 1 ≤ 2 ^ nd ∧ 2 ^ nd ≤ 64 := ⟨Nat.pow_pos (by decide), Nat.le_trans (Nat.pow_le_pow_right (by decide) h) (by decide)⟩
theorem sb_full {a nd : Nat} (ha : a < 4294967296) (hn : nd ≤ 6) : Mk.sb a (2 ^ nd - 1) = decide (a ≤ 2 ^ nd - 1) := by
  have hp := (pw6 hn).1
  unfold Mk.sb
  rw [Nat.and_two_pow_sub_one_eq_mod, Bool.eq_iff_iff, beq_iff_eq, decide_eq_true_iff]
  constructor
  · intro h
    have := Nat.mod_lt a hp
    omega
  · intro h
    exact Nat.mod_eq_of_lt (by omega)
theorem rsub_full (z F : Int) (nd : Nat) (w : World) (hz : 0 ≤ z ∧ z < 4294967296) (hn : nd ≤ 6) (hF : ((2 ^ nd - 1 : Nat) : Int) = F) :
    Calls Try.prog 98 #[.int .u32 z, .int .u32 F] w fun e w' => e = .returned (.bool (decide (z ≤ F))) ∧ w = w' := by
  obtain ⟨a, rfl⟩ := Int.eq_ofNat_of_zero_le hz.1
  have hp := pw6 hn
  have h := rsub_any a (2 ^ nd - 1) w (by omega) (by omega)
  rw [sb_full (by omega) hn] at h
  have e : decide (a ≤ 2 ^ nd - 1) = decide ((a : Int) ≤ F) := by rw [decide_eq_decide]; omega
  rw [e, hF] at h
  exact h
theorem rcheck_any (Ad : Option Addr) (nd cd : Nat) (A1 : Option Addr) (n1 c1 : Nat) (A2 : Option Addr) (n2 c2 : Nat) (Av : Option Addr) (nv cv : Nat) (ds : List (ByteArray × Int)) (s1 s2 : List ByteArray) (zs : List Int) (w : World)
    (hd : Reads w w.heap.size 2 Ad nd (dimsV ds)) (h1 : Reads w w.heap.size 1 A1 n1 (strs s1)) (h2 : Reads w w.heap.size 1 A2 n2 (strs s2)) (hv : Reads w w.heap.size 1 Av nv (nums .u32 zs)) (hzs : ∀ i, 0 ≤ zs.getD i 0 ∧ zs.getD i 0 < 4294967296) (hnv : nv ≤ maxLen) :
    Calls Try.prog 97 #[.agg #[.slice Ad nd cd, .slice A1 n1 c1, .slice A2 n2 c2, .slice Av nv cv]] w fun e w' => e = .returned (.int .i64 (chk nd n1 n2 nv ds s1 s2 zs)) ∧ Ext w w' := by
  have hl : ds.length = nd := by have := hd.1; rw [dimsV_length] at this; omega
  unfold maxLen at hnv
  have t3 := @chk_3 nd n1 n2 nv ds s1 s2 zs
  refine enter Try.func97 rfl (by kernel_rfl) ?_
  refine J.seq ?_
  refine J.region ?_
  refine L.boxA (l := [_, _, _, _]) rfl rfl ?_
  intro b1 w1 hb1 hs1 hk1 he1
  refine L.va rfl (X.assign (by conv => lhs; whnf)) ?_
  refine L.nil ?_
  refine J.seq ?_
  refine J.seq ?_
  refine J.region ?_
  refine L.va rfl (X.fieldAddr rfl Try.underlying49 rfl sz_45 (by decide)) ?_
  refine L.va rfl (X.load rfl sc_45 (by first | exact Ld.blk hk1 rfl)) ?_
  refine L.va rfl (X.len rfl Try.underlying45) ?_
  refine L.va rfl (X.lss rfl rfl) ?_
  refine L.va rfl (X.move (by conv => lhs; whnf)) ?_
  refine L.caseDec (k := 14) rfl (fun a1 => ?_) (fun a1 => ?_)
  · rw [t3 (by omega)]
    refine L.no rfl ?_
    refine L.no rfl ?_
    refine L.no rfl ?_
    refine L.no rfl ?_
    refine L.va rfl (X.pickT rfl (by conv => lhs; whnf)) ?_
    refine L.va rfl (X.move (by conv => lhs; whnf)) ?_
    refine L.no rfl ?_
    refine L.no rfl ?_
    refine L.no rfl ?_
    refine L.no rfl ?_
    refine L.va rfl (X.pickT rfl (by conv => lhs; whnf)) ?_
    refine L.va rfl (X.move (by conv => lhs; whnf)) ?_
    refine L.no rfl ?_
    refine L.no rfl ?_
    refine L.no rfl ?_
    refine L.no rfl ?_
    refine L.va rfl (X.pickT rfl (by conv => lhs; whnf)) ?_
    refine L.va rfl (X.move (by conv => lhs; whnf)) ?_
    refine L.no rfl ?_
    refine L.no rfl ?_
    refine L.no rfl ?_
    refine L.no rfl ?_
    refine L.va rfl (X.pickT rfl (by conv => lhs; whnf)) ?_
    refine L.nil ?_
    refine J.iteT rfl ?_
    refine J.seq ?_
    refine J.region ?_
    refine L.va rfl (X.assign (by conv => lhs; whnf)) ?_
    refine L.nil ?_
    refine J.ret ?_
    refine thn_ret <| ?_
    refine fin1 ?_
    exact ⟨rfl, he1⟩
  · refine L.va rfl (X.fieldAddr rfl Try.underlying49 rfl sz_45 (by decide)) ?_
    refine L.va rfl (X.load rfl sc_45 (by first | exact Ld.blk hk1 rfl)) ?_
    refine L.va rfl (X.len rfl Try.underlying45) ?_
    refine L.va rfl (X.gtr rfl rfl) ?_
    refine L.va rfl (X.pickF rfl (by conv => lhs; whnf)) ?_
    refine L.va rfl (X.move (by conv => lhs; whnf)) ?_
    refine L.caseDec (k := 20) rfl (fun a2 => ?_) (fun a2 => ?_)
    · rw [t3 (by omega)]
      refine L.no rfl ?_
      refine L.no rfl ?_
      refine L.no rfl ?_
      refine L.no rfl ?_
      refine L.va rfl (X.pickT rfl (by conv => lhs; whnf)) ?_
      refine L.va rfl (X.move (by conv => lhs; whnf)) ?_
      refine L.no rfl ?_
      refine L.no rfl ?_
      refine L.no rfl ?_
      refine L.no rfl ?_
      refine L.va rfl (X.pickT rfl (by conv => lhs; whnf)) ?_
      refine L.va rfl (X.move (by conv => lhs; whnf)) ?_
      refine L.no rfl ?_
      refine L.no rfl ?_
      refine L.no rfl ?_
      refine L.no rfl ?_
      refine L.va rfl (X.pickT rfl (by conv => lhs; whnf)) ?_
      refine L.nil ?_
      refine J.iteT rfl ?_
      refine J.seq ?_
      refine J.region ?_
      refine L.va rfl (X.assign (by conv => lhs; whnf)) ?_
      refine L.nil ?_
      refine J.ret ?_
      refine thn_ret <| ?_
      refine fin1 ?_
      exact ⟨rfl, he1⟩
    · refine L.va rfl (X.fieldAddr rfl Try.underlying49 rfl sz_46 (by decide)) ?_
      refine L.va rfl (X.load rfl sc_46 (by first | exact Ld.blk hk1 rfl)) ?_
      refine L.va rfl (X.len rfl Try.underlying46) ?_
      refine L.va rfl (X.gtr rfl rfl) ?_
      refine L.va rfl (X.pickF rfl (by conv => lhs; whnf)) ?_
      refine L.va rfl (X.move (by conv => lhs; whnf)) ?_
      refine L.caseDec (k := 26) rfl (fun a3 => ?_) (fun a3 => ?_)
      · rw [t3 (by omega)]
        refine L.no rfl ?_
        refine L.no rfl ?_
        refine L.no rfl ?_
        refine L.no rfl ?_
        refine L.va rfl (X.pickT rfl (by conv => lhs; whnf)) ?_
        refine L.va rfl (X.move (by conv => lhs; whnf)) ?_
        refine L.no rfl ?_
        refine L.no rfl ?_
        refine L.no rfl ?_
        refine L.no rfl ?_
        refine L.va rfl (X.pickT rfl (by conv => lhs; whnf)) ?_
        refine L.nil ?_
        refine J.iteT rfl ?_
        refine J.seq ?_
        refine J.region ?_
        refine L.va rfl (X.assign (by conv => lhs; whnf)) ?_
        refine L.nil ?_
        refine J.ret ?_
        refine thn_ret <| ?_
        refine fin1 ?_
        exact ⟨rfl, he1⟩
      · refine L.va rfl (X.fieldAddr rfl Try.underlying49 rfl sz_46 (by decide)) ?_
        refine L.va rfl (X.load rfl sc_46 (by first | exact Ld.blk hk1 rfl)) ?_
        refine L.va rfl (X.len rfl Try.underlying46) ?_
        refine L.va rfl (X.gtr rfl rfl) ?_
        refine L.va rfl (X.pickF rfl (by conv => lhs; whnf)) ?_
        refine L.va rfl (X.move (by conv => lhs; whnf)) ?_
        refine L.caseDec (k := 32) rfl (fun a4 => ?_) (fun a4 => ?_)
        · rw [t3 (by omega)]
          refine L.no rfl ?_
          refine L.no rfl ?_
          refine L.no rfl ?_
          refine L.no rfl ?_
          refine L.va rfl (X.pickT rfl (by conv => lhs; whnf)) ?_
          refine L.nil ?_
          refine J.iteT rfl ?_
          refine J.seq ?_
          refine J.region ?_
          refine L.va rfl (X.assign (by conv => lhs; whnf)) ?_
          refine L.nil ?_
          refine J.ret ?_
          refine thn_ret <| ?_
          refine fin1 ?_
          exact ⟨rfl, he1⟩
        · refine L.va rfl (X.fieldAddr rfl Try.underlying49 rfl sz_47 (by decide)) ?_
          refine L.va rfl (X.load rfl sc_47 (by first | exact Ld.blk hk1 rfl)) ?_
          refine L.va rfl (X.len rfl Try.underlying47) ?_
          refine L.va rfl (X.gtr rfl rfl) ?_
          refine L.va rfl (X.pickF rfl (by conv => lhs; whnf)) ?_
          refine L.nil ?_
          refine J.dec rfl (fun a5 => ?_) (fun a5 => ?_)
          · rw [t3 (by omega)]
            refine J.seq ?_
            refine J.region ?_
            refine L.va rfl (X.assign (by conv => lhs; whnf)) ?_
            refine L.nil ?_
            refine J.ret ?_
            refine thn_ret <| ?_
            refine fin1 ?_
            exact ⟨rfl, he1⟩
          · have hlen : 1 ≤ nd ∧ nd ≤ 6 ∧ n1 ≤ 3 ∧ n2 ≤ 2 ∧ nv ≤ 15 := by omega
            have t8 := @chk_8 nd n1 n2 nv ds s1 s2 zs hlen
            have t9 := @chk_9 nd n1 n2 nv ds s1 s2 zs hlen
            have t2 := @chk_2 nd n1 n2 nv ds s1 s2 zs hlen
            have t6 := @chk_6 nd n1 n2 nv ds s1 s2 zs hlen
            have t0 := @chk_0 nd n1 n2 nv ds s1 s2 zs hlen
            refine J.skip ?_
            refine J.seq ?_
            refine J.region ?_
            refine L.va rfl ((by first | exact X.loadAgg rfl (range_l hk1) Try.underlying49 rfl (by kernel_rfl) | exact X.loadAgg rfl (range_blk hk1) Try.underlying49 rfl (by kernel_rfl))) ?_
            refine L.call rfl en_85 rfl (rnames_any Ad nd cd A1 n1 c1 A2 n2 c2 Av nv cv ds s1 s2 _ ((hd.ext he1).here (by decide)) ((h1.ext he1).here (by decide)) ((h2.ext he1).here (by decide)) (by omega) (by omega) (by omega)) ?_
            rintro e w2 ⟨A, c, rfl, ho, he2⟩
            refine ⟨_, rfl, ?_⟩
            have he2 : Ext w1 w2 := he2
            refine L.va rfl (X.assign (by conv => lhs; whnf)) ?_
            refine L.nil ?_
            refine J.seq ?_
            refine J.seq ?_
            refine J.region ?_
            refine L.va rfl (X.assign (by conv => lhs; whnf)) ?_
            refine L.nil ?_
            refine J.block ?_
            refine J.loop (X := Nat) [2, 4, 40, 41, 42, 43, 44, 45, 46, 47, 48, 49, 50, 51] (fun i => [(4, .int .i64 (i : Int))]) (fun i w' => i ≤ nd + n1 + n2 ∧ nmB (nmL ds s1 s2) i = true ∧ Ext w2 w') (fun i => nd + n1 + n2 - i) (0) (At1 (by first | rfl | exact at_int rfl (by omega) | exact at_slice rfl (by omega) | exact at_int rfl (by simp))) ?_ ?_
            · exact ⟨by omega, rfl, Ext.refl _⟩
            · rintro i g w3 ⟨hi, hB, he3⟩
              have ho3 := ho.ext he3
              have hk3 := (hk1.ext he2).ext he3
              refine J.seq ?_
              refine J.seq ?_
              refine J.region ?_
              refine L.va rfl (X.move (by conv => lhs; whnf)) ?_
              refine L.va rfl (X.move (by conv => lhs; whnf)) ?_
              refine L.va rfl (X.len rfl Try.underlying46) ?_
              refine L.va rfl (X.lss rfl rfl) ?_
              refine L.nil ?_
              refine J.dec rfl (fun hlt => ?_) (fun hlt => ?_)
              · refine J.skip ?_
                refine J.seq ?_
                refine J.block ?_
                refine J.seq ?_
                refine J.region ?_
                refine L.va rfl (X.move (by conv => lhs; whnf)) ?_
                refine L.va rfl (X.move (by conv => lhs; whnf)) ?_
                refine L.va rfl ((by first | exact X.index1n rfl rfl Try.underlying46 sz_9 (by first | exact Option.some_ne_none _ | exact own_ne ho3 (by omega)) (by omega) | exact X.index1 rfl rfl Try.underlying46 sz_9 (by first | exact Option.some_ne_none _ | exact own_ne ho3 (by omega)) (by omega))) ?_
                refine L.va rfl (X.load rfl sc_9 (by first | exact Ld.ostr ho3 (by omega) | exact Ld.blk hk3 rfl)) ?_
                refine L.call rfl en_177 rfl (ris_any _ _) ?_
                rintro e w4 ⟨rfl, he4⟩
                refine ⟨_, rfl, ?_⟩
                have he4 : Ext w3 w4 := he4
                cases hs : isS ((nmL ds s1 s2).getD i be0)
                · have hE := mono_f (nmB_s (nmL ds s1 s2)) (by omega : i + 1 ≤ nd + n1 + n2) (nmB_no hs)
                  rw [t8 hE]
                  refine L.va rfl (X.not rfl) ?_
                  refine L.nil ?_
                  refine J.iteT rfl ?_
                  refine J.seq ?_
                  refine J.region ?_
                  refine L.va rfl (X.assign (by conv => lhs; whnf)) ?_
                  refine L.nil ?_
                  refine J.ret ?_
                  refine inB_ret <|  thn_ret <|  thn_ret <|  inB_ret <|  thn_ret <| ?_
                  refine fin1 ?_
                  exact ⟨rfl, ((he1.trans he2).trans he3).trans he4⟩
                · refine L.va rfl (X.not rfl) ?_
                  refine L.nil ?_
                  refine J.iteF rfl ?_
                  refine J.skip ?_
                  refine J.region ?_
                  refine L.va rfl (X.move (by conv => lhs; whnf)) ?_
                  refine L.va rfl (X.add rfl rfl (by omega)) ?_
                  refine L.va rfl (X.assign (by conv => lhs; whnf)) ?_
                  refine L.nil ?_
                  refine ⟨i + 1, At1 (by first | rfl | exact at_int rfl (by omega) | exact at_slice rfl (by omega) | exact at_int rfl (by simp)), (by (iterate 13 refine Agr.lk rfl ?_); exact Agr.lk rfl (Agr.hav rfl Agr.rfl')), ?_⟩
                  exact ⟨⟨by omega, nmB_mk hB hs, he3.trans he4⟩, by omega⟩
              · obtain rfl : i = nd + n1 + n2 := by omega
                refine J.exit ?_
                refine J.seq ?_
                refine J.seq ?_
                refine J.region ?_
                refine L.va rfl (X.move (by conv => lhs; whnf)) ?_
                refine L.call rfl en_178 rfl (rtwice_any _ _ _ _ _ ((own_reads ho3).here (by decide)) (by exact (own_bd ho).1) (by omega)) ?_
                rintro e w4 ⟨rfl, he4⟩
                refine ⟨_, rfl, ?_⟩
                have he4 : Ext w3 w4 := he4
                have he14 := (he2.trans he3).trans he4
                have hk4 := hk1.ext he14
                have hd4 := (hd.ext he1).ext he14
                have hv4 := (hv.ext he1).ext he14
                have he04 := he1.trans he14
                refine L.va rfl (X.geq rfl rfl) ?_
                refine L.nil ?_
                refine J.dec rfl (fun h9 => ?_) (fun h9 => ?_)
                · rw [t9 hB h9]
                  refine J.seq ?_
                  refine J.region ?_
                  refine L.va rfl (X.assign (by conv => lhs; whnf)) ?_
                  refine L.nil ?_
                  refine J.ret ?_
                  refine thn_ret <| ?_
                  refine fin1 ?_
                  exact ⟨rfl, he04⟩
                · refine J.skip ?_
                  refine J.seq ?_
                  refine J.region ?_
                  refine L.va rfl (X.assign (by conv => lhs; whnf)) ?_
                  refine L.nil ?_
                  refine J.seq ?_
                  refine J.seq ?_
                  refine J.region ?_
                  refine L.va rfl (X.assign (by conv => lhs; whnf)) ?_
                  refine L.nil ?_
                  refine J.block ?_
                  refine J.loop (X := Nat × Int) [2, 5, 6, 7, 55, 56, 57, 58, 59, 60, 61, 62, 63, 64, 65, 66, 67, 68, 69, 70, 71, 72, 73, 74, 75, 76, 77, 78] (fun x => [(6, .int .i64 (x.1 : Int)), (5, .int .i64 x.2)]) (fun x w' => w' = w4 ∧ x.1 ≤ nd ∧ x.2 = kyA ds x.1 ∧ szB ds x.1 = true) (fun x => nd - x.1) ((0, 1)) (At2 (by first | rfl | exact at_int rfl (by omega) | exact at_slice rfl (by omega) | exact at_int rfl (by simp)) (by first | rfl | exact at_int rfl (by omega) | exact at_slice rfl (by omega) | exact at_int rfl (by simp))) ?_ ?_
                  · exact ⟨rfl, by dsimp only; omega, rfl, rfl⟩
                  · rintro ⟨i, z⟩ g w5 ⟨rfl, hi, hz, hS⟩
                    dsimp only at hi hz hS
                    have q1 : ((i, z) : Nat × Int).1 = i := rfl
                    have q2 : ((i, z) : Nat × Int).2 = z := rfl
                    have hzb := kyA_bd hS
                    rw [← hz] at hzb
                    refine J.seq ?_
                    refine J.seq ?_
                    refine J.region ?_
                    refine L.va rfl (X.move (by conv => lhs; whnf)) ?_
                    refine L.va rfl (X.fieldAddr rfl Try.underlying49 rfl sz_45 (by decide)) ?_
                    refine L.va rfl (X.load rfl sc_45 (by first | exact Ld.blk hk4 rfl | exact Ld.num hv4 (by omega) | exact Ld.rd hd4 (by omega))) ?_
                    refine L.va rfl (X.len rfl Try.underlying45) ?_
                    refine L.va rfl (X.lss rfl rfl) ?_
                    refine L.nil ?_
                    refine J.dec rfl (fun hlt2 => ?_) (fun hlt2 => ?_)
                    · have hil : i < nd := by dsimp only at hlt2; omega
                      have hnx := @ky_next ds i hS
                      have hno := @szB_no ds i
                      have hmf := fun h => t2 hB h9 (mono_f (szB_s ds) (by omega : i + 1 ≤ nd) h)
                      have hkn : kyA ds (i + 1) = z * (ds.getD i d0).2 := by rw [hz]; rfl
                      refine J.skip ?_
                      refine J.seq ?_
                      refine J.block ?_
                      refine J.seq ?_
                      refine J.region ?_
                      refine L.va rfl (X.fieldAddr rfl Try.underlying49 rfl sz_45 (by decide)) ?_
                      refine L.va rfl (X.load rfl sc_45 (by first | exact Ld.blk hk4 rfl | exact Ld.num hv4 (by omega) | exact Ld.rd hd4 (by omega))) ?_
                      refine L.va rfl (X.move (by conv => lhs; whnf)) ?_
                      refine L.va rfl ((by first | exact X.indexAddrn rfl rfl Try.underlying45 sz_128 (by first | exact Option.some_ne_none _ | exact hv4.some_ (by omega) | exact hd4.some_ (by omega)) (by omega) | exact X.indexAddr rfl rfl Try.underlying45 sz_128 (by first | exact Option.some_ne_none _ | exact hv4.some_ (by omega) | exact hd4.some_ (by omega)) (by omega))) ?_
                      refine L.va rfl (X.fieldP rfl Try.underlying128 rfl sz_3 (by decide) (by first | exact Option.some_ne_none _ | exact hv4.some_ (by omega) | exact hd4.some_ (by omega))) ?_
                      refine L.va rfl (X.load rfl sc_3 (Ld.dimN hd4 (by omega))) ?_
                      refine L.va rfl (X.assign (by conv => lhs; whnf)) ?_
                      refine L.nil ?_
                      refine J.seq ?_
                      refine J.seq ?_
                      refine J.region ?_
                      refine L.va rfl (X.move (by conv => lhs; whnf)) ?_
                      refine L.va rfl (X.lss rfl rfl) ?_
                      refine L.va rfl (X.move (by conv => lhs; whnf)) ?_
                      dsimp only
                      generalize hdv : (ds.getD i d0).2 = dv at *
                      refine L.caseDec (k := 70) rfl (fun b1 => ?_) (fun b1 => ?_)
                      · rw [hmf (hno (by omega))]
                        refine L.no rfl ?_
                        refine L.no rfl ?_
                        refine L.va rfl (X.pickT rfl (by conv => lhs; whnf)) ?_
                        refine L.nil ?_
                        refine J.iteT rfl ?_
                        refine J.seq ?_
                        refine J.region ?_
                        refine L.va rfl (X.assign (by conv => lhs; whnf)) ?_
                        refine L.nil ?_
                        refine J.ret ?_
                        refine thn_ret <|  inB_ret <|  thn_ret <|  thn_ret <|  inB_ret <|  thn_ret <| ?_
                        refine fin1 ?_
                        exact ⟨rfl, he04⟩
                      · refine L.va rfl (X.move (by conv => lhs; whnf)) ?_
                        refine L.va rfl (X.gtr rfl rfl) ?_
                        refine L.va rfl (X.pickF rfl (by conv => lhs; whnf)) ?_
                        refine L.nil ?_
                        refine J.dec rfl (fun b2 => ?_) (fun b2 => ?_)
                        · rw [hmf (hno (by omega))]
                          refine J.seq ?_
                          refine J.region ?_
                          refine L.va rfl (X.assign (by conv => lhs; whnf)) ?_
                          refine L.nil ?_
                          refine J.ret ?_
                          refine thn_ret <|  inB_ret <|  thn_ret <|  thn_ret <|  inB_ret <|  thn_ret <| ?_
                          refine fin1 ?_
                          exact ⟨rfl, he04⟩
                        · have hnx := hnx (by omega) (by omega)
                          rw [hkn] at hnx
                          have hnx' : 1 ≤ ((i, z) : Nat × Int).2 * dv ∧ ((i, z) : Nat × Int).2 * dv ≤ 1099511627776 * 4096 := hnx
                          have hq3 : ((i, z) : Nat × Int).2 * dv = z * dv := rfl
                          refine J.skip ?_
                          refine J.seq ?_
                          refine J.region ?_
                          refine L.va rfl (X.move (by conv => lhs; whnf)) ?_
                          refine L.va rfl (X.move (by conv => lhs; whnf)) ?_
                          refine L.va rfl (X.mul rfl rfl (by omega)) ?_
                          refine L.va rfl (X.assign (by conv => lhs; whnf)) ?_
                          refine L.nil ?_
                          refine J.seq ?_
                          refine J.region ?_
                          refine L.va rfl (X.move (by conv => lhs; whnf)) ?_
                          refine L.va rfl (X.gtr rfl rfl) ?_
                          refine L.nil ?_
                          refine J.dec rfl (fun b3 => ?_) (fun b3 => ?_)
                          · rw [hmf (hno (by omega))]
                            refine J.seq ?_
                            refine J.region ?_
                            refine L.va rfl (X.assign (by conv => lhs; whnf)) ?_
                            refine L.nil ?_
                            refine J.ret ?_
                            refine inB_ret <|  thn_ret <|  thn_ret <|  inB_ret <|  thn_ret <| ?_
                            refine fin1 ?_
                            exact ⟨rfl, he04⟩
                          · refine J.skip ?_
                            refine J.region ?_
                            refine L.va rfl (X.move (by conv => lhs; whnf)) ?_
                            refine L.va rfl (X.add rfl rfl (by omega)) ?_
                            refine L.va rfl (X.assign (by conv => lhs; whnf)) ?_
                            refine L.nil ?_
                            refine ⟨(i + 1, z * dv), At2 (by first | rfl | exact at_int rfl (by omega) | exact at_slice rfl (by omega) | exact at_int rfl (by simp)) (by first | rfl | exact at_int rfl (by omega) | exact at_slice rfl (by omega) | exact at_int rfl (by simp)), (by (iterate 28 refine Agr.lk rfl ?_); exact Agr.lk rfl (Agr.hav rfl Agr.rfl')), ?_⟩
                            exact ⟨⟨rfl, by dsimp only; omega, hkn.symm, szB_mk hS (by rw [hdv]; omega)⟩, by dsimp only; omega⟩
                    · obtain rfl : i = nd := by dsimp only at hlt2; omega
                      have hpw := pw6 hlen.2.1
                      refine J.exit ?_
                      refine J.seq ?_
                      refine J.region ?_
                      refine L.va rfl (X.fieldAddr rfl Try.underlying49 rfl sz_45 (by decide)) ?_
                      refine L.va rfl (X.load rfl sc_45 (by first | exact Ld.blk hk4 rfl | exact Ld.num hv4 (by omega) | exact Ld.rd hd4 (by omega))) ?_
                      refine L.va rfl (X.len rfl Try.underlying45) ?_
                      refine L.call rfl en_96 rfl (rtwo_any i _ (by omega)) ?_
                      rintro e _ ⟨rfl, rfl⟩
                      refine ⟨_, rfl, ?_⟩
                      generalize hF : ((2 ^ i - 1 : Nat) : Int) = F at *
                      have hsub : IntKind.u32.wrap (((2 ^ i : Nat) : Int) - 1) = F := by rw [w32 (by omega)]; omega
                      refine L.va rfl (X.subw rfl rfl) ?_
                      refine L.va rfl (X.assign (by conv => lhs; whnf)) ?_
                      refine L.nil ?_
                      refine J.seq ?_
                      refine J.seq ?_
                      refine J.region ?_
                      refine L.va rfl (X.assign (by conv => lhs; whnf)) ?_
                      refine L.nil ?_
                      refine J.block ?_
                      rw [hsub]
                      refine J.loop (X := Nat) [2, 9, 84, 85, 86, 87, 88, 89, 90, 91, 92, 93, 94, 95, 96, 97, 98, 99, 100, 101, 102, 103, 104, 105, 106, 107, 108, 109, 110, 111, 112, 113, 114, 115, 116, 117, 118, 119, 120, 121, 122, 123, 124, 125] (fun i => [(9, .int .i64 (i : Int))]) (fun i w' => Ext w5 w' ∧ i ≤ nv ∧ viB F zs i = true) (fun i => nv - i) (0) (At1 (by first | rfl | exact at_int rfl (by omega) | exact at_slice rfl (by omega) | exact at_int rfl (by simp))) ?_ ?_
                      · exact ⟨Ext.refl _, by omega, rfl⟩
                      · rintro j g w6 ⟨he6, hj, hV⟩
                        have hk6 := hk4.ext he6
                        have hv6 := hv4.ext he6
                        have he06 := he04.trans he6
                        refine J.seq ?_
                        refine J.seq ?_
                        refine J.region ?_
                        refine L.va rfl (X.move (by conv => lhs; whnf)) ?_
                        refine L.va rfl (X.fieldAddr rfl Try.underlying49 rfl sz_47 (by decide)) ?_
                        refine L.va rfl (X.load rfl sc_47 (by first | exact Ld.blk hk6 rfl | exact Ld.num hv6 (by omega))) ?_
                        refine L.va rfl (X.len rfl Try.underlying47) ?_
                        refine L.va rfl (X.lss rfl rfl) ?_
                        refine L.nil ?_
                        refine J.dec rfl (fun hlt3 => ?_) (fun hlt3 => ?_)
                        · have hno := @viB_no F zs j
                          have hmf := fun h => t6 hB h9 hS (mono_f (viB_s F zs) (by omega : j + 1 ≤ nv) h)
                          have hzj := hzs j
                          have hzj' := hzs (j - 1)
                          have hjp : zs.getD ((j : Int) - 1).toNat 0 = zs.getD (j - 1) 0 := by rw [show ((j : Int) - 1).toNat = j - 1 by omega]
                          refine J.skip ?_
                          refine J.seq ?_
                          refine J.block ?_
                          refine J.seq ?_
                          refine J.quiet mixed (by kernel_rfl) ?_
                          refine Qt.va rfl (fun w' hw => X.fieldAddr rfl Try.underlying49 rfl sz_47 (by decide)) ?_
                          refine Qt.va rfl (fun w' hw => X.load rfl sc_47 (by first | exact Ld.blk (hk6.ext hw) rfl | exact Ld.num (hv6.ext hw) (by omega))) ?_
                          refine Qt.va rfl (fun w' hw => X.move (by conv => lhs; whnf)) ?_
                          refine Qt.va rfl (fun w' hw => (by first | exact X.index1n rfl rfl Try.underlying47 sz_50 (by first | exact Option.some_ne_none _ | exact hv6.some_ (by omega)) (by omega) | exact X.index1 rfl rfl Try.underlying47 sz_50 (by first | exact Option.some_ne_none _ | exact hv6.some_ (by omega)) (by omega))) ?_
                          refine Qt.va rfl (fun w' hw => X.load rfl sc_50 (by first | exact Ld.blk (hk6.ext hw) rfl | exact Ld.num (hv6.ext hw) (by omega))) ?_
                          refine Qt.va rfl (fun w' hw => X.move (by conv => lhs; whnf)) ?_
                          refine Qt.call rfl en_98 rfl (fun w' hw => calls_same hw (rsub_full _ _ _ _ hzj hlen.2.1 hF)) ?_
                          refine Qt.va rfl (fun w' hw => X.not rfl) ?_
                          refine Qt.va rfl (fun w' hw => X.move (by conv => lhs; whnf)) ?_
                          refine Qt.caseB (k := 99) rfl (fun g1 => ?_) (fun g1 => ?_)
                          · have g1' : ¬ zs.getD j 0 ≤ F := nd_t g1
                            rw [hmf (hno (by omega))]
                            refine Qt.no rfl ?_
                            refine Qt.no rfl ?_
                            refine Qt.no rfl ?_
                            refine Qt.no rfl ?_
                            refine Qt.no rfl ?_
                            refine Qt.no rfl ?_
                            refine Qt.no rfl ?_
                            refine Qt.va rfl (fun w' hw => X.pickT rfl (by conv => lhs; whnf)) ?_
                            refine Qt.va rfl (fun w' hw => X.move (by conv => lhs; whnf)) ?_
                            refine Qt.no rfl ?_
                            refine Qt.no rfl ?_
                            refine Qt.no rfl ?_
                            refine Qt.no rfl ?_
                            refine Qt.no rfl ?_
                            refine Qt.no rfl ?_
                            refine Qt.no rfl ?_
                            refine Qt.no rfl ?_
                            refine Qt.no rfl ?_
                            refine Qt.no rfl ?_
                            refine Qt.no rfl ?_
                            refine Qt.no rfl ?_
                            refine Qt.no rfl ?_
                            refine Qt.no rfl ?_
                            refine Qt.no rfl ?_
                            refine Qt.no rfl ?_
                            refine Qt.va rfl (fun w' hw => X.pickT rfl (by conv => lhs; whnf)) ?_
                            refine Qt.nil (fun w7 hq => ?_)
                            replace hk6 := hk6.ext hq
                            replace hv6 := hv6.ext hq
                            refine J.iteT rfl ?_
                            refine J.seq ?_
                            refine J.region ?_
                            refine L.va rfl (X.assign (by conv => lhs; whnf)) ?_
                            refine L.nil ?_
                            refine J.ret ?_
                            refine inB_ret <|  thn_ret <|  thn_ret <|  inB_ret <|  thn_ret <| ?_
                            refine fin1 ?_
                            exact ⟨rfl, he06.trans hq⟩
                          · have g1' : zs.getD j 0 ≤ F := nd_f g1
                            refine Qt.va rfl (fun w' hw => X.fieldAddr rfl Try.underlying49 rfl sz_47 (by decide)) ?_
                            refine Qt.va rfl (fun w' hw => X.load rfl sc_47 (by first | exact Ld.blk (hk6.ext hw) rfl | exact Ld.num (hv6.ext hw) (by omega))) ?_
                            refine Qt.va rfl (fun w' hw => X.move (by conv => lhs; whnf)) ?_
                            refine Qt.va rfl (fun w' hw => (by first | exact X.index1n rfl rfl Try.underlying47 sz_50 (by first | exact Option.some_ne_none _ | exact hv6.some_ (by omega)) (by omega) | exact X.index1 rfl rfl Try.underlying47 sz_50 (by first | exact Option.some_ne_none _ | exact hv6.some_ (by omega)) (by omega))) ?_
                            refine Qt.va rfl (fun w' hw => X.load rfl sc_50 (by first | exact Ld.blk (hk6.ext hw) rfl | exact Ld.num (hv6.ext hw) (by omega))) ?_
                            refine Qt.va rfl (fun w' hw => X.move (by conv => lhs; whnf)) ?_
                            refine Qt.va rfl (fun w' hw => X.eql rfl rfl) ?_
                            refine Qt.va rfl (fun w' hw => X.pickF rfl (by conv => lhs; whnf)) ?_
                            refine Qt.va rfl (fun w' hw => X.move (by conv => lhs; whnf)) ?_
                            refine Qt.caseDec (k := 108) rfl (fun g2 => ?_) (fun g2 => ?_)
                            · rw [hmf (hno (by omega))]
                              refine Qt.no rfl ?_
                              refine Qt.no rfl ?_
                              refine Qt.no rfl ?_
                              refine Qt.no rfl ?_
                              refine Qt.no rfl ?_
                              refine Qt.no rfl ?_
                              refine Qt.no rfl ?_
                              refine Qt.no rfl ?_
                              refine Qt.no rfl ?_
                              refine Qt.no rfl ?_
                              refine Qt.no rfl ?_
                              refine Qt.no rfl ?_
                              refine Qt.no rfl ?_
                              refine Qt.no rfl ?_
                              refine Qt.no rfl ?_
                              refine Qt.no rfl ?_
                              refine Qt.va rfl (fun w' hw => X.pickT rfl (by conv => lhs; whnf)) ?_
                              refine Qt.nil (fun w7 hq => ?_)
                              replace hk6 := hk6.ext hq
                              replace hv6 := hv6.ext hq
                              refine J.iteT rfl ?_
                              refine J.seq ?_
                              refine J.region ?_
                              refine L.va rfl (X.assign (by conv => lhs; whnf)) ?_
                              refine L.nil ?_
                              refine J.ret ?_
                              refine inB_ret <|  thn_ret <|  thn_ret <|  inB_ret <|  thn_ret <| ?_
                              refine fin1 ?_
                              exact ⟨rfl, he06.trans hq⟩
                            · refine Qt.va rfl (fun w' hw => X.move (by conv => lhs; whnf)) ?_
                              refine Qt.va rfl (fun w' hw => X.gtr rfl rfl) ?_
                              refine Qt.va rfl (fun w' hw => X.move (by conv => lhs; whnf)) ?_
                              refine Qt.caseDec (k := 111) rfl (fun g3 => ?_) (fun g3 => ?_)
                              · refine Qt.va rfl (fun w' hw => X.fieldAddr rfl Try.underlying49 rfl sz_47 (by decide)) ?_
                                refine Qt.va rfl (fun w' hw => X.load rfl sc_47 (by first | exact Ld.blk (hk6.ext hw) rfl | exact Ld.num (hv6.ext hw) (by omega))) ?_
                                refine Qt.va rfl (fun w' hw => X.move (by conv => lhs; whnf)) ?_
                                refine Qt.va rfl (fun w' hw => (by first | exact X.index1n rfl rfl Try.underlying47 sz_50 (by first | exact Option.some_ne_none _ | exact hv6.some_ (by omega)) (by omega) | exact X.index1 rfl rfl Try.underlying47 sz_50 (by first | exact Option.some_ne_none _ | exact hv6.some_ (by omega)) (by omega))) ?_
                                refine Qt.va rfl (fun w' hw => X.load rfl sc_50 (by first | exact Ld.blk (hk6.ext hw) rfl | exact Ld.num (hv6.ext hw) (by omega))) ?_
                                refine Qt.va rfl (fun w' hw => X.fieldAddr rfl Try.underlying49 rfl sz_47 (by decide)) ?_
                                refine Qt.va rfl (fun w' hw => X.load rfl sc_47 (by first | exact Ld.blk (hk6.ext hw) rfl | exact Ld.num (hv6.ext hw) (by omega))) ?_
                                refine Qt.va rfl (fun w' hw => X.move (by conv => lhs; whnf)) ?_
                                refine Qt.va rfl (fun w' hw => X.sub rfl rfl (by omega)) ?_
                                refine Qt.va rfl (fun w' hw => (by first | exact X.index1n rfl rfl Try.underlying47 sz_50 (by first | exact Option.some_ne_none _ | exact hv6.some_ (by omega)) (by omega) | exact X.index1 rfl rfl Try.underlying47 sz_50 (by first | exact Option.some_ne_none _ | exact hv6.some_ (by omega)) (by omega))) ?_
                                refine Qt.va rfl (fun w' hw => X.load rfl sc_50 (by first | exact Ld.blk (hk6.ext hw) rfl | exact Ld.num (hv6.ext hw) (by omega))) ?_
                                refine Qt.va rfl (fun w' hw => X.leq rfl rfl) ?_
                                refine Qt.va rfl (fun w' hw => X.pickT rfl (by conv => lhs; whnf)) ?_
                                refine Qt.va rfl (fun w' hw => X.pickF rfl (by conv => lhs; whnf)) ?_
                                refine Qt.nil (fun w7 hq => ?_)
                                replace hk6 := hk6.ext hq
                                replace hv6 := hv6.ext hq
                                refine J.dec rfl (fun g4 => ?_) (fun g4 => ?_)
                                · rw [hmf (hno (by omega))]
                                  refine J.seq ?_
                                  refine J.region ?_
                                  refine L.va rfl (X.assign (by conv => lhs; whnf)) ?_
                                  refine L.nil ?_
                                  refine J.ret ?_
                                  refine inB_ret <|  thn_ret <|  thn_ret <|  inB_ret <|  thn_ret <| ?_
                                  refine fin1 ?_
                                  exact ⟨rfl, he06.trans hq⟩
                                · refine J.skip ?_
                                  refine J.region ?_
                                  refine L.va rfl (X.move (by conv => lhs; whnf)) ?_
                                  refine L.va rfl (X.add rfl rfl (by omega)) ?_
                                  refine L.va rfl (X.assign (by conv => lhs; whnf)) ?_
                                  refine L.nil ?_
                                  refine ⟨j + 1, At1 (by first | rfl | exact at_int rfl (by omega) | exact at_slice rfl (by omega) | exact at_int rfl (by simp)), (by (iterate 46 refine Agr.lk rfl ?_); exact Agr.lk rfl (Agr.hav rfl Agr.rfl')), ?_⟩
                                  exact ⟨⟨he6.trans hq, by omega, viB_mk hV (by omega)⟩, by omega⟩
                              · refine Qt.no rfl ?_
                                refine Qt.no rfl ?_
                                refine Qt.no rfl ?_
                                refine Qt.no rfl ?_
                                refine Qt.no rfl ?_
                                refine Qt.no rfl ?_
                                refine Qt.no rfl ?_
                                refine Qt.no rfl ?_
                                refine Qt.no rfl ?_
                                refine Qt.no rfl ?_
                                refine Qt.no rfl ?_
                                refine Qt.no rfl ?_
                                refine Qt.va rfl (fun w' hw => X.pickF rfl (by conv => lhs; whnf)) ?_
                                refine Qt.va rfl (fun w' hw => X.pickF rfl (by conv => lhs; whnf)) ?_
                                refine Qt.nil (fun w7 hq => ?_)
                                replace hk6 := hk6.ext hq
                                replace hv6 := hv6.ext hq
                                refine J.iteF rfl ?_
                                refine J.skip ?_
                                refine J.region ?_
                                refine L.va rfl (X.move (by conv => lhs; whnf)) ?_
                                refine L.va rfl (X.add rfl rfl (by omega)) ?_
                                refine L.va rfl (X.assign (by conv => lhs; whnf)) ?_
                                refine L.nil ?_
                                refine ⟨j + 1, At1 (by first | rfl | exact at_int rfl (by omega) | exact at_slice rfl (by omega) | exact at_int rfl (by simp)), (by (iterate 46 refine Agr.lk rfl ?_); exact Agr.lk rfl (Agr.hav rfl Agr.rfl')), ?_⟩
                                exact ⟨⟨he6.trans hq, by omega, viB_mk hV (by omega)⟩, by omega⟩
                        · obtain rfl : j = nv := by omega
                          rw [t0 hB h9 hS hV]
                          refine J.exit ?_
                          refine J.seq ?_
                          refine J.region ?_
                          refine L.va rfl (X.assign (by conv => lhs; whnf)) ?_
                          refine L.nil ?_
                          refine J.ret ?_
                          refine fin1 ?_
                          exact ⟨rfl, he06⟩
end Go.Proofs.Ytlipeplfjkgamaa
namespace Go.Proofs.Ytlipeplfjkgamaa
set_option maxRecDepth 100000
open Go.RowKit H
set_option linter.unusedVariables false
theorem nmB_sz {l : List ByteArray} (h : nmB l l.length = true) : ∀ s ∈ l, s.size ≤ maxLen := by
  intro s hs
  obtain ⟨i, hi, rfl⟩ := List.mem_iff_getElem.1 hs
  have h1 := nmB_at (mono_b (nmB_s l) (by omega : i + 1 ≤ l.length) h)
  have e : l.getD i be0 = l[i] := by simp [List.getD, hi]
  rw [e] at h1
  have h2 := (of_decide_eq_true h1).2.1
  unfold maxLen
  omega
theorem shl_full {nd : Nat} (h : nd ≤ 6) : IntKind.u32.wrap (1 * 2 ^ min ((nd : Int)).toNat IntKind.u32.bits) = ((2 ^ nd : Nat) : Int) := by
  have hb : IntKind.u32.bits = 32 := rfl
  have hp := pw6 h
  rw [hb, show min ((nd : Int)).toNat 32 = nd by omega, Int.one_mul]
  have e : ((2 : Int) ^ nd) = ((2 ^ nd : Nat) : Int) := by simp
  rw [e, w32 (by omega)]
theorem quo_gt {k d : Int} (hd : 0 < d) : 1099511627776 / d < k ↔ 1099511627776 < k * d := Int.ediv_lt_iff_lt_mul hd
theorem check_any (Ad : Option Addr) (nd cd : Nat) (A1 : Option Addr) (n1 c1 : Nat) (A2 : Option Addr) (n2 c2 : Nat) (Av : Option Addr) (nv cv : Nat) (ds : List (ByteArray × Int)) (s1 s2 : List ByteArray) (zs : List Int) (w : World)
    (hd : Reads w w.heap.size 2 Ad nd (dimsV ds)) (h1 : Reads w w.heap.size 1 A1 n1 (strs s1)) (h2 : Reads w w.heap.size 1 A2 n2 (strs s2)) (hv : Reads w w.heap.size 1 Av nv (nums .u32 zs)) (hzs : ∀ i, 0 ≤ zs.getD i 0 ∧ zs.getD i 0 < 4294967296) (hnv : nv ≤ maxLen) :
    Calls Try.prog 107 #[.agg #[.slice Ad nd cd, .slice A1 n1 c1, .slice A2 n2 c2, .slice Av nv cv]] w fun e w' => e = .returned (.int .i64 (chk nd n1 n2 nv ds s1 s2 zs)) ∧ Ext w w' := by
  have hl : ds.length = nd := by have := hd.1; rw [dimsV_length] at this; omega
  unfold maxLen at hnv
  have t3 := @chk_3 nd n1 n2 nv ds s1 s2 zs
  refine enter Try.func107 rfl (by kernel_rfl) ?_
  refine J.seq ?_
  refine J.region ?_
  refine L.boxA (l := [_, _, _, _]) rfl rfl ?_
  intro b1 w1 hb1 hs1 hk1 he1
  refine L.va rfl (X.assign (by conv => lhs; whnf)) ?_
  refine L.nil ?_
  refine J.seq ?_
  refine J.seq ?_
  refine J.region ?_
  refine L.va rfl (X.fieldAddr rfl Try.underlying49 rfl sz_45 (by decide)) ?_
  refine L.va rfl (X.load rfl sc_45 (by first | exact Ld.blk hk1 rfl)) ?_
  refine L.va rfl (X.len rfl Try.underlying45) ?_
  refine L.va rfl (X.eql rfl rfl) ?_
  refine L.va rfl (X.move (by conv => lhs; whnf)) ?_
  refine L.caseDec (k := 16) rfl (fun a1 => ?_) (fun a1 => ?_)
  · rw [t3 (by omega)]
    refine L.no rfl ?_
    refine L.no rfl ?_
    refine L.no rfl ?_
    refine L.no rfl ?_
    refine L.va rfl (X.pickT rfl (by conv => lhs; whnf)) ?_
    refine L.va rfl (X.move (by conv => lhs; whnf)) ?_
    refine L.no rfl ?_
    refine L.no rfl ?_
    refine L.no rfl ?_
    refine L.no rfl ?_
    refine L.va rfl (X.pickT rfl (by conv => lhs; whnf)) ?_
    refine L.va rfl (X.move (by conv => lhs; whnf)) ?_
    refine L.no rfl ?_
    refine L.no rfl ?_
    refine L.no rfl ?_
    refine L.no rfl ?_
    refine L.va rfl (X.pickT rfl (by conv => lhs; whnf)) ?_
    refine L.va rfl (X.move (by conv => lhs; whnf)) ?_
    refine L.no rfl ?_
    refine L.no rfl ?_
    refine L.no rfl ?_
    refine L.no rfl ?_
    refine L.va rfl (X.pickT rfl (by conv => lhs; whnf)) ?_
    refine L.nil ?_
    refine J.iteT rfl ?_
    refine J.seq ?_
    refine J.region ?_
    refine L.va rfl (X.assign (by conv => lhs; whnf)) ?_
    refine L.nil ?_
    refine J.ret ?_
    refine thn_ret <| ?_
    refine fin1 ?_
    exact ⟨rfl, he1⟩
  · refine L.va rfl (X.fieldAddr rfl Try.underlying49 rfl sz_45 (by decide)) ?_
    refine L.va rfl (X.load rfl sc_45 (by first | exact Ld.blk hk1 rfl)) ?_
    refine L.va rfl (X.len rfl Try.underlying45) ?_
    refine L.va rfl (X.gtr rfl rfl) ?_
    refine L.va rfl (X.pickF rfl (by conv => lhs; whnf)) ?_
    refine L.va rfl (X.move (by conv => lhs; whnf)) ?_
    refine L.caseDec (k := 22) rfl (fun a2 => ?_) (fun a2 => ?_)
    · rw [t3 (by omega)]
      refine L.no rfl ?_
      refine L.no rfl ?_
      refine L.no rfl ?_
      refine L.no rfl ?_
      refine L.va rfl (X.pickT rfl (by conv => lhs; whnf)) ?_
      refine L.va rfl (X.move (by conv => lhs; whnf)) ?_
      refine L.no rfl ?_
      refine L.no rfl ?_
      refine L.no rfl ?_
      refine L.no rfl ?_
      refine L.va rfl (X.pickT rfl (by conv => lhs; whnf)) ?_
      refine L.va rfl (X.move (by conv => lhs; whnf)) ?_
      refine L.no rfl ?_
      refine L.no rfl ?_
      refine L.no rfl ?_
      refine L.no rfl ?_
      refine L.va rfl (X.pickT rfl (by conv => lhs; whnf)) ?_
      refine L.nil ?_
      refine J.iteT rfl ?_
      refine J.seq ?_
      refine J.region ?_
      refine L.va rfl (X.assign (by conv => lhs; whnf)) ?_
      refine L.nil ?_
      refine J.ret ?_
      refine thn_ret <| ?_
      refine fin1 ?_
      exact ⟨rfl, he1⟩
    · refine L.va rfl (X.fieldAddr rfl Try.underlying49 rfl sz_46 (by decide)) ?_
      refine L.va rfl (X.load rfl sc_46 (by first | exact Ld.blk hk1 rfl)) ?_
      refine L.va rfl (X.len rfl Try.underlying46) ?_
      refine L.va rfl (X.gtr rfl rfl) ?_
      refine L.va rfl (X.pickF rfl (by conv => lhs; whnf)) ?_
      refine L.va rfl (X.move (by conv => lhs; whnf)) ?_
      refine L.caseDec (k := 28) rfl (fun a3 => ?_) (fun a3 => ?_)
      · rw [t3 (by omega)]
        refine L.no rfl ?_
        refine L.no rfl ?_
        refine L.no rfl ?_
        refine L.no rfl ?_
        refine L.va rfl (X.pickT rfl (by conv => lhs; whnf)) ?_
        refine L.va rfl (X.move (by conv => lhs; whnf)) ?_
        refine L.no rfl ?_
        refine L.no rfl ?_
        refine L.no rfl ?_
        refine L.no rfl ?_
        refine L.va rfl (X.pickT rfl (by conv => lhs; whnf)) ?_
        refine L.nil ?_
        refine J.iteT rfl ?_
        refine J.seq ?_
        refine J.region ?_
        refine L.va rfl (X.assign (by conv => lhs; whnf)) ?_
        refine L.nil ?_
        refine J.ret ?_
        refine thn_ret <| ?_
        refine fin1 ?_
        exact ⟨rfl, he1⟩
      · refine L.va rfl (X.fieldAddr rfl Try.underlying49 rfl sz_46 (by decide)) ?_
        refine L.va rfl (X.load rfl sc_46 (by first | exact Ld.blk hk1 rfl)) ?_
        refine L.va rfl (X.len rfl Try.underlying46) ?_
        refine L.va rfl (X.gtr rfl rfl) ?_
        refine L.va rfl (X.pickF rfl (by conv => lhs; whnf)) ?_
        refine L.va rfl (X.move (by conv => lhs; whnf)) ?_
        refine L.caseDec (k := 34) rfl (fun a4 => ?_) (fun a4 => ?_)
        · rw [t3 (by omega)]
          refine L.no rfl ?_
          refine L.no rfl ?_
          refine L.no rfl ?_
          refine L.no rfl ?_
          refine L.va rfl (X.pickT rfl (by conv => lhs; whnf)) ?_
          refine L.nil ?_
          refine J.iteT rfl ?_
          refine J.seq ?_
          refine J.region ?_
          refine L.va rfl (X.assign (by conv => lhs; whnf)) ?_
          refine L.nil ?_
          refine J.ret ?_
          refine thn_ret <| ?_
          refine fin1 ?_
          exact ⟨rfl, he1⟩
        · refine L.va rfl (X.fieldAddr rfl Try.underlying49 rfl sz_47 (by decide)) ?_
          refine L.va rfl (X.load rfl sc_47 (by first | exact Ld.blk hk1 rfl)) ?_
          refine L.va rfl (X.len rfl Try.underlying47) ?_
          refine L.va rfl (X.gtr rfl rfl) ?_
          refine L.va rfl (X.pickF rfl (by conv => lhs; whnf)) ?_
          refine L.nil ?_
          refine J.dec rfl (fun a5 => ?_) (fun a5 => ?_)
          · rw [t3 (by omega)]
            refine J.seq ?_
            refine J.region ?_
            refine L.va rfl (X.assign (by conv => lhs; whnf)) ?_
            refine L.nil ?_
            refine J.ret ?_
            refine thn_ret <| ?_
            refine fin1 ?_
            exact ⟨rfl, he1⟩
          · have hlen : 1 ≤ nd ∧ nd ≤ 6 ∧ n1 ≤ 3 ∧ n2 ≤ 2 ∧ nv ≤ 15 := by omega
            have t8 := @chk_8 nd n1 n2 nv ds s1 s2 zs hlen
            have t9 := @chk_9 nd n1 n2 nv ds s1 s2 zs hlen
            have t2 := @chk_2 nd n1 n2 nv ds s1 s2 zs hlen
            have t6 := @chk_6 nd n1 n2 nv ds s1 s2 zs hlen
            have t0 := @chk_0 nd n1 n2 nv ds s1 s2 zs hlen
            refine J.skip ?_
            refine J.seq ?_
            refine J.region ?_
            refine L.va rfl ((by first | exact X.loadAgg rfl (range_l hk1) Try.underlying49 rfl (by kernel_rfl) | exact X.loadAgg rfl (range_blk hk1) Try.underlying49 rfl (by kernel_rfl))) ?_
            refine L.call rfl en_180 rfl (sall_any Ad nd cd A1 n1 c1 A2 n2 c2 Av nv cv ds s1 s2 _ ((hd.ext he1).here (by decide)) ((h1.ext he1).here (by decide)) ((h2.ext he1).here (by decide)) (by omega) (by omega) (by omega)) ?_
            rintro e w2 ⟨A, c, rfl, ho, he2⟩
            refine ⟨_, rfl, ?_⟩
            have he2 : Ext w1 w2 := he2
            have hk2 := hk1.ext he2
            refine L.va rfl (X.assign (by conv => lhs; whnf)) ?_
            refine L.nil ?_
            refine J.seq ?_
            refine J.seq ?_
            refine J.region ?_
            refine L.va rfl (X.move (by conv => lhs; whnf)) ?_
            refine L.va rfl (X.len rfl Try.underlying46) ?_
            refine L.va rfl (X.move (by conv => lhs; whnf)) ?_
            refine L.nil ?_
            refine J.block ?_
            refine J.loop (X := Nat) [2, 5, 44, 45, 46, 47, 48, 49, 50, 51] (fun i => [(44, .int .i64 (i : Int))]) (fun i w' => i ≤ nd + n1 + n2 ∧ nmB (nmL ds s1 s2) i = true ∧ Ext w2 w') (fun i => nd + n1 + n2 - i) (0) (At1 (by first | rfl | exact at_int rfl (by omega) | exact at_slice rfl (by omega) | exact at_int rfl (by simp))) ?_ ?_
            · exact ⟨by omega, rfl, Ext.refl _⟩
            · rintro i g w3 ⟨hi, hB, he3⟩
              have ho3 := ho.ext he3
              have hk3 := (hk1.ext he2).ext he3
              refine J.seq ?_
              refine J.region ?_
              refine L.va rfl (X.lss rfl rfl) ?_
              refine L.nil ?_
              refine J.seq ?_
              refine J.dec rfl (fun hlt => ?_) (fun hlt => ?_)
              · refine J.skip ?_
                refine J.seq ?_
                refine J.block ?_
                refine J.seq ?_
                refine J.region ?_
                refine L.va rfl ((by first | exact X.index1n rfl rfl Try.underlying46 sz_9 (by first | exact Option.some_ne_none _ | exact own_ne ho3 (by omega)) (by omega) | exact X.index1 rfl rfl Try.underlying46 sz_9 (by first | exact Option.some_ne_none _ | exact own_ne ho3 (by omega)) (by omega))) ?_
                refine L.va rfl (X.load rfl sc_9 (by first | exact Ld.ostr ho3 (by omega) | exact Ld.blk hk3 rfl)) ?_
                refine L.va rfl (X.assign (by conv => lhs; whnf)) ?_
                refine L.nil ?_
                refine J.seq ?_
                refine J.region ?_
                refine L.va rfl (X.move (by conv => lhs; whnf)) ?_
                refine L.call rfl en_181 rfl (is_any _ _) ?_
                rintro e w4 ⟨rfl, he4⟩
                refine ⟨_, rfl, ?_⟩
                have he4 : Ext w3 w4 := he4
                cases hs : isS ((nmL ds s1 s2).getD i be0)
                · have hE := mono_f (nmB_s (nmL ds s1 s2)) (by omega : i + 1 ≤ nd + n1 + n2) (nmB_no hs)
                  rw [t8 hE]
                  refine L.va rfl (X.not rfl) ?_
                  refine L.nil ?_
                  refine J.iteT rfl ?_
                  refine J.seq ?_
                  refine J.region ?_
                  refine L.va rfl (X.assign (by conv => lhs; whnf)) ?_
                  refine L.nil ?_
                  refine J.ret ?_
                  refine inB_ret <|  thn_ret <|  thn_ret <|  inB_ret <|  thn_ret <| ?_
                  refine fin1 ?_
                  exact ⟨rfl, ((he1.trans he2).trans he3).trans he4⟩
                · refine L.va rfl (X.not rfl) ?_
                  refine L.nil ?_
                  refine J.iteF rfl ?_
                  refine J.skip ?_
                  refine J.region ?_
                  refine L.va rfl (X.add rfl rfl (by omega)) ?_
                  refine L.va rfl (X.move (by conv => lhs; whnf)) ?_
                  refine L.nil ?_
                  refine ⟨i + 1, At1 (by first | rfl | exact at_int rfl (by omega) | exact at_slice rfl (by omega) | exact at_int rfl (by simp)), (by (iterate 9 refine Agr.lk rfl ?_); exact Agr.lk rfl (Agr.hav rfl Agr.rfl')), ?_⟩
                  exact ⟨⟨by omega, nmB_mk hB hs, he3.trans he4⟩, by omega⟩
              · obtain rfl : i = nd + n1 + n2 := by omega
                refine J.exit ?_
                refine J.seq ?_
                refine J.seq ?_
                refine J.region ?_
                refine L.va rfl (X.move (by conv => lhs; whnf)) ?_
                have hll : (nmL ds s1 s2).length = nd + n1 + n2 := by have := (own_reads ho3).1; simpa [strs] using this
                have hBl := hB
                rw [← hll] at hBl
                refine L.call rfl en_182 rfl (twice_any _ _ _ _ _ ((own_reads ho3).here (by decide)) (by have := own_bd ho; omega) (nmB_sz hBl)) ?_
                rintro e w4 ⟨rfl, he4⟩
                refine ⟨_, rfl, ?_⟩
                have he4 : Ext w3 w4 := he4
                have he14 := (he2.trans he3).trans he4
                have hk4 := hk1.ext he14
                have hd4 := (hd.ext he1).ext he14
                have hv4 := (hv.ext he1).ext he14
                have he04 := he1.trans he14
                refine L.va rfl (X.geq rfl rfl) ?_
                refine L.nil ?_
                refine J.dec rfl (fun h9 => ?_) (fun h9 => ?_)
                · rw [t9 hB h9]
                  refine J.seq ?_
                  refine J.region ?_
                  refine L.va rfl (X.assign (by conv => lhs; whnf)) ?_
                  refine L.nil ?_
                  refine J.ret ?_
                  refine thn_ret <| ?_
                  refine fin1 ?_
                  exact ⟨rfl, he04⟩
                · refine J.skip ?_
                  refine J.seq ?_
                  refine J.region ?_
                  refine L.va rfl (X.assign (by conv => lhs; whnf)) ?_
                  refine L.nil ?_
                  refine J.seq ?_
                  refine J.seq ?_
                  refine J.region ?_
                  refine L.va rfl (X.fieldAddr rfl Try.underlying49 rfl sz_45 (by decide)) ?_
                  refine L.va rfl (X.load rfl sc_45 (by first | exact Ld.blk hk4 rfl | exact Ld.num hv4 (by omega) | exact Ld.rd hd4 (by omega))) ?_
                  refine L.va rfl (X.len rfl Try.underlying45) ?_
                  refine L.va rfl (X.move (by conv => lhs; whnf)) ?_
                  refine L.nil ?_
                  refine J.block ?_
                  refine J.loop (X := Nat × Int) [2, 6, 8, 58, 59, 60, 61, 62, 63, 64, 65, 66, 67, 68, 69, 70, 71, 72, 73, 74, 75, 76, 77, 78, 79, 80, 81] (fun x => [(58, .int .i64 (x.1 : Int)), (6, .int .i64 x.2)]) (fun x w' => Ext w4 w' ∧ x.1 ≤ nd ∧ x.2 = kyA ds x.1 ∧ szB ds x.1 = true) (fun x => nd - x.1) ((0, 1)) (At2 (by first | rfl | exact at_int rfl (by omega) | exact at_slice rfl (by omega) | exact at_int rfl (by simp)) (by first | rfl | exact at_int rfl (by omega) | exact at_slice rfl (by omega) | exact at_int rfl (by simp))) ?_ ?_
                  · exact ⟨Ext.refl _, by dsimp only; omega, rfl, rfl⟩
                  · rintro ⟨i, z⟩ g w5 ⟨he5, hi, hz, hS⟩
                    dsimp only at hi hz hS
                    have q1 : ((i, z) : Nat × Int).1 = i := rfl
                    have q2 : ((i, z) : Nat × Int).2 = z := rfl
                    have hzb := kyA_bd hS
                    rw [← hz] at hzb
                    have hk5 := hk4.ext he5
                    have hd5 := hd4.ext he5
                    have hv5 := hv4.ext he5
                    have he05 := he04.trans he5
                    refine J.seq ?_
                    refine J.region ?_
                    refine L.va rfl (X.lss rfl rfl) ?_
                    refine L.nil ?_
                    refine J.seq ?_
                    refine J.dec rfl (fun hlt2 => ?_) (fun hlt2 => ?_)
                    · have hil : i < nd := by dsimp only at hlt2; omega
                      have hnx := @ky_next ds i hS
                      have hno := @szB_no ds i
                      have hmf := fun h => t2 hB h9 (mono_f (szB_s ds) (by omega : i + 1 ≤ nd) h)
                      have hkn : kyA ds (i + 1) = z * (ds.getD i d0).2 := by rw [hz]; rfl
                      have hrow := dims_row (l := ds) (i := i) (by omega)
                      generalize hdv : (ds.getD i d0).2 = dv at *
                      refine J.skip ?_
                      refine J.seq ?_
                      refine J.block ?_
                      refine J.seq ?_
                      refine J.region ?_
                      refine L.va rfl ((by first | exact X.indexAddrn rfl rfl Try.underlying45 sz_128 (by first | exact Option.some_ne_none _ | exact hv5.some_ (by omega) | exact hd5.some_ (by omega)) (by omega) | exact X.indexAddr rfl rfl Try.underlying45 sz_128 (by first | exact Option.some_ne_none _ | exact hv5.some_ (by omega) | exact hd5.some_ (by omega)) (by omega))) ?_
                      refine L.va rfl (X.loadRow (cs := [.string (ds.getD i d0).1, .int .i64 dv]) rfl hd5 hrow (Nat.zero_lt_succ _) Try.underlying128 rfl (by kernel_rfl)) ?_
                      refine L.alloc rfl zr_128 ?_
                      intro b6 w6 hb6 hs6 hk6 he6
                      refine L.storeAgg (vs := [_, _]) rfl rfl rfl rfl sz_128 (hk6) rfl ?_
                      intro w7 hk7 hg7 hs7
                      have hz5 := he05.le
                      have he57 : Ext w5 w7 := he6.grw hg7 (by intro g hg; injection hg with hg; omega)
                      have he07 := he05.trans he57
                      have hk57 := hk5.ext he57
                      refine L.nil ?_
                      refine J.seq ?_
                      refine J.seq ?_
                      refine J.region ?_
                      refine L.va rfl (X.fieldAddr rfl Try.underlying128 rfl sz_3 (by decide)) ?_
                      refine L.va rfl (X.load rfl sc_3 (by first | exact Ld.blk hk7 rfl)) ?_
                      refine L.va rfl (X.lss rfl rfl) ?_
                      refine L.va rfl (X.move (by conv => lhs; whnf)) ?_
                      refine L.caseDec (k := 65) rfl (fun b1 => ?_) (fun b1 => ?_)
                      · rw [hmf (hno (by omega))]
                        refine L.no rfl ?_
                        refine L.no rfl ?_
                        refine L.no rfl ?_
                        refine L.va rfl (X.pickT rfl (by conv => lhs; whnf)) ?_
                        refine L.va rfl (X.move (by conv => lhs; whnf)) ?_
                        refine L.no rfl ?_
                        refine L.no rfl ?_
                        refine L.no rfl ?_
                        refine L.no rfl ?_
                        refine L.no rfl ?_
                        refine L.va rfl (X.pickT rfl (by conv => lhs; whnf)) ?_
                        refine L.nil ?_
                        refine J.iteT rfl ?_
                        refine J.seq ?_
                        refine J.region ?_
                        refine L.va rfl (X.assign (by conv => lhs; whnf)) ?_
                        refine L.nil ?_
                        refine J.ret ?_
                        refine thn_ret <|  inB_ret <|  thn_ret <|  thn_ret <|  inB_ret <|  thn_ret <| ?_
                        refine fin1 ?_
                        exact ⟨rfl, he07⟩
                      · refine L.va rfl (X.fieldAddr rfl Try.underlying128 rfl sz_3 (by decide)) ?_
                        refine L.va rfl (X.load rfl sc_3 (by first | exact Ld.blk hk7 rfl)) ?_
                        refine L.va rfl (X.gtr rfl rfl) ?_
                        refine L.va rfl (X.pickF rfl (by conv => lhs; whnf)) ?_
                        refine L.va rfl (X.move (by conv => lhs; whnf)) ?_
                        refine L.caseDec (k := 70) rfl (fun b2 => ?_) (fun b2 => ?_)
                        · rw [hmf (hno (by omega))]
                          refine L.no rfl ?_
                          refine L.no rfl ?_
                          refine L.no rfl ?_
                          refine L.no rfl ?_
                          refine L.no rfl ?_
                          refine L.va rfl (X.pickT rfl (by conv => lhs; whnf)) ?_
                          refine L.nil ?_
                          refine J.iteT rfl ?_
                          refine J.seq ?_
                          refine J.region ?_
                          refine L.va rfl (X.assign (by conv => lhs; whnf)) ?_
                          refine L.nil ?_
                          refine J.ret ?_
                          refine thn_ret <|  inB_ret <|  thn_ret <|  thn_ret <|  inB_ret <|  thn_ret <| ?_
                          refine fin1 ?_
                          exact ⟨rfl, he07⟩
                        · have hnx := hnx (by omega) (by omega)
                          rw [hkn] at hnx
                          have hnx' : 1 ≤ ((i, z) : Nat × Int).2 * dv ∧ ((i, z) : Nat × Int).2 * dv ≤ 1099511627776 * 4096 := hnx
                          have hq3 : ((i, z) : Nat × Int).2 * dv = z * dv := rfl
                          have hqg := @quo_gt z dv (by omega)
                          refine L.va rfl (X.move (by conv => lhs; whnf)) ?_
                          refine L.va rfl (X.fieldAddr rfl Try.underlying128 rfl sz_3 (by decide)) ?_
                          refine L.va rfl (X.load rfl sc_3 (by first | exact Ld.blk hk7 rfl)) ?_
                          refine L.va rfl (X.quo rfl rfl (by omega)) ?_
                          refine L.va rfl (X.gtr rfl rfl) ?_
                          refine L.va rfl (X.pickF rfl (by conv => lhs; whnf)) ?_
                          refine L.nil ?_
                          refine J.dec rfl (fun b3 => ?_) (fun b3 => ?_)
                          · have b3' : 1099511627776 / dv < z := b3
                            rw [hmf (hno (by omega))]
                            refine J.seq ?_
                            refine J.region ?_
                            refine L.va rfl (X.assign (by conv => lhs; whnf)) ?_
                            refine L.nil ?_
                            refine J.ret ?_
                            refine thn_ret <|  inB_ret <|  thn_ret <|  thn_ret <|  inB_ret <|  thn_ret <| ?_
                            refine fin1 ?_
                            exact ⟨rfl, he07⟩
                          · have b3' : ¬ 1099511627776 / dv < z := b3
                            refine J.skip ?_
                            refine J.region ?_
                            refine L.va rfl (X.move (by conv => lhs; whnf)) ?_
                            refine L.va rfl (X.fieldAddr rfl Try.underlying128 rfl sz_3 (by decide)) ?_
                            refine L.va rfl (X.load rfl sc_3 (by first | exact Ld.blk hk7 rfl)) ?_
                            refine L.va rfl (X.mul rfl rfl (by omega)) ?_
                            refine L.va rfl (X.assign (by conv => lhs; whnf)) ?_
                            refine L.nil ?_
                            refine J.region ?_
                            refine L.va rfl (X.add rfl rfl (by omega)) ?_
                            refine L.va rfl (X.move (by conv => lhs; whnf)) ?_
                            refine L.nil ?_
                            refine ⟨(i + 1, z * dv), At2 (by first | rfl | exact at_int rfl (by omega) | exact at_slice rfl (by omega) | exact at_int rfl (by simp)) (by first | rfl | exact at_int rfl (by omega) | exact at_slice rfl (by omega) | exact at_int rfl (by simp)), (by (iterate 28 refine Agr.lk rfl ?_); exact Agr.lk rfl (Agr.hav rfl Agr.rfl')), ?_⟩
                            exact ⟨⟨he5.trans he57, by dsimp only; omega, hkn.symm, szB_mk hS (by rw [hdv]; omega)⟩, by dsimp only; omega⟩
                    · obtain rfl : i = nd := by dsimp only at hlt2; omega
                      have hpw := pw6 hlen.2.1
                      have hsl := shl_full hlen.2.1
                      generalize hF : ((2 ^ i - 1 : Nat) : Int) = F at *
                      have hsub : IntKind.u32.wrap (((2 ^ i : Nat) : Int) - 1) = F := by rw [w32 (by omega)]; omega
                      refine J.exit ?_
                      refine J.seq ?_
                      refine J.region ?_
                      refine L.va rfl (X.fieldAddr rfl Try.underlying49 rfl sz_45 (by decide)) ?_
                      refine L.va rfl (X.load rfl sc_45 (by first | exact Ld.blk hk5 rfl | exact Ld.num hv5 (by omega) | exact Ld.rd hd5 (by omega))) ?_
                      refine L.va rfl (X.len rfl Try.underlying45) ?_
                      refine L.va rfl (X.shl rfl rfl (by omega)) ?_
                      refine L.va rfl (X.subw rfl rfl) ?_
                      refine L.va rfl (X.assign (by conv => lhs; whnf)) ?_
                      refine L.nil ?_
                      refine J.seq ?_
                      refine J.seq ?_
                      refine J.region ?_
                      refine L.va rfl (X.fieldAddr rfl Try.underlying49 rfl sz_47 (by decide)) ?_
                      refine L.va rfl (X.load rfl sc_47 (by first | exact Ld.blk hk5 rfl | exact Ld.num hv5 (by omega) | exact Ld.rd hd5 (by omega))) ?_
                      refine L.va rfl (X.len rfl Try.underlying47) ?_
                      refine L.va rfl (X.move (by conv => lhs; whnf)) ?_
                      refine L.nil ?_
                      refine J.block ?_
                      rw [hsl, hsub]
                      refine J.loop (X := Nat) [2, 10, 11, 90, 91, 92, 93, 94, 95, 96, 97, 98, 99, 100, 101, 102, 103, 104, 105, 106, 107, 108, 109, 110, 111, 112] (fun i => [(90, .int .i64 (i : Int))]) (fun i w' => w' = w5 ∧ i ≤ nv ∧ viB F zs i = true) (fun i => nv - i) (0) (At1 (by first | rfl | exact at_int rfl (by omega) | exact at_slice rfl (by omega) | exact at_int rfl (by simp))) ?_ ?_
                      · exact ⟨rfl, by omega, rfl⟩
                      · rintro j g w6 ⟨rfl, hj, hV⟩
                        refine J.seq ?_
                        refine J.region ?_
                        refine L.va rfl (X.lss rfl rfl) ?_
                        refine L.nil ?_
                        refine J.seq ?_
                        refine J.dec rfl (fun hlt3 => ?_) (fun hlt3 => ?_)
                        · have hno := @viB_no F zs j
                          have hmf := fun h => t6 hB h9 hS (mono_f (viB_s F zs) (by omega : j + 1 ≤ nv) h)
                          have hzj := hzs j
                          have hzj' := hzs (j - 1)
                          have hjp : zs.getD ((j : Int) - 1).toNat 0 = zs.getD (j - 1) 0 := by rw [show ((j : Int) - 1).toNat = j - 1 by omega]
                          refine J.skip ?_
                          refine J.seq ?_
                          refine J.block ?_
                          refine J.seq ?_
                          refine J.region ?_
                          refine L.va rfl (X.move (by conv => lhs; whnf)) ?_
                          refine L.va rfl ((by first | exact X.index1n rfl rfl Try.underlying47 sz_50 (by first | exact Option.some_ne_none _ | exact hv5.some_ (by omega) | exact hd5.some_ (by omega)) (by omega) | exact X.index1 rfl rfl Try.underlying47 sz_50 (by first | exact Option.some_ne_none _ | exact hv5.some_ (by omega) | exact hd5.some_ (by omega)) (by omega))) ?_
                          refine L.va rfl (X.load rfl sc_50 (by first | exact Ld.blk hk5 rfl | exact Ld.num hv5 (by omega) | exact Ld.rd hd5 (by omega))) ?_
                          refine L.va rfl (X.assign (by conv => lhs; whnf)) ?_
                          refine L.va rfl (X.assign (by conv => lhs; whnf)) ?_
                          refine L.nil ?_
                          refine J.seq ?_
                          refine J.region ?_
                          refine L.va rfl (X.move (by conv => lhs; whnf)) ?_
                          refine L.va rfl (X.move (by conv => lhs; whnf)) ?_
                          refine L.va rfl (X.geq rfl rfl) ?_
                          refine L.va rfl (X.move (by conv => lhs; whnf)) ?_
                          refine L.caseDec (k := 98) rfl (fun g1 => ?_) (fun g1 => ?_)
                          · rw [hmf (hno (by omega))]
                            refine L.no rfl ?_
                            refine L.no rfl ?_
                            refine L.no rfl ?_
                            refine L.no rfl ?_
                            refine L.no rfl ?_
                            refine L.no rfl ?_
                            refine L.no rfl ?_
                            refine L.no rfl ?_
                            refine L.no rfl ?_
                            refine L.no rfl ?_
                            refine L.no rfl ?_
                            refine L.no rfl ?_
                            refine L.va rfl (X.pickT rfl (by conv => lhs; whnf)) ?_
                            refine L.nil ?_
                            refine J.iteT rfl ?_
                            refine J.seq ?_
                            refine J.region ?_
                            refine L.va rfl (X.assign (by conv => lhs; whnf)) ?_
                            refine L.nil ?_
                            refine J.ret ?_
                            refine inB_ret <|  thn_ret <|  thn_ret <|  inB_ret <|  thn_ret <| ?_
                            refine fin1 ?_
                            exact ⟨rfl, he05⟩
                          · refine L.va rfl (X.move (by conv => lhs; whnf)) ?_
                            refine L.va rfl (X.gtr rfl rfl) ?_
                            refine L.va rfl (X.move (by conv => lhs; whnf)) ?_
                            refine L.caseDec (k := 101) rfl (fun g3 => ?_) (fun g3 => ?_)
                            · refine L.va rfl (X.move (by conv => lhs; whnf)) ?_
                              refine L.va rfl (X.fieldAddr rfl Try.underlying49 rfl sz_47 (by decide)) ?_
                              refine L.va rfl (X.load rfl sc_47 (by first | exact Ld.blk hk5 rfl | exact Ld.num hv5 (by omega) | exact Ld.rd hd5 (by omega))) ?_
                              refine L.va rfl (X.move (by conv => lhs; whnf)) ?_
                              refine L.va rfl (X.sub rfl rfl (by omega)) ?_
                              refine L.va rfl ((by first | exact X.index1n rfl rfl Try.underlying47 sz_50 (by first | exact Option.some_ne_none _ | exact hv5.some_ (by omega) | exact hd5.some_ (by omega)) (by omega) | exact X.index1 rfl rfl Try.underlying47 sz_50 (by first | exact Option.some_ne_none _ | exact hv5.some_ (by omega) | exact hd5.some_ (by omega)) (by omega))) ?_
                              refine L.va rfl (X.load rfl sc_50 (by first | exact Ld.blk hk5 rfl | exact Ld.num hv5 (by omega) | exact Ld.rd hd5 (by omega))) ?_
                              refine L.va rfl (X.leq rfl rfl) ?_
                              refine L.va rfl (X.pickT rfl (by conv => lhs; whnf)) ?_
                              refine L.va rfl (X.pickF rfl (by conv => lhs; whnf)) ?_
                              refine L.nil ?_
                              refine J.dec rfl (fun g4 => ?_) (fun g4 => ?_)
                              · rw [hmf (hno (by omega))]
                                refine J.seq ?_
                                refine J.region ?_
                                refine L.va rfl (X.assign (by conv => lhs; whnf)) ?_
                                refine L.nil ?_
                                refine J.ret ?_
                                refine inB_ret <|  thn_ret <|  thn_ret <|  inB_ret <|  thn_ret <| ?_
                                refine fin1 ?_
                                exact ⟨rfl, he05⟩
                              · refine J.skip ?_
                                refine J.region ?_
                                refine L.va rfl (X.add rfl rfl (by omega)) ?_
                                refine L.va rfl (X.move (by conv => lhs; whnf)) ?_
                                refine L.nil ?_
                                refine ⟨j + 1, At1 (by first | rfl | exact at_int rfl (by omega) | exact at_slice rfl (by omega) | exact at_int rfl (by simp)), (by (iterate 27 refine Agr.lk rfl ?_); exact Agr.lk rfl (Agr.hav rfl Agr.rfl')), ?_⟩
                                exact ⟨⟨rfl, by omega, viB_mk hV (by omega)⟩, by omega⟩
                            · refine L.no rfl ?_
                              refine L.no rfl ?_
                              refine L.no rfl ?_
                              refine L.no rfl ?_
                              refine L.no rfl ?_
                              refine L.no rfl ?_
                              refine L.no rfl ?_
                              refine L.no rfl ?_
                              refine L.va rfl (X.pickF rfl (by conv => lhs; whnf)) ?_
                              refine L.va rfl (X.pickF rfl (by conv => lhs; whnf)) ?_
                              refine L.nil ?_
                              refine J.iteF rfl ?_
                              refine J.skip ?_
                              refine J.region ?_
                              refine L.va rfl (X.add rfl rfl (by omega)) ?_
                              refine L.va rfl (X.move (by conv => lhs; whnf)) ?_
                              refine L.nil ?_
                              refine ⟨j + 1, At1 (by first | rfl | exact at_int rfl (by omega) | exact at_slice rfl (by omega) | exact at_int rfl (by simp)), (by (iterate 27 refine Agr.lk rfl ?_); exact Agr.lk rfl (Agr.hav rfl Agr.rfl')), ?_⟩
                              exact ⟨⟨rfl, by omega, viB_mk hV (by omega)⟩, by omega⟩
                        · obtain rfl : j = nv := by omega
                          rw [t0 hB h9 hS hV]
                          refine J.exit ?_
                          refine J.seq ?_
                          refine J.region ?_
                          refine L.va rfl (X.assign (by conv => lhs; whnf)) ?_
                          refine L.nil ?_
                          refine J.ret ?_
                          refine fin1 ?_
                          exact ⟨rfl, he05⟩
end Go.Proofs.Ytlipeplfjkgamaa
