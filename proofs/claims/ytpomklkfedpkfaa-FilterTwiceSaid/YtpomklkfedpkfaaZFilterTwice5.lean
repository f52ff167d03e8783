import Derived.Laws.BitsAllLaws
import Derived.Lib.SliceRun
import Derived.Test.YtpomklkfedpkfaaZFilterTwice4
/-
  What the law leans on, part 5: SrtIF, WNrmA, WNrmB, WNrmC, WFilA, WNrmD, WNrmE, WQryA, WQryB, NeedPlain, WQryD, KeyPlain, WKeyA, WKeyB, WExaE, WNrmF, WQryIn, WNrmG, WLight, CelIn, LFilterTwice.
-/
namespace Go.Proofs.Ytpomklkfedpkfaa
set_option maxRecDepth 100000
open Go.RowKit H
open Srt
set_option linter.unusedVariables false
theorem pdqI (A : Option Addr) (n c N : Nat) (hn : n ≤ 900000) : ∀ (h a : Nat) (lim : Int) (l : List Int) (w : World), w.ownsRow N 3 1 (.slice A n c) n (nums .i64 l) → a + h ≤ n → 0 ≤ lim → lim ≤ 100 → Lo l a (a + h) →
    Calls Try.prog 111 #[.slice A n c, .int .i64 (a : Int), .int .i64 ((a + h : Nat) : Int), .int .i64 lim] w fun e w' => e = .returned (.tuple #[]) ∧ ∃ l', SwI w w' A n c N a (a + h) l l' ∧ In l' a (a + h) := by
  intro h
  induction h using Nat.strongRecOn with
  | ind H IH =>
  intro a0 lim0 l w ho hf hl0 hl1 hLo0
  have hl : l.length = n := by have := ho.1; simpa [nums] using this
  refine enter Try.func111 rfl (by kernel_rfl) ?_
  refine J.seq ?_
  refine J.region ?_
  refine L.va rfl (X.assign (by conv => lhs; whnf)) ?_
  refine L.nil ?_
  refine J.seq ?_
  refine J.region ?_
  refine L.va rfl (X.assign (by conv => lhs; whnf)) ?_
  refine L.nil ?_
  refine J.block ?_
  refine J.loop (X := Nat × Nat × Int × Bool × Bool × List Int) [1, 2, 3, 8, 9, 10, 11, 12, 13, 14, 15, 16, 17, 18, 19, 20, 21, 22, 23, 24, 25, 26, 27, 28, 29, 30, 31, 32, 33, 34, 35, 36, 37, 38, 39, 40, 41, 42, 43, 44, 45, 46, 47, 48, 49, 50, 51, 52, 53, 54, 55, 56, 57, 58, 59, 60, 61, 62, 63, 64, 65, 66, 67, 68, 69, 70, 71, 72, 73, 74, 75, 76, 77, 78, 79, 80, 81, 82, 83, 84, 85, 86, 87, 88, 89, 90, 91, 92, 93, 94, 95, 96, 97, 98, 99, 100, 101, 102, 103, 104, 105, 106, 107, 108, 109, 110, 111, 112, 113, 114, 115, 116, 117, 118, 119, 120, 121, 122, 123, 124, 125, 126, 127, 128, 129, 130, 131, 132, 133] (fun (a, h, lim, wb, wp, m) => [(1, .int .i64 (a : Int)), (2, .int .i64 ((a + h : Nat) : Int)), (3, .int .i64 lim), (8, .bool wb), (9, .bool wp)]) (fun (a, h, lim, wb, wp, m) w' => a0 ≤ a ∧ a + h ≤ a0 + H ∧ 0 ≤ lim ∧ lim ≤ 100 ∧ SwI w w' A n c N a0 (a0 + H) l m ∧ Lo m a (a + h) ∧ (∀ m', Pr a (a + h) m m' → In m' a (a + h) → In m' a0 (a0 + H))) (fun (_, h, _) => h) ((a0, H, lim0, true, true, l)) (At5 (by first | rfl | exact at_int rfl (by omega) | exact at_slice rfl (by omega) | exact at_int rfl (by simp)) (by first | rfl | exact at_int rfl (by omega) | exact at_slice rfl (by omega) | exact at_int rfl (by simp)) (by first | rfl | exact at_int rfl (by omega) | exact at_slice rfl (by omega) | exact at_int rfl (by simp)) (by first | rfl | exact at_int rfl (by omega) | exact at_slice rfl (by omega) | exact at_int rfl (by simp)) (by first | rfl | exact at_int rfl (by omega) | exact at_slice rfl (by omega) | exact at_int rfl (by simp))) ?_ ?_
  · exact ⟨Nat.le_refl _, Nat.le_refl _, hl0, hl1, ⟨ho, grown_ext (Ext.refl _), .refl _⟩, hLo0, fun m' _ hI => hI⟩
  · rintro ⟨a, h, lim, wb, wp, m⟩ g w2 ⟨ha, hh, hm0, hm1, M, hLo, hK⟩
    have hml : m.length = n := by rw [M.p.len, hl]
    have eh : ((a + h : Nat) : Int) - (a : Int) = (h : Int) := by omega
    have hwide : ∀ {x y : List Int}, Pr a (a + h) x y → x.length = n → Pr a0 (a0 + H) x y := fun hp hx => hp.wide ha hh (by omega)
    refine J.block ?_
    refine J.seq ?_
    refine J.region ?_
    refine L.va rfl (X.move (by conv => lhs; whnf)) ?_
    refine L.va rfl (X.move (by conv => lhs; whnf)) ?_
    refine L.va rfl (X.sub rfl rfl (by omega)) ?_
    refine L.va rfl (X.assign (by conv => lhs; whnf)) ?_
    refine L.nil ?_
    rw [eh]
    refine J.seq ?_
    refine J.seq ?_
    refine J.region ?_
    refine L.va rfl (X.move (by conv => lhs; whnf)) ?_
    refine L.va rfl (X.leq rfl rfl) ?_
    refine L.nil ?_
    refine J.dec rfl (fun h12 => ?_) (fun h12 => ?_)
    · have c1 := isortI A n c N a (a + h) m w2 M.o (by omega) (by omega) (by omega)
      refine J.seq ?_
      refine J.region ?_
      refine L.va rfl (X.move (by conv => lhs; whnf)) ?_
      refine L.va rfl (X.move (by conv => lhs; whnf)) ?_
      refine L.va rfl (X.move (by conv => lhs; whnf)) ?_
      refine L.call rfl en_122 rfl (c1) ?_
      rintro e w3 ⟨rfl, m', M', hI'⟩
      refine ⟨_, rfl, ?_⟩
      refine L.nil ?_
      refine J.ret ?_
      refine thn_ret <|  inB_ret <|  thn_ret <|  inB_ret <| ?_
      refine fin0 (.inl rfl) ?_
      exact ⟨rfl, m', ⟨M'.o, grb_trans M.g M'.g, M.p.trans (hwide M'.p hml)⟩, hK m' M'.p hI'⟩
    · refine J.skip ?_
      refine J.seq ?_
      refine J.seq ?_
      refine J.region ?_
      refine L.va rfl (X.move (by conv => lhs; whnf)) ?_
      refine L.va rfl (X.eql rfl rfl) ?_
      refine L.nil ?_
      refine J.dec rfl (fun hz => ?_) (fun hz => ?_)
      · have c1 := hsortI A n c N a h m w2 M.o (by omega) (by omega) (by omega)
        refine J.seq ?_
        refine J.region ?_
        refine L.va rfl (X.move (by conv => lhs; whnf)) ?_
        refine L.va rfl (X.move (by conv => lhs; whnf)) ?_
        refine L.va rfl (X.move (by conv => lhs; whnf)) ?_
        refine L.call rfl en_123 rfl (c1) ?_
        rintro e w3 ⟨rfl, m', M', hI'⟩
        refine ⟨_, rfl, ?_⟩
        refine L.nil ?_
        refine J.ret ?_
        refine thn_ret <|  inB_ret <|  thn_ret <|  inB_ret <| ?_
        refine fin0 (.inl rfl) ?_
        exact ⟨rfl, m', ⟨M'.o, grb_trans M.g M'.g, M.p.trans (hwide M'.p hml)⟩, hK m' M'.p hI'⟩
      · refine J.skip ?_
        refine J.cut (X := Int × List Int) [3, 34, 35, 36, 37, 38, 39, 40, 41] (fun (lim, m') => [(3, .int .i64 lim)]) (fun (lim, m') w' => 0 ≤ lim ∧ lim ≤ 100 ∧ SwI w2 w' A n c N a (a + h) m m') ?_ ?_
        · refine J.seq ?_
          refine J.region ?_
          refine L.va rfl (X.move (by conv => lhs; whnf)) ?_
          refine L.va rfl (X.not rfl) ?_
          refine L.nil ?_
          cases wb
          · refine J.iteT rfl ?_
            have c1 := breakpI A n c N a h m w2 M.o (by omega) hn (by omega)
            refine J.seq ?_
            refine J.region ?_
            refine L.va rfl (X.move (by conv => lhs; whnf)) ?_
            refine L.va rfl (X.move (by conv => lhs; whnf)) ?_
            refine L.va rfl (X.move (by conv => lhs; whnf)) ?_
            refine L.call rfl en_124 rfl (c1) ?_
            rintro e w3 ⟨rfl, m', M'⟩
            refine ⟨_, rfl, ?_⟩
            refine L.nil ?_
            refine J.region ?_
            refine L.va rfl (X.move (by conv => lhs; whnf)) ?_
            refine L.va rfl (X.sub rfl rfl (by omega)) ?_
            refine L.va rfl (X.assign (by conv => lhs; whnf)) ?_
            refine L.nil ?_
            refine ⟨(lim - 1, m'), At1 (by first | rfl | exact at_int rfl (by omega) | exact at_slice rfl (by omega) | exact at_int rfl (by simp)), (by (iterate 9 refine Agr.lk rfl ?_); exact Agr.rfl'), ?_⟩
            exact ⟨by omega, by omega, M'⟩
          · refine J.iteF rfl ?_
            refine J.skip ?_
            refine ⟨(lim, m), At1 (by first | rfl | exact at_int rfl (by omega) | exact at_slice rfl (by omega) | exact at_int rfl (by simp)), (by (iterate 2 refine Agr.lk rfl ?_); exact Agr.rfl'), ?_⟩
            exact ⟨hm0, hm1, M.o, grown_ext (Ext.refl _), .refl _⟩
        · rintro ⟨lim, m1⟩ g w3 ⟨hm0, hm1, M1⟩
          have hml1 : m1.length = n := by rw [M1.p.len, hml]
          refine J.seq ?_
          refine J.region ?_
          refine L.va rfl (X.move (by conv => lhs; whnf)) ?_
          refine L.va rfl (X.move (by conv => lhs; whnf)) ?_
          refine L.va rfl (X.move (by conv => lhs; whnf)) ?_
          refine L.call rfl en_125 rfl (pivotI A n c N a h m1 w3 M1.o (by omega) hn (by omega)) ?_
          rintro e w4 ⟨p, k, rfl, hp1, hp2, hk2, he4⟩
          refine ⟨_, rfl, ?_⟩
          replace M1 := M1.up he4
          refine L.va rfl (X.move (by conv => lhs; whnf)) ?_
          refine L.va rfl (X.extract rfl rfl) ?_
          refine L.va rfl (X.extract rfl rfl) ?_
          refine L.va rfl (X.assign (by conv => lhs; whnf)) ?_
          refine L.va rfl (X.assign (by conv => lhs; whnf)) ?_
          refine L.nil ?_
          refine J.cut (X := Nat × Nat × List Int) [11, 12, 49, 50, 51, 52, 53, 54, 55, 56, 57, 58, 59, 60] (fun (p, k, m') => [(11, .int .i64 (p : Int)), (12, .int .i64 (k : Int))]) (fun (p, k, m') w' => a ≤ p ∧ p < a + h ∧ SwI w2 w' A n c N a (a + h) m m') ?_ ?_
          · refine J.seq ?_
            refine J.region ?_
            refine L.va rfl (X.move (by conv => lhs; whnf)) ?_
            refine L.va rfl (X.eql rfl rfl) ?_
            refine L.nil ?_
            refine J.dec rfl (fun hk => ?_) (fun hk => ?_)
            · have c1 := reverseI A n c N a h m1 w4 M1.o (by omega) hn (by omega)
              refine J.seq ?_
              refine J.region ?_
              refine L.va rfl (X.move (by conv => lhs; whnf)) ?_
              refine L.va rfl (X.move (by conv => lhs; whnf)) ?_
              refine L.va rfl (X.move (by conv => lhs; whnf)) ?_
              refine L.call rfl en_126 rfl (c1) ?_
              rintro e w5 ⟨rfl, m', M'⟩
              refine ⟨_, rfl, ?_⟩
              refine L.nil ?_
              refine J.seq ?_
              refine J.region ?_
              refine L.va rfl (X.move (by conv => lhs; whnf)) ?_
              refine L.va rfl (X.sub rfl rfl (by omega)) ?_
              refine L.va rfl (X.move (by conv => lhs; whnf)) ?_
              refine L.va rfl (X.move (by conv => lhs; whnf)) ?_
              refine L.va rfl (X.sub rfl rfl (by omega)) ?_
              refine L.va rfl (X.sub rfl rfl (by omega)) ?_
              refine L.va rfl (X.assign (by conv => lhs; whnf)) ?_
              refine L.nil ?_
              refine J.region ?_
              refine L.va rfl (X.assign (by conv => lhs; whnf)) ?_
              refine L.nil ?_
              refine ⟨(a + h - 1 - (p - a), 1, m'), At2 (by first | rfl | exact at_int rfl (by omega) | exact at_slice rfl (by omega) | exact at_int rfl (by simp)) (by first | rfl | exact at_int rfl (by omega) | exact at_slice rfl (by omega) | exact at_int rfl (by simp)), (by (iterate 14 refine Agr.lk rfl ?_); exact Agr.rfl'), ?_⟩
              exact ⟨by omega, by omega, M'.o, grb_trans M1.g M'.g, M1.p.trans M'.p⟩
            · refine J.skip ?_
              refine ⟨(p, k, m1), At2 (by first | rfl | exact at_int rfl (by omega) | exact at_slice rfl (by omega) | exact at_int rfl (by simp)) (by first | rfl | exact at_int rfl (by omega) | exact at_slice rfl (by omega) | exact at_int rfl (by simp)), (by (iterate 2 refine Agr.lk rfl ?_); exact Agr.rfl'), ?_⟩
              exact ⟨hp1, hp2, M1⟩
          · rintro ⟨p, k, m2⟩ g w5 ⟨hp1, hp2, M2⟩
            have hml2 : m2.length = n := by rw [M2.p.len, hml]
            have hLo2 := hLo.keep M2.p
            refine J.cut (X := List Int) [61, 62, 63, 64, 65, 66, 67, 68, 69, 70, 71, 72] (fun _ => [(1, .int .i64 (a : Int))]) (fun m' w' => SwI w2 w' A n c N a (a + h) m m') ?_ ?_
            · refine J.seq ?_
              refine J.region ?_
              refine L.va rfl (X.move (by conv => lhs; whnf)) ?_
              refine L.va rfl (X.move (by conv => lhs; whnf)) ?_
              cases wb
              · refine L.caseBF (k := 62) rfl (by rfl) ?_
                refine L.no rfl ?_
                refine L.va rfl (X.pickF rfl (by conv => lhs; whnf)) ?_
                refine L.va rfl (X.move (by conv => lhs; whnf)) ?_
                refine L.no rfl ?_
                refine L.no rfl ?_
                refine L.va rfl (X.pickF rfl (by conv => lhs; whnf)) ?_
                refine L.nil ?_
                refine J.iteF rfl ?_
                refine J.skip ?_
                refine ⟨m2, At1 (by first | rfl | exact at_int rfl (by omega) | exact at_slice rfl (by omega) | exact at_int rfl (by simp)), (by (iterate 9 refine Agr.lk rfl ?_); exact Agr.rfl'), ?_⟩
                exact M2
              · refine L.caseBT (k := 62) rfl (by rfl) ?_
                refine L.va rfl (X.move (by conv => lhs; whnf)) ?_
                refine L.va rfl (X.pickT rfl (by conv => lhs; whnf)) ?_
                refine L.va rfl (X.move (by conv => lhs; whnf)) ?_
                cases wp
                · refine L.caseBF (k := 65) rfl (by rfl) ?_
                  refine L.no rfl ?_
                  refine L.no rfl ?_
                  refine L.va rfl (X.pickF rfl (by conv => lhs; whnf)) ?_
                  refine L.nil ?_
                  refine J.iteF rfl ?_
                  refine J.skip ?_
                  refine ⟨m2, At1 (by first | rfl | exact at_int rfl (by omega) | exact at_slice rfl (by omega) | exact at_int rfl (by simp)), (by (iterate 10 refine Agr.lk rfl ?_); exact Agr.rfl'), ?_⟩
                  exact M2
                · refine L.caseBT (k := 65) rfl (by rfl) ?_
                  refine L.va rfl (X.move (by conv => lhs; whnf)) ?_
                  refine L.va rfl (X.eql rfl rfl) ?_
                  refine L.va rfl (X.pickT rfl (by conv => lhs; whnf)) ?_
                  refine L.nil ?_
                  refine J.dec rfl (fun hk1 => ?_) (fun hk1 => ?_)
                  · have c1 := partinsI A n c N a (a + h) m2 w5 M2.o (by omega) hn (by omega) hLo2
                    refine J.seq ?_
                    refine J.region ?_
                    refine L.va rfl (X.move (by conv => lhs; whnf)) ?_
                    refine L.va rfl (X.move (by conv => lhs; whnf)) ?_
                    refine L.va rfl (X.move (by conv => lhs; whnf)) ?_
                    refine L.call rfl en_127 rfl (c1) ?_
                    rintro e w6 ⟨m3, z, rfl, M3, hz3⟩
                    refine ⟨_, rfl, ?_⟩
                    refine L.nil ?_
                    cases z
                    · refine J.iteF rfl ?_
                      refine J.skip ?_
                      refine ⟨m3, At1 (by first | rfl | exact at_int rfl (by omega) | exact at_slice rfl (by omega) | exact at_int rfl (by simp)), (by (iterate 14 refine Agr.lk rfl ?_); exact Agr.rfl'), ?_⟩
                      exact ⟨M3.o, grb_trans M2.g M3.g, M2.p.trans M3.p⟩
                    · refine J.iteT rfl ?_
                      refine J.ret ?_
                      refine thn_ret <|  inB_ret <|  thn_ret <|  inB_ret <| ?_
                      refine fin0 (.inl rfl) ?_
                      exact ⟨rfl, m3, ⟨M3.o, grb_trans M.g (grb_trans M2.g M3.g), M.p.trans (hwide (M2.p.trans M3.p) hml)⟩, hK m3 (M2.p.trans M3.p) (hz3 rfl)⟩
                  · refine J.skip ?_
                    refine ⟨m2, At1 (by first | rfl | exact at_int rfl (by omega) | exact at_slice rfl (by omega) | exact at_int rfl (by simp)), (by (iterate 10 refine Agr.lk rfl ?_); exact Agr.rfl'), ?_⟩
                    exact M2
            · rintro m3 g w6 M3
              have hml3 : m3.length = n := by rw [M3.p.len, hml]
              have hLo3 := hLo.keep M3.p
              have hr := Reads.of_own M3.o
              have hA := hr.some_ (by omega)
              refine J.cut (X := Unit) [1, 13, 73, 74, 75, 76, 77, 78, 79, 80, 81, 82, 83, 84, 85, 86, 87, 88, 89, 90, 91, 92, 93] (fun _ => [(1, .int .i64 (a : Int))]) (fun _ w' => Ext w6 w') ?_ ?_
              · refine J.seq ?_
                refine J.quiet mixed (by kernel_rfl) ?_
                refine Qt.va rfl (fun w' hw => X.move (by conv => lhs; whnf)) ?_
                refine Qt.va rfl (fun w' hw => X.gtr rfl rfl) ?_
                refine Qt.va rfl (fun w' hw => X.move (by conv => lhs; whnf)) ?_
                refine Qt.caseDec (k := 75) rfl (fun h0 => ?_) (fun h0 => ?_)
                · refine Qt.va rfl (fun w' hw => X.move (by conv => lhs; whnf)) ?_
                  refine Qt.va rfl (fun w' hw => X.move (by conv => lhs; whnf)) ?_
                  refine Qt.va rfl (fun w' hw => X.sub rfl rfl (by omega)) ?_
                  refine Qt.va rfl (fun w' hw => X.index1eI (j := a - 1) rfl rfl (by omega) Try.underlying74 sz_3 hA (by omega)) ?_
                  refine Qt.va rfl (fun w' hw => X.load rfl sc_3 (by first | exact Ld.num (hr.ext hw) (by omega) | exact hA)) ?_
                  refine Qt.va rfl (fun w' hw => X.move (by conv => lhs; whnf)) ?_
                  refine Qt.va rfl (fun w' hw => X.move (by conv => lhs; whnf)) ?_
                  refine Qt.va rfl (fun w' hw => (by first | exact X.index1n rfl rfl Try.underlying74 sz_3 (by first | exact Option.some_ne_none _ | exact hr.some_ (by omega) | exact hA) (by omega) | exact X.index1 rfl rfl Try.underlying74 sz_3 (by first | exact Option.some_ne_none _ | exact hr.some_ (by omega) | exact hA) (by omega))) ?_
                  refine Qt.va rfl (fun w' hw => X.load rfl sc_3 (by first | exact Ld.num (hr.ext hw) (by omega) | exact hA)) ?_
                  refine Qt.call rfl en_128 rfl (fun w' hw => calls_same hw (clessI (m3.getD (a - 1) 0) (m3.getD p 0) w')) ?_
                  refine Qt.va rfl (fun w' hw => X.not rfl) ?_
                  refine Qt.va rfl (fun w' hw => X.pickT rfl (by conv => lhs; whnf)) ?_
                  refine Qt.nil (fun w7 hq => ?_)
                  by_cases hd : m3.getD (a - 1) 0 < m3.getD p 0
                  · rw [decide_eq_true hd]
                    refine J.iteF rfl ?_
                    refine J.skip ?_
                    refine ⟨(), At1 (by first | rfl | exact at_int rfl (by omega) | exact at_slice rfl (by omega) | exact at_int rfl (by simp)), (by (iterate 16 refine Agr.lk rfl ?_); exact Agr.rfl'), ?_⟩
                    exact hq
                  · rw [decide_eq_false hd]
                    have M7 := M3.up hq
                    have hv : ∀ k, a ≤ k → k < a + h → m3.getD p 0 ≤ m3.getD k 0 := fun k k1 k2 => by
                      have := hLo3 (by omega) k k1 k2
                      omega
                    have c1 := parteqI A n c N a (a + h) p m3 w7 M7.o (by omega) hn ⟨hp1, hp2⟩
                    refine J.iteT rfl ?_
                    refine J.seq ?_
                    refine J.region ?_
                    refine L.va rfl (X.move (by conv => lhs; whnf)) ?_
                    refine L.va rfl (X.move (by conv => lhs; whnf)) ?_
                    refine L.va rfl (X.move (by conv => lhs; whnf)) ?_
                    refine L.va rfl (X.move (by conv => lhs; whnf)) ?_
                    refine L.call rfl en_129 rfl (c1) ?_
                    rintro e w8 ⟨m4, q, rfl, M4, hq1, hq2, hq3, hq4⟩
                    refine ⟨_, rfl, ?_⟩
                    obtain ⟨r1, r2⟩ := rest_eq hq1 hq3 hq4 (M4.p.all (p := fun z => m3.getD p 0 ≤ z) hv) hq2
                    have hqb : q + (a + h - q) = a + h := by omega
                    have P4 := M3.p.trans M4.p
                    refine L.va rfl (X.assign (by conv => lhs; whnf)) ?_
                    refine L.nil ?_
                    refine J.seq ?_
                    refine J.region ?_
                    refine L.va rfl (X.move (by conv => lhs; whnf)) ?_
                    refine L.va rfl (X.assign (by conv => lhs; whnf)) ?_
                    refine L.nil ?_
                    refine J.exit ?_
                    refine ⟨(q, a + h - q, lim, wb, wp, m4), At5 (by first | rfl | exact at_int rfl (by omega) | exact at_slice rfl (by omega) | exact at_int rfl (by simp)) (by first | rfl | exact at_int rfl (by omega) | exact at_slice rfl (by omega) | exact at_int rfl (by simp)) (by first | rfl | exact at_int rfl (by omega) | exact at_slice rfl (by omega) | exact at_int rfl (by simp)) (by first | rfl | exact at_int rfl (by omega) | exact at_slice rfl (by omega) | exact at_int rfl (by simp)) (by first | rfl | exact at_int rfl (by omega) | exact at_slice rfl (by omega) | exact at_int rfl (by simp)), (by (iterate 24 refine Agr.lk rfl ?_); refine Agr.lk rfl ?_; refine Agr.hav rfl ?_; refine Agr.lk rfl ?_; refine Agr.hav rfl ?_; (iterate 9 refine Agr.lk rfl ?_); refine Agr.lk rfl ?_; refine Agr.hav rfl ?_; (iterate 8 refine Agr.lk rfl ?_); exact Agr.lk rfl (Agr.hav rfl Agr.rfl')), ?_⟩
                    refine ⟨⟨by omega, by omega, hm0, hm1, ⟨M4.o, grb_trans M.g (grb_trans M7.g M4.g), M.p.trans (hwide P4 hml)⟩, by rw [hqb]; exact r1, fun m' hP hI => ?_⟩, by show a + h - q < h; omega⟩
                    rw [hqb] at hP hI
                    exact hK m' (P4.trans (hP.wide (by omega) (Nat.le_refl _) (by rw [P4.len, hml]; omega))) (r2 m' hP hI)
                · skip
                  refine Qt.no rfl ?_
                  refine Qt.no rfl ?_
                  refine Qt.no rfl ?_
                  refine Qt.no rfl ?_
                  refine Qt.no rfl ?_
                  refine Qt.no rfl ?_
                  refine Qt.no rfl ?_
                  refine Qt.no rfl ?_
                  refine Qt.no rfl ?_
                  refine Qt.no rfl ?_
                  refine Qt.no rfl ?_
                  refine Qt.va rfl (fun w' hw => X.pickF rfl (by conv => lhs; whnf)) ?_
                  refine Qt.nil (fun w7 hq => ?_)
                  refine J.iteF rfl ?_
                  refine J.skip ?_
                  refine ⟨(), At1 (by first | rfl | exact at_int rfl (by omega) | exact at_slice rfl (by omega) | exact at_int rfl (by simp)), (by (iterate 16 refine Agr.lk rfl ?_); exact Agr.rfl'), ?_⟩
                  exact hq
              · rintro ⟨⟩ g w7 he7
                have M7 := M3.up he7
                have c1 := partI A n c N a (a + h) p m3 w7 M7.o (by omega) hn ⟨hp1, hp2⟩
                refine J.seq ?_
                refine J.region ?_
                refine L.va rfl (X.move (by conv => lhs; whnf)) ?_
                refine L.va rfl (X.move (by conv => lhs; whnf)) ?_
                refine L.va rfl (X.move (by conv => lhs; whnf)) ?_
                refine L.va rfl (X.move (by conv => lhs; whnf)) ?_
                refine L.call rfl en_130 rfl (c1) ?_
                rintro e w8 ⟨m4, q, z, rfl, M4, hq1, hq2, hq3, hq4⟩
                refine ⟨_, rfl, ?_⟩
                have P4 := M3.p.trans M4.p
                have hml4 : m4.length = n := by rw [M4.p.len, hml3]
                have hLo4 := hLo.keep P4
                obtain ⟨d, rfl⟩ : ∃ d, q = a + d := ⟨q - a, by omega⟩
                refine L.va rfl (X.move (by conv => lhs; whnf)) ?_
                refine L.va rfl (X.extract rfl rfl) ?_
                refine L.va rfl (X.extract rfl rfl) ?_
                refine L.va rfl (X.assign (by conv => lhs; whnf)) ?_
                refine L.va rfl (X.assign (by conv => lhs; whnf)) ?_
                refine L.nil ?_
                refine J.seq ?_
                refine J.region ?_
                refine L.va rfl (X.move (by conv => lhs; whnf)) ?_
                refine L.va rfl (X.assign (by conv => lhs; whnf)) ?_
                refine L.nil ?_
                refine J.seq ?_
                refine J.region ?_
                refine L.va rfl (X.move (by conv => lhs; whnf)) ?_
                refine L.va rfl (X.move (by conv => lhs; whnf)) ?_
                refine L.va rfl (X.sub rfl rfl (by omega)) ?_
                refine L.va rfl (X.move (by conv => lhs; whnf)) ?_
                refine L.va rfl (X.move (by conv => lhs; whnf)) ?_
                refine L.va rfl (X.sub rfl rfl (by omega)) ?_
                refine L.va rfl (X.assign (by conv => lhs; whnf)) ?_
                refine L.va rfl (X.assign (by conv => lhs; whnf)) ?_
                refine L.nil ?_
                refine J.seq ?_
                refine J.region ?_
                refine L.va rfl (X.move (by conv => lhs; whnf)) ?_
                refine L.va rfl (X.quo rfl rfl (by omega)) ?_
                refine L.va rfl (X.assign (by conv => lhs; whnf)) ?_
                refine L.nil ?_
                refine J.seq ?_
                refine J.region ?_
                refine L.va rfl (X.move (by conv => lhs; whnf)) ?_
                refine L.va rfl (X.move (by conv => lhs; whnf)) ?_
                refine L.va rfl (X.lss rfl rfl) ?_
                refine L.nil ?_
                refine J.dec rfl (fun hlr => ?_) (fun hlr => ?_)
                · have c2 := IH d (by omega) a lim m4 w8 M4.o (by omega) hm0 hm1 (fun h0 k k1 k2 => hLo4 h0 k k1 (by omega))
                  refine J.seq ?_
                  refine J.region ?_
                  refine L.va rfl (X.move (by conv => lhs; whnf)) ?_
                  refine L.va rfl (X.move (by conv => lhs; whnf)) ?_
                  refine L.va rfl (X.geq rfl rfl) ?_
                  refine L.va rfl (X.assign (by conv => lhs; whnf)) ?_
                  refine L.nil ?_
                  refine J.seq ?_
                  refine J.region ?_
                  refine L.va rfl (X.move (by conv => lhs; whnf)) ?_
                  refine L.va rfl (X.move (by conv => lhs; whnf)) ?_
                  refine L.va rfl (X.move (by conv => lhs; whnf)) ?_
                  refine L.va rfl (X.move (by conv => lhs; whnf)) ?_
                  refine L.call rfl en_111 rfl (c2) ?_
                  rintro e w9 ⟨rfl, m5, M5, hI5⟩
                  refine ⟨_, rfl, ?_⟩
                  obtain ⟨r1, r2⟩ := rest_right (by omega) hq3 hq4 M5.p hI5
                  have P5 := P4.trans (M5.p.wide (Nat.le_refl _) (show a + d ≤ a + h by omega) (by omega))
                  have hqb : a + d + 1 + (h - d - 1) = a + h := by omega
                  refine L.nil ?_
                  refine J.region ?_
                  refine L.va rfl (X.move (by conv => lhs; whnf)) ?_
                  refine L.va rfl (X.add rfl rfl (by omega)) ?_
                  refine L.va rfl (X.assign (by conv => lhs; whnf)) ?_
                  refine L.nil ?_
                  refine ⟨(a + d + 1, h - d - 1, lim, decide ((h : Int) / 8 ≤ ((a + d : Nat) : Int) - (a : Int)), z, m5), At5 (by first | rfl | exact at_int rfl (by omega) | exact at_slice rfl (by omega) | exact at_int rfl (by simp)) (by first | rfl | exact at_int rfl (by omega) | exact at_slice rfl (by omega) | exact at_int rfl (by simp)) (by first | rfl | exact at_int rfl (by omega) | exact at_slice rfl (by omega) | exact at_int rfl (by simp)) (by first | rfl | exact at_int rfl (by omega) | exact at_slice rfl (by omega) | exact at_int rfl (by simp)) (by first | rfl | exact at_int rfl (by omega) | exact at_slice rfl (by omega) | exact at_int rfl (by simp)), (by (iterate 38 refine Agr.lk rfl ?_); refine Agr.lk rfl ?_; refine Agr.hav rfl ?_; refine Agr.lk rfl ?_; refine Agr.hav rfl ?_; refine Agr.lk rfl ?_; refine Agr.hav rfl ?_; (iterate 9 refine Agr.lk rfl ?_); refine Agr.lk rfl ?_; refine Agr.hav rfl ?_; (iterate 8 refine Agr.lk rfl ?_); exact Agr.lk rfl (Agr.hav rfl Agr.rfl')), ?_⟩
                  refine ⟨⟨by omega, by omega, hm0, hm1, ⟨M5.o, grb_trans M.g (grb_trans M7.g (grb_trans M4.g M5.g)), M.p.trans (hwide P5 hml)⟩, by rw [hqb]; exact r1, fun m' hP hI => ?_⟩, by show h - d - 1 < h; omega⟩
                  rw [hqb] at hP hI
                  exact hK m' (P5.trans (hP.wide (by omega) (Nat.le_refl _) (by rw [P5.len, hml]; omega))) (r2 m' hP hI)
                · have hqb : a + d + 1 + (h - d - 1) = a + h := by omega
                  have c2 := IH (h - d - 1) (by omega) (a + d + 1) lim m4 w8 M4.o (by omega) hm0 hm1 (by
                    rw [hqb]
                    exact fun _ k k1 k2 => by rw [Nat.add_sub_cancel]; exact hq4 k (by omega) k2)
                  rw [hqb] at c2
                  refine J.seq ?_
                  refine J.region ?_
                  refine L.va rfl (X.move (by conv => lhs; whnf)) ?_
                  refine L.va rfl (X.move (by conv => lhs; whnf)) ?_
                  refine L.va rfl (X.geq rfl rfl) ?_
                  refine L.va rfl (X.assign (by conv => lhs; whnf)) ?_
                  refine L.nil ?_
                  refine J.seq ?_
                  refine J.region ?_
                  refine L.va rfl (X.move (by conv => lhs; whnf)) ?_
                  refine L.va rfl (X.move (by conv => lhs; whnf)) ?_
                  refine L.va rfl (X.add rfl rfl (by omega)) ?_
                  refine L.va rfl (X.move (by conv => lhs; whnf)) ?_
                  refine L.va rfl (X.move (by conv => lhs; whnf)) ?_
                  refine L.call rfl en_111 rfl (c2) ?_
                  rintro e w9 ⟨rfl, m5, M5, hI5⟩
                  refine ⟨_, rfl, ?_⟩
                  obtain ⟨r1, r2⟩ := rest_left (by omega) hq3 hq4 hLo4 hq2 M5.p hI5
                  have P5 := P4.trans (M5.p.wide (show a ≤ a + d + 1 by omega) (Nat.le_refl _) (by omega))
                  refine L.nil ?_
                  refine J.region ?_
                  refine L.va rfl (X.move (by conv => lhs; whnf)) ?_
                  refine L.va rfl (X.assign (by conv => lhs; whnf)) ?_
                  refine L.nil ?_
                  refine ⟨(a, d, lim, decide ((h : Int) / 8 ≤ ((a + h : Nat) : Int) - ((a + d : Nat) : Int)), z, m5), At5 (by first | rfl | exact at_int rfl (by omega) | exact at_slice rfl (by omega) | exact at_int rfl (by simp)) (by first | rfl | exact at_int rfl (by omega) | exact at_slice rfl (by omega) | exact at_int rfl (by simp)) (by first | rfl | exact at_int rfl (by omega) | exact at_slice rfl (by omega) | exact at_int rfl (by simp)) (by first | rfl | exact at_int rfl (by omega) | exact at_slice rfl (by omega) | exact at_int rfl (by simp)) (by first | rfl | exact at_int rfl (by omega) | exact at_slice rfl (by omega) | exact at_int rfl (by simp)), (by (iterate 38 refine Agr.lk rfl ?_); refine Agr.lk rfl ?_; refine Agr.hav rfl ?_; refine Agr.lk rfl ?_; refine Agr.hav rfl ?_; refine Agr.lk rfl ?_; refine Agr.hav rfl ?_; (iterate 9 refine Agr.lk rfl ?_); refine Agr.lk rfl ?_; refine Agr.hav rfl ?_; (iterate 8 refine Agr.lk rfl ?_); exact Agr.lk rfl (Agr.hav rfl Agr.rfl')), ?_⟩
                  refine ⟨⟨ha, by omega, hm0, hm1, ⟨M5.o, grb_trans M.g (grb_trans M7.g (grb_trans M4.g M5.g)), M.p.trans (hwide P5 hml)⟩, r1, fun m' hP hI => ?_⟩, by show d < h; omega⟩
                  exact hK m' (P5.trans (hP.wide (Nat.le_refl _) (by omega) (by rw [P5.len, hml]; omega))) (r2 m' hP hI)
theorem sortI (A : Option Addr) (n c N : Nat) (l : List Int) (w : World) (ho : w.ownsRow N 3 1 (.slice A n c) n (nums .i64 l)) (hn : n ≤ 900000) :
    Calls Try.prog 81 #[.slice A n c] w fun e w' => e = .returned (.tuple #[]) ∧ ∃ l', w'.ownsRow N 3 1 (.slice A n c) n (nums .i64 l') ∧ w.grownBy w' (Value.ownBlock (.slice A n c)) ∧ l'.Perm l ∧ In l' 0 n := by
  refine enter Try.func81 rfl (by kernel_rfl) ?_
  refine J.seq ?_
  refine J.region ?_
  refine L.va rfl (X.move (by conv => lhs; whnf)) ?_
  refine L.va rfl (X.len rfl Try.underlying74) ?_
  refine L.va rfl (X.assign (by conv => lhs; whnf)) ?_
  refine L.nil ?_
  refine J.region ?_
  refine L.va rfl (X.move (by conv => lhs; whnf)) ?_
  refine L.va rfl (X.move (by conv => lhs; whnf)) ?_
  refine L.va rfl (X.move (by conv => lhs; whnf)) ?_
  refine L.va rfl ((by first | exact X.convU rfl is_3 Try.underlying148 (by omega) | exact X.convw rfl is_3 Try.underlying148)) ?_
  refine L.call rfl en_112 rfl (len_ n w (by omega)) ?_
  rintro e _ ⟨k, rfl, hk, _, rfl⟩
  refine ⟨_, rfl, ?_⟩
  have c1 := pdqI A n c N hn n 0 (k : Int) l w ho (by omega) (by omega) (by omega) (fun h => absurd h (by omega))
  rw [Nat.zero_add] at c1
  refine L.call rfl en_111 rfl (c1) ?_
  rintro e w1 ⟨rfl, l', M, hI⟩
  refine ⟨_, rfl, ?_⟩
  refine L.nil ?_
  refine fin0 (.inr rfl) ?_
  exact ⟨rfl, l', M.o, M.g, M.p.perm, hI⟩
end Go.Proofs.Ytpomklkfedpkfaa
namespace Go.Proofs.Ytpomklkfedpkfaa
set_option maxRecDepth 100000
open Go.RowKit H
open Srt
set_option linter.unusedVariables false
theorem own_setCells {base e n cap g : Nat} : ∀ (vs : List Value) (o : Nat) (w : World) (xs : List Value), w.ownsRow base e 1 (.slice (some ⟨g, 0, none⟩) n cap) n xs →
    ∃ ys, (w.setCells g o vs).ownsRow base e 1 (.slice (some ⟨g, 0, none⟩) n cap) n ys ∧ w.grownBy (w.setCells g o vs) (some g) ∧ ys.take o = xs.take o
  | [], o, w, xs, h => ⟨xs, h, grown_ext (Ext.refl _), rfl⟩
  | v :: vs, o, w, xs, h => by
    obtain ⟨h1, g1⟩ := h.stored o v
    obtain ⟨ys, h2, g2, e2⟩ := own_setCells vs (o + 1) _ _ h1
    refine ⟨ys, h2, grb_trans g1 g2, ?_⟩
    have e3 := congrArg (List.take o) e2
    rw [List.take_take, List.take_take, Nat.min_eq_left (by omega)] at e3
    rw [e3, List.take_set_of_le (Nat.le_refl _)]
theorem L.clear {P : Program} {m : Nat} {ops rest : List Oper} {Q : Exit → Fr → World → Prop} {f : Fr} {w : World} {ty : TypeId} {pos : String} {aft : Array Edge} {g : Option (Nat × Bool)} {x : Operand} {t e base n c i : Nat} {A : Option Addr} {k : IntKind} {zs : List Int} {z : Value}
    (hg : wn ops f g = true) (hx : ev f x = .slice (if c = i then A else A.map (·.add (i * 1))) (n - i) (c - i)) (ht : P.underlying t = some (.slice e)) (hz : (P.info? e).bind (·.zero) = some z) (hzc : z.cells = #[z]) (h1 : z.oneCell' = true)
    (hown : w.ownsRow base e 1 (.slice A n c) n (nums k zs)) (hi : i < n)
    (h : ∀ w', w'.ownsRow base e 1 (.slice A i c) i (nums k (zs.take i)) → w.grownBy w' (Value.ownBlock (.slice A n c)) → L P m ops Q rest f w') :
    L P m ops Q (⟨none, .call { callee := .builtin .clear, args := #[x], argTypes := #[t] }, ty, pos, aft, g⟩ :: rest) f w := by
  have hnc := (own_bd hown).1
  obtain ⟨b, cap, hA, hb, hlt⟩ := hown.form (by omega)
  injection hA with hA _ hc
  subst hA hc
  rw [if_neg (by omega)] at hx
  have hx : ev f x = .slice (some ⟨b, i, none⟩) (n - i) (c - i) := by rw [hx]; simp [Addr.add_mid]
  obtain ⟨ys, o2, g2, e2⟩ := own_setCells (List.replicate (n - i) z) i w _ hown
  have hzr : ∀ w, (zeroValue e).run P w = .ok z w := fun w => by
    cases hi2 : P.info? e with
    | none => rw [hi2] at hz; cases hz
    | some inf => rw [hi2] at hz; have hz : inf.zero = some z := hz; simp [zeroValue, typeInfo, hi2, hz]
  have hcl : ∀ j, j < n - i → (w.cell? ⟨b, i + j, none⟩).isSome = true := fun j hj => by
    rw [hown.cellAt (i + j) (by omega), List.getElem?_eq_getElem (by rw [hown.1]; omega)]; rfl
  have hrun := Go.Lib.run_clear_slice (P := P) w t e ty z ht hzr hzc h1 b i (n - i) (c - i) (by omega) hcl (fun j hj => hown.frozenAt (i + j))
  refine L.val hg (w' := w.setCells b i (List.replicate (n - i) z)) (v := .tuple #[]) ?_ (h _ ?_ g2)
  · simp [hx, go_sem, hrun]
  · have := own_cut o2 (k := i) (by omega)
    rw [Nat.mul_one, e2] at this
    simpa [nums] using this
theorem ixI (A : Option Addr) (n c : Nat) (l : List Int) (x : Int) (w : World) (hr : Reads w w.heap.size 1 A n (nums .i64 l)) (hn : n ≤ maxLen) : Calls Try.prog 90 #[.slice A n c, .int .i64 x] w fun e w' => (∃ k : Int, e = .returned (.int .i64 k) ∧ (0 ≤ k ↔ x ∈ l)) ∧ w = w' := by
  have hl : l.length = n := by have := hr.1; simpa [nums] using this
  unfold maxLen at hn
  refine enter Try.func90 rfl (by kernel_rfl) ?_
  refine J.seq ?_
  refine J.region ?_
  refine L.va rfl (X.assign (by conv => lhs; whnf)) ?_
  refine L.nil ?_
  refine J.seq ?_
  refine J.seq ?_
  refine J.region ?_
  refine L.va rfl (X.move (by conv => lhs; whnf)) ?_
  refine L.va rfl (X.len rfl Try.underlying74) ?_
  refine L.va rfl (X.move (by conv => lhs; whnf)) ?_
  refine L.nil ?_
  refine J.block ?_
  refine J.loop (X := Nat) [4, 5, 8, 9, 10, 11, 12, 13, 14, 15, 16, 17, 18] (fun i => [(8, .int .i64 (i : Int))]) (fun i w' => i ≤ n ∧ (∀ j, j < i → l.getD j 0 ≠ x) ∧ w = w') (fun i => n - i) (0) (At1 (by first | rfl | exact at_int rfl (by omega) | exact at_slice rfl (by omega) | exact at_int rfl (by simp))) ?_ ?_
  · exact ⟨Nat.zero_le _, fun j hj => absurd hj (by omega), rfl⟩
  · rintro i g w2 ⟨hi, hP, rfl⟩
    refine J.seq ?_
    refine J.region ?_
    refine L.va rfl (X.lss rfl rfl) ?_
    refine L.nil ?_
    refine J.seq ?_
    refine J.dec rfl (fun hlt => ?_) (fun hlt => ?_)
    · have hA := hr.some_ (by omega)
      refine J.skip ?_
      refine J.seq ?_
      refine J.block ?_
      refine J.seq ?_
      refine J.region ?_
      refine L.va rfl (X.move (by conv => lhs; whnf)) ?_
      refine L.va rfl (X.assign (by conv => lhs; whnf)) ?_
      refine L.nil ?_
      refine J.seq ?_
      refine J.region ?_
      refine L.va rfl (X.move (by conv => lhs; whnf)) ?_
      refine L.va rfl (X.move (by conv => lhs; whnf)) ?_
      refine L.va rfl (X.move (by conv => lhs; whnf)) ?_
      refine L.va rfl ((by first | exact X.index1n rfl rfl Try.underlying74 sz_3 (by first | exact Option.some_ne_none _ | exact hr.some_ (by omega) | exact hA) (by omega) | exact X.index1 rfl rfl Try.underlying74 sz_3 (by first | exact Option.some_ne_none _ | exact hr.some_ (by omega) | exact hA) (by omega))) ?_
      refine L.va rfl (X.load rfl sc_3 (by first | exact Ld.num hr (by omega) | exact hA)) ?_
      refine L.va rfl (X.eql rfl rfl) ?_
      refine L.nil ?_
      refine J.dec rfl (fun he => ?_) (fun he => ?_)
      · refine J.seq ?_
        refine J.region ?_
        refine L.va rfl (X.move (by conv => lhs; whnf)) ?_
        refine L.va rfl (X.assign (by conv => lhs; whnf)) ?_
        refine L.nil ?_
        refine J.ret ?_
        refine inB_ret <|  thn_ret <|  thn_ret <|  inB_ret <|  thn_ret <| ?_
        refine fin1 ?_
        refine ⟨⟨_, rfl, ⟨fun _ => ?_, fun _ => by omega⟩⟩, rfl⟩
        rw [he, List.getD, List.getElem?_eq_getElem (by omega)]
        exact List.getElem_mem _
      · refine J.skip ?_
        refine J.region ?_
        refine L.va rfl (X.add rfl rfl (by omega)) ?_
        refine L.va rfl (X.move (by conv => lhs; whnf)) ?_
        refine L.nil ?_
        refine ⟨i + 1, At1 (by first | rfl | exact at_int rfl (by omega) | exact at_slice rfl (by omega) | exact at_int rfl (by simp)), (by (iterate 11 refine Agr.lk rfl ?_); exact Agr.lk rfl (Agr.hav rfl Agr.rfl')), ?_⟩
        refine ⟨⟨by omega, fun j hj => ?_, rfl⟩, by omega⟩
        rcases Nat.lt_or_ge j i with h | h
        · exact hP j h
        · obtain rfl : j = i := by omega
          exact fun h => he h.symm
    · refine J.exit ?_
      refine J.seq ?_
      refine J.region ?_
      refine L.va rfl (X.assign (by conv => lhs; whnf)) ?_
      refine L.nil ?_
      refine J.ret ?_
      refine fin1 ?_
      refine ⟨⟨_, rfl, ⟨fun h => absurd h (by decide), fun h => ?_⟩⟩, rfl⟩
      obtain ⟨j, hj, e⟩ := List.getElem_of_mem h
      have := hP j (by omega)
      rw [List.getD, List.getElem?_eq_getElem hj] at this
      exact absurd e this
theorem containsI (A : Option Addr) (n c : Nat) (l : List Int) (x : Int) (w : World) (hr : Reads w w.heap.size 1 A n (nums .i64 l)) (hn : n ≤ maxLen) : Calls Try.prog 60 #[.slice A n c, .int .i64 x] w fun e w' => e = .returned (.bool (l.contains x)) ∧ w = w' := by
  refine enter Try.func60 rfl (by kernel_rfl) ?_
  refine J.seq ?_
  refine J.region ?_
  refine L.va rfl (X.assign (by conv => lhs; whnf)) ?_
  refine L.nil ?_
  refine J.seq ?_
  refine J.region ?_
  refine L.va rfl (X.move (by conv => lhs; whnf)) ?_
  refine L.va rfl (X.move (by conv => lhs; whnf)) ?_
  refine L.call rfl en_90 rfl (ixI A n c l x w hr hn) ?_
  rintro e _ ⟨⟨k, rfl, hk⟩, rfl⟩
  refine ⟨_, rfl, ?_⟩
  refine L.va rfl (X.geq rfl rfl) ?_
  refine L.va rfl (X.assign (by conv => lhs; whnf)) ?_
  refine L.nil ?_
  refine J.ret ?_
  refine fin1 ?_
  refine ⟨?_, rfl⟩
  have : l.contains x = decide (0 ≤ k) := by
    rw [Bool.eq_iff_iff, List.contains_iff_mem, decide_eq_true_eq, hk]
  rw [this]
  rfl
end Go.Proofs.Ytpomklkfedpkfaa
namespace Go.Proofs.Ytpomklkfedpkfaa
set_option maxRecDepth 100000
open Go.RowKit H
open Srt
open Nrm (Up Dd Cmn)
set_option linter.unusedVariables false
theorem drop_getD (m : List Int) (i j : Nat) : (m.drop i).getD j 0 = m.getD (i + j) 0 := by rw [List.getD, List.getD, List.getElem?_drop]
theorem compactI (A : Option Addr) (n c N : Nat) (l : List Int) (w : World) (ho : w.ownsRow N 3 1 (.slice A n c) n (nums .i64 l)) (hs : In l 0 n) (hn : n ≤ 900000) :
    Calls Try.prog 82 #[.slice A n c] w fun e w' => ∃ k y, e = .returned (.slice A k c) ∧ w'.ownsRow N 3 1 (.slice A k c) k (nums .i64 y) ∧ w.grownBy w' (Value.ownBlock (.slice A n c)) ∧ Up y ∧ (∀ x, x ∈ y ↔ x ∈ l) := by
  have hl : l.length = n := by have := ho.1; simpa [nums] using this
  have hnc := (own_bd ho).1
  have hcm := (own_bd ho).2
  unfold maxLen at hcm
  refine enter Try.func82 rfl (by kernel_rfl) ?_
  refine J.seq ?_
  refine J.region ?_
  refine L.va rfl (X.assign (by conv => lhs; whnf)) ?_
  refine L.nil ?_
  refine J.seq ?_
  refine J.seq ?_
  refine J.region ?_
  refine L.va rfl (X.move (by conv => lhs; whnf)) ?_
  refine L.va rfl (X.len rfl Try.underlying74) ?_
  refine L.va rfl (X.lss rfl rfl) ?_
  refine L.nil ?_
  refine J.dec rfl (fun h2 => ?_) (fun h2 => ?_)
  · refine J.seq ?_
    refine J.region ?_
    refine L.va rfl (X.move (by conv => lhs; whnf)) ?_
    refine L.va rfl (X.assign (by conv => lhs; whnf)) ?_
    refine L.nil ?_
    refine J.ret ?_
    refine thn_ret <| ?_
    refine fin1 ?_
    refine ⟨n, l, rfl, ho, grown_ext (Ext.refl _), ?_, fun x => Iff.rfl⟩
    match l, hl with
    | [], _ => exact List.Pairwise.nil
    | [a], _ => exact List.pairwise_singleton _ _
    | a :: b :: t, hl => simp only [List.length_cons] at hl; omega
  · refine J.skip ?_
    refine J.seq ?_
    refine J.seq ?_
    refine J.region ?_
    refine L.va rfl (X.assign (by conv => lhs; whnf)) ?_
    refine L.nil ?_
    refine J.block ?_
    refine J.loop (X := Nat) [2, 3, 4, 5, 10, 11, 12, 13, 14, 15, 16, 17, 18, 19, 20, 21, 22, 23, 24, 25, 26, 27, 28, 29, 30, 31, 32, 33, 34, 35, 36, 37, 38, 39, 40, 41, 42, 43, 44, 45, 46, 47, 48, 49, 50, 51, 52, 53, 54, 55, 56, 57, 58, 59] (fun i => [(3, .int .i64 (i : Int))]) (fun i w' => 1 ≤ i ∧ i ≤ n ∧ Dd l i (l.take i) ∧ Ext w w') (fun i => n - i) (1) (At1 (by first | rfl | exact at_int rfl (by omega) | exact at_slice rfl (by omega) | exact at_int rfl (by simp))) ?_ ?_
    · exact ⟨Nat.le_refl _, by omega, Dd.one (by omega), Ext.refl _⟩
    · rintro i g w2 ⟨h1, hi, hD, he⟩
      have ho2 := ho.ext he
      have hr := Reads.of_own ho2
      have hA := hr.some_ (by omega)
      refine J.seq ?_
      refine J.seq ?_
      refine J.region ?_
      refine L.va rfl (X.move (by conv => lhs; whnf)) ?_
      refine L.va rfl (X.move (by conv => lhs; whnf)) ?_
      refine L.va rfl (X.len rfl Try.underlying74) ?_
      refine L.va rfl (X.lss rfl rfl) ?_
      refine L.nil ?_
      refine J.dec rfl (fun hlt => ?_) (fun hlt => ?_)
      · refine J.skip ?_
        refine J.seq ?_
        refine J.block ?_
        refine J.seq ?_
        refine J.quiet mixed (by kernel_rfl) ?_
        refine Qt.va rfl (fun w' hw => X.move (by conv => lhs; whnf)) ?_
        refine Qt.va rfl (fun w' hw => X.move (by conv => lhs; whnf)) ?_
        refine Qt.va rfl (fun w' hw => (by first | exact X.index1n rfl rfl Try.underlying74 sz_3 (by first | exact Option.some_ne_none _ | exact hr.some_ (by omega) | exact hA) (by omega) | exact X.index1 rfl rfl Try.underlying74 sz_3 (by first | exact Option.some_ne_none _ | exact hr.some_ (by omega) | exact hA) (by omega))) ?_
        refine Qt.va rfl (fun w' hw => X.load rfl sc_3 (by first | exact Ld.num (hr.ext hw) (by omega) | exact hA)) ?_
        refine Qt.va rfl (fun w' hw => X.move (by conv => lhs; whnf)) ?_
        refine Qt.va rfl (fun w' hw => X.move (by conv => lhs; whnf)) ?_
        refine Qt.va rfl (fun w' hw => X.sub rfl rfl (by omega)) ?_
        refine Qt.va rfl (fun w' hw => X.index1eI (j := i - 1) rfl rfl (by omega) Try.underlying74 sz_3 hA (by omega)) ?_
        refine Qt.va rfl (fun w' hw => X.load rfl sc_3 (by first | exact Ld.num (hr.ext hw) (by omega) | exact hA)) ?_
        refine Qt.va rfl (fun w' hw => X.eql rfl rfl) ?_
        refine Qt.nil (fun w3 hq => ?_)
        replace hr := hr.ext hq
        refine J.dec rfl (fun hd => ?_) (fun hd => ?_)
        · have hD1 := hD.same h1 (by omega) hd
          have ho3 := ho2.ext hq
          refine J.seq ?_
          refine J.region ?_
          refine L.va rfl (X.move (by conv => lhs; whnf)) ?_
          refine L.va rfl (X.move (by conv => lhs; whnf)) ?_
          refine L.va rfl ((by first | exact X.sliceFromn rfl rfl Try.underlying74 sz_3 (by omega) | exact X.sliceFrom rfl rfl Try.underlying74 sz_3 (by omega))) ?_
          refine L.va rfl (X.assign (by conv => lhs; whnf)) ?_
          refine L.nil ?_
          refine J.seq ?_
          refine J.seq ?_
          refine J.region ?_
          refine L.va rfl (X.assign (by conv => lhs; whnf)) ?_
          refine L.nil ?_
          refine J.block ?_
          refine J.loop (X := Nat × Nat × List Int) [3, 5, 29, 30, 31, 32, 33, 34, 35, 36, 37, 38, 39, 40, 41, 42, 43, 44, 45, 46, 47, 48, 49, 50, 51, 52, 53] (fun (k, q, m) => [(3, .int .i64 (k : Int)), (5, .int .i64 (q : Int))]) (fun (k, q, m) w' => 1 ≤ k ∧ k < i + q ∧ 1 ≤ q ∧ i + q ≤ n ∧ w'.ownsRow N 3 1 (.slice A n c) n (nums .i64 m) ∧ w.grownBy w' (Value.ownBlock (.slice A n c)) ∧ m.length = n ∧ Dd l (i + q) (m.take k) ∧ (∀ j, i + q - 1 ≤ j → m.getD j 0 = l.getD j 0)) (fun (_, q, _) => n - (i + q)) ((i, 1, l)) (At2 (by first | rfl | exact at_int rfl (by omega) | exact at_slice rfl (by omega) | exact at_int rfl (by simp)) (by first | rfl | exact at_int rfl (by omega) | exact at_slice rfl (by omega) | exact at_int rfl (by simp))) ?_ ?_
          · exact ⟨h1, Nat.lt_succ_self _, Nat.le_refl _, by omega, ho3, grown_ext (he.trans hq), hl, hD1, fun j _ => rfl⟩
          · rintro ⟨k, q, m⟩ g w4 ⟨k1, k2, k3, k4, ho4, hg4, hml, hDp, hsame⟩
            have hr4 := Reads.of_own ho4
            have hr5 := part_nums hr4 (i := i) (j := n) (by omega) (Nat.le_refl _) hnc
            rw [List.take_of_length_le (by rw [List.length_drop]; omega)] at hr5
            have hA5 : (if c = i then A else A.map (·.add (i * 1))) ≠ none := by
              rw [if_neg (by omega)]
              cases A with
              | none => exact absurd rfl hA
              | some a => exact fun h => by cases h
            refine J.seq ?_
            refine J.seq ?_
            refine J.region ?_
            refine L.va rfl (X.move (by conv => lhs; whnf)) ?_
            refine L.va rfl (X.move (by conv => lhs; whnf)) ?_
            refine L.va rfl (X.len rfl Try.underlying74) ?_
            refine L.va rfl (X.lss rfl rfl) ?_
            refine L.nil ?_
            refine J.dec rfl (fun hlt2 => ?_) (fun hlt2 => ?_)
            · have hlt2 : i + q < n := by omega
              refine J.skip ?_
              refine J.seq ?_
              refine J.block ?_
              refine J.seq ?_
              refine J.quiet mixed (by kernel_rfl) ?_
              refine Qt.va rfl (fun w' hw => X.move (by conv => lhs; whnf)) ?_
              refine Qt.va rfl (fun w' hw => X.move (by conv => lhs; whnf)) ?_
              refine Qt.va rfl (fun w' hw => (by first | exact X.index1n rfl rfl Try.underlying74 sz_3 (by first | exact Option.some_ne_none _ | exact hr5.some_ (by omega) | exact hA5) (by omega) | exact X.index1 rfl rfl Try.underlying74 sz_3 (by first | exact Option.some_ne_none _ | exact hr5.some_ (by omega) | exact hA5) (by omega))) ?_
              refine Qt.va rfl (fun w' hw => X.load rfl sc_3 (by first | exact Ld.num (hr5.ext hw) (by omega) | exact hA5)) ?_
              refine Qt.va rfl (fun w' hw => X.move (by conv => lhs; whnf)) ?_
              refine Qt.va rfl (fun w' hw => X.move (by conv => lhs; whnf)) ?_
              refine Qt.va rfl (fun w' hw => X.sub rfl rfl (by omega)) ?_
              refine Qt.va rfl (fun w' hw => X.index1eI (j := q - 1) rfl rfl (by omega) Try.underlying74 sz_3 hA5 (by omega)) ?_
              refine Qt.va rfl (fun w' hw => X.load rfl sc_3 (by first | exact Ld.num (hr5.ext hw) (by omega) | exact hA5)) ?_
              refine Qt.va rfl (fun w' hw => X.neq rfl rfl) ?_
              refine Qt.nil (fun w5 hq5 => ?_)
              replace hr5 := hr5.ext hq5
              rw [drop_getD, drop_getD, show i + (q - 1) = i + q - 1 by omega, hsame _ (by omega), hsame _ (Nat.le_refl _)]
              have hs5 := hs (i + q - 1) (i + q) (by omega) (by omega) hlt2
              have ho5 := ho4.ext hq5
              refine J.ndec rfl (fun hne => ?_) (fun hne => ?_)
              · skip
                refine J.seq ?_
                refine J.region ?_
                refine L.va rfl (X.move (by conv => lhs; whnf)) ?_
                refine L.va rfl (X.move (by conv => lhs; whnf)) ?_
                refine L.va rfl (X.move (by conv => lhs; whnf)) ?_
                refine L.va rfl (X.move (by conv => lhs; whnf)) ?_
                refine L.va rfl ((by first | exact X.index1n rfl rfl Try.underlying74 sz_3 (by first | exact Option.some_ne_none _ | exact hr5.some_ (by omega) | exact hA5) (by omega) | exact X.index1 rfl rfl Try.underlying74 sz_3 (by first | exact Option.some_ne_none _ | exact hr5.some_ (by omega) | exact hA5) (by omega))) ?_
                refine L.va rfl (X.load rfl sc_3 (by first | exact Ld.num hr5 (by omega) | exact hA5)) ?_
                refine L.va rfl (X.index1n rfl rfl Try.underlying74 sz_3 hA (by omega)) ?_
                refine L.storeON rfl rfl (by conv => lhs; whnf) sz_3 (ho5) (by omega) ?_
                intro w6 ho6 hg6 hb6 hs6
                rw [drop_getD, hsame _ (by omega)] at ho6
                refine L.nil ?_
                refine J.region ?_
                refine L.va rfl (X.move (by conv => lhs; whnf)) ?_
                refine L.va rfl (X.add rfl rfl (by omega)) ?_
                refine L.va rfl (X.assign (by conv => lhs; whnf)) ?_
                refine L.nil ?_
                refine J.region ?_
                refine L.va rfl (X.move (by conv => lhs; whnf)) ?_
                refine L.va rfl (X.add rfl rfl (by omega)) ?_
                refine L.va rfl (X.assign (by conv => lhs; whnf)) ?_
                refine L.nil ?_
                refine ⟨(k + 1, q + 1, m.set k (l.getD (i + q) 0)), At2 (by first | rfl | exact at_int rfl (by omega) | exact at_slice rfl (by omega) | exact at_int rfl (by simp)) (by first | rfl | exact at_int rfl (by omega) | exact at_slice rfl (by omega) | exact at_int rfl (by simp)), (by (iterate 27 refine Agr.lk rfl ?_); exact Agr.lk rfl (Agr.hav rfl Agr.rfl')), ?_⟩
                refine ⟨⟨by omega, by omega, by omega, by omega, ho6, grb_trans hg4 (grb_trans (grown_ext hq5) hg6), by rw [List.length_set]; exact hml, ?_, fun j hj => ?_⟩, by show n - (i + (q + 1)) < n - (i + q); omega⟩
                · have e : (m.set k (l.getD (i + q) 0)).take (k + 1) = m.take k ++ [l.getD (i + q) 0] := by
                    rw [Nrm.take_next _ 0 (by rw [List.length_set]; omega), List.take_set_of_le (Nat.le_refl _)]
                    congr 2
                    rw [List.getD, List.getElem?_set_self (by omega)]
                    rfl
                  rw [e]
                  exact hDp.new (by omega) (by omega)
                · have : k ≠ j := by omega
                  rw [List.getD, List.getElem?_set_ne this]
                  exact hsame j (by omega)
              · skip
                refine J.skip ?_
                refine J.region ?_
                refine L.va rfl (X.move (by conv => lhs; whnf)) ?_
                refine L.va rfl (X.add rfl rfl (by omega)) ?_
                refine L.va rfl (X.assign (by conv => lhs; whnf)) ?_
                refine L.nil ?_
                refine ⟨(k, q + 1, m), At2 (by first | rfl | exact at_int rfl (by omega) | exact at_slice rfl (by omega) | exact at_int rfl (by simp)) (by first | rfl | exact at_int rfl (by omega) | exact at_slice rfl (by omega) | exact at_int rfl (by simp)), (by (iterate 17 refine Agr.lk rfl ?_); exact Agr.lk rfl (Agr.hav rfl Agr.rfl')), ?_⟩
                refine ⟨⟨by omega, by omega, by omega, by omega, ho5, grb_trans hg4 (grown_ext hq5), hml, hDp.same (by omega) (by omega) (by omega), fun j hj => hsame j (by omega)⟩, by show n - (i + (q + 1)) < n - (i + q); omega⟩
            · refine J.exit ?_
              refine J.seq ?_
              refine J.region ?_
              refine L.va rfl (X.move (by conv => lhs; whnf)) ?_
              refine L.va rfl (X.move (by conv => lhs; whnf)) ?_
              refine L.va rfl ((by first | exact X.sliceFromn rfl rfl Try.underlying74 sz_3 (by omega) | exact X.sliceFrom rfl rfl Try.underlying74 sz_3 (by omega))) ?_
              refine L.clear (z := .int .i64 0) rfl rfl Try.underlying74 (by kernel_rfl) rfl rfl ho4 (show k < n by omega) ?_
              intro w5 ho5 hg5
              refine L.nil ?_
              refine J.seq ?_
              refine J.region ?_
              refine L.va rfl (X.move (by conv => lhs; whnf)) ?_
              refine L.va rfl (X.move (by conv => lhs; whnf)) ?_
              refine L.va rfl ((by first | exact X.sliceTon rfl rfl Try.underlying74 sz_3 (by omega) | exact X.sliceTo rfl rfl Try.underlying74 sz_3 (by omega))) ?_
              refine L.va rfl (X.assign (by conv => lhs; whnf)) ?_
              refine L.nil ?_
              refine J.ret ?_
              refine inB_ret <|  thn_ret <|  thn_ret <|  inB_ret <|  thn_ret <| ?_
              refine fin1 ?_
              refine ⟨k, m.take k, rfl, ho5, grb_trans hg4 hg5, hDp.up, fun x => hDp.mems (by omega) x⟩
        · skip
          refine J.skip ?_
          refine J.region ?_
          refine L.va rfl (X.move (by conv => lhs; whnf)) ?_
          refine L.va rfl (X.add rfl rfl (by omega)) ?_
          refine L.va rfl (X.assign (by conv => lhs; whnf)) ?_
          refine L.nil ?_
          refine ⟨i + 1, At1 (by first | rfl | exact at_int rfl (by omega) | exact at_slice rfl (by omega) | exact at_int rfl (by simp)), (by (iterate 17 refine Agr.lk rfl ?_); exact Agr.lk rfl (Agr.hav rfl Agr.rfl')), ?_⟩
          refine ⟨⟨by omega, by omega, ?_, he.trans hq⟩, by omega⟩
          rw [Nrm.take_next l 0 (by omega)]
          have := hs (i - 1) i (by omega) (by omega) (by omega)
          exact hD.new (by omega) (by omega)
      · refine J.exit ?_
        refine J.seq ?_
        refine J.region ?_
        refine L.va rfl (X.move (by conv => lhs; whnf)) ?_
        refine L.va rfl (X.assign (by conv => lhs; whnf)) ?_
        refine L.nil ?_
        refine J.ret ?_
        refine fin1 ?_
        obtain rfl : i = n := by omega
        rw [← hl, List.take_length, hl] at hD
        exact ⟨i, l, rfl, ho2, grown_ext he, hD.up, fun x => Iff.rfl⟩
end Go.Proofs.Ytpomklkfedpkfaa
namespace Go.Proofs.Ytpomklkfedpkfaa
set_option maxRecDepth 100000
open Go.RowKit H
open Srt
open Nrm (Up Dd Cmn)
set_option linter.unusedVariables false
theorem own_bot {w : World} {base : Nat} {e : TypeId} {size n : Nat} {v : Value} {xs : List Value} (h : w.ownsRow base e size v n xs) (g : Nat) (hg : v.ownBlock = some g) : base ≤ g := by
  rcases h.2 with ⟨rfl, _⟩ | ⟨b, cap, cur, rfl, hb, hh, _⟩
  · cases hg
  · obtain rfl : b = g := by injection hg
    exact hb
structure Cs where
  (A : Option Addr) (n c : Nat) (l : List Int)
namespace Cs
abbrev val (s : Cs) : Value := .slice s.A s.n s.c
structure At (s : Cs) (N : Nat) (w : World) : Prop where
  r : Reads w N 1 s.A s.n (nums .i64 s.l)
  c : s.n ≤ s.c
  m : s.c ≤ maxLen
theorem At.ext {f : Cs} {N : Nat} {w w' : World} (h : f.At N w) (he : Ext w w') : f.At N w' := ⟨h.r.ext he, h.c, h.m⟩
theorem At.low {f : Cs} {N B : Nat} {w w' : World} (h : f.At N w) (he : Below B w w') (hB : N ≤ B) : f.At N w' := ⟨h.r.low he hB, h.c, h.m⟩
theorem At.more {f : Cs} {N N' : Nat} {w : World} (h : f.At N w) (hN : N ≤ N') : f.At N' w := ⟨h.r.more hN, h.c, h.m⟩
theorem At.len {f : Cs} {N : Nat} {w : World} (h : f.At N w) : f.l.length = f.n := by have := h.r.1; simpa [nums] using this
theorem At.own {A : Option Addr} {n c N : Nat} {l : List Int} {w : World} {e : TypeId} (h : w.ownsRow N e 1 (.slice A n c) n (nums .i64 l)) : (Cs.mk A n c l).At w.heap.size w := ⟨Reads.of_own h, (own_bd h).1, (own_bd h).2⟩
def tl (s : Cs) : Cs := ⟨if s.c = 1 then s.A else s.A.map (·.add (1 * 1)), s.n - 1, s.c - 1, s.l.tail⟩
theorem At.tl {f : Cs} {N : Nat} {w : World} (h : f.At N w) (hn : 0 < f.n) : f.tl.At N w := by
  have hl := h.len
  have hc := h.c
  have hm := h.m
  have := part_nums h.r (i := 1) (j := f.n) hn (Nat.le_refl _) h.c
  rw [List.take_of_length_le (by rw [List.length_drop]; omega), List.drop_one] at this
  exact ⟨this, show f.n - 1 ≤ f.c - 1 by omega, show f.c - 1 ≤ maxLen by omega⟩
end Cs
theorem plainI (A : Option Addr) (n c : Nat) (l : List Int) (w : World) (hr : Reads w w.heap.size 1 A n (nums .i64 l)) (hn : n ≤ 5000) :
    Calls Try.prog 55 #[.slice A n c] w fun e w' => ∃ s : Cs, e = .returned s.val ∧ w'.ownsRow w.heap.size 3 1 s.val s.n (nums .i64 s.l) ∧ Ext w w' ∧ Up s.l ∧ (∀ x, x ∈ s.l ↔ x ∈ l) := by
  refine enter Try.func55 rfl (by kernel_rfl) ?_
  refine J.seq ?_
  refine J.region ?_
  refine L.va rfl (X.assign (by conv => lhs; whnf)) ?_
  refine L.nil ?_
  refine J.seq ?_
  refine J.region ?_
  refine L.va rfl (X.move (by conv => lhs; whnf)) ?_
  refine L.call rfl en_80 rfl (cloneI A n c l w hr hn) ?_
  rintro e w1 ⟨A1, c1, rfl, ho1, he1⟩
  refine ⟨_, rfl, ?_⟩
  refine L.va rfl (X.assign (by conv => lhs; whnf)) ?_
  refine L.nil ?_
  refine J.seq ?_
  refine J.region ?_
  refine L.va rfl (X.move (by conv => lhs; whnf)) ?_
  refine L.call rfl en_81 rfl (sortI A1 n c1 w.heap.size l w1 ho1 (by omega)) ?_
  rintro e w2 ⟨rfl, l2, ho2, hg2, hp2, hs2⟩
  refine ⟨_, rfl, ?_⟩
  refine L.nil ?_
  refine J.seq ?_
  refine J.region ?_
  refine L.va rfl (X.move (by conv => lhs; whnf)) ?_
  refine L.call rfl en_82 rfl (compactI A1 n c1 w.heap.size l2 w2 ho2 hs2 (by omega)) ?_
  rintro e w3 ⟨k, y, rfl, ho3, hg3, hu, hm⟩
  refine ⟨_, rfl, ?_⟩
  refine L.va rfl (X.assign (by conv => lhs; whnf)) ?_
  refine L.nil ?_
  refine J.ret ?_
  refine fin1 ?_
  exact ⟨⟨A1, k, c1, y⟩, rfl, ho3, he1.grw (grb_trans hg2 hg3) (fun g hg => own_bot ho1 g hg), hu, fun x => (hm x).trans hp2.mem_iff⟩
theorem commonI (a b : Cs) (w : World) (ha : a.At w.heap.size w) (hb : b.At w.heap.size w) (ua : Up a.l) (ub : Up b.l) (hn : a.n ≤ 5000) :
    Calls Try.prog 54 #[a.val, b.val] w fun e w' => ∃ s : Cs, e = .returned s.val ∧ w'.ownsRow w.heap.size 3 1 s.val s.n (nums .i64 s.l) ∧ Ext w w' ∧ Up s.l ∧ (∀ x, x ∈ s.l ↔ (x ∈ a.l ∧ x ∈ b.l)) := by
  have hma := ha.m
  have hca := ha.c
  have hmb := hb.m
  have hcb := hb.c
  unfold maxLen at hma hmb
  refine enter Try.func54 rfl (by kernel_rfl) ?_
  refine J.seq ?_
  refine J.region ?_
  refine L.va rfl (X.assign (by conv => lhs; whnf)) ?_
  refine L.nil ?_
  refine J.seq ?_
  refine J.region ?_
  refine L.va rfl (X.assign (by conv => lhs; whnf)) ?_
  refine L.nil ?_
  refine J.seq ?_
  refine J.block ?_
  refine J.loop (X := Cs × Cs × Cs) [0, 1, 5, 6, 7, 8, 9, 10, 11, 12, 13, 14, 15, 16, 17, 18, 19, 20, 21, 22, 23, 24, 25, 26, 27, 28, 29, 30, 31, 32, 33, 34, 35, 36, 37, 38, 39, 40, 41, 42, 43] (fun (u, v, o) => [(0, u.val), (1, v.val), (5, o.val)]) (fun (u, v, o) w' => u.At w.heap.size w' ∧ v.At w.heap.size w' ∧ w'.ownsRow w.heap.size 3 1 o.val o.n (nums .i64 o.l) ∧ Cmn a.l b.l u.l v.l o.l ∧ o.n + u.n ≤ a.n ∧ Ext w w') (fun (u, v, _) => u.n + v.n) ((a, b, ⟨none, 0, 0, []⟩)) (At3 (by first | rfl | exact at_int rfl (by omega) | exact at_slice rfl (by omega) | exact at_int rfl (by simp)) (by first | rfl | exact at_int rfl (by omega) | exact at_slice rfl (by omega) | exact at_int rfl (by simp)) (by first | rfl | exact at_int rfl (by omega) | exact at_slice rfl (by omega) | exact at_int rfl (by simp))) ?_ ?_
  · exact ⟨ha, hb, own_nilN _ _ _ _, Cmn.start ua ub, by show 0 + a.n ≤ a.n; omega, Ext.refl _⟩
  · rintro ⟨u, v, o⟩ g w2 ⟨hu, hv, ho, hC, hlen, he⟩
    have hmu := hu.m
    have hcu := hu.c
    have hlu := hu.len
    have hmv := hv.m
    have hcv := hv.c
    have hlv := hv.len
    unfold maxLen at hmu hmv
    have hru := hu.r
    have hrv := hv.r
    refine J.seq ?_
    refine J.seq ?_
    refine J.region ?_
    refine L.va rfl (X.move (by conv => lhs; whnf)) ?_
    refine L.va rfl (X.len rfl Try.underlying74) ?_
    refine L.va rfl (X.gtr rfl rfl) ?_
    refine L.va rfl (X.move (by conv => lhs; whnf)) ?_
    refine L.caseDec (k := 9) rfl (fun h1 => ?_) (fun h1 => ?_)
    · refine L.va rfl (X.move (by conv => lhs; whnf)) ?_
      refine L.va rfl (X.len rfl Try.underlying74) ?_
      refine L.va rfl (X.gtr rfl rfl) ?_
      refine L.va rfl (X.pickT rfl (by conv => lhs; whnf)) ?_
      refine L.nil ?_
      refine J.dec rfl (fun h2 => ?_) (fun h2 => ?_)
      · have hAu := hru.some_ (by omega)
        have hAv := hrv.some_ (by omega)
        obtain ⟨x, xt, ex⟩ : ∃ x xt, u.l = x :: xt := by
          match h : u.l with
          | [] => rw [h] at hlu; simp at hlu; omega
          | x :: xt => exact ⟨x, xt, rfl⟩
        obtain ⟨z, zt, ez⟩ : ∃ x xt, v.l = x :: xt := by
          match h : v.l with
          | [] => rw [h] at hlv; simp at hlv; omega
          | x :: xt => exact ⟨x, xt, rfl⟩
        rw [ex, ez] at hC
        have eu : u.tl.l = xt := by show u.l.tail = xt; rw [ex]; rfl
        have ew : v.tl.l = zt := by show v.l.tail = zt; rw [ez]; rfl
        rw [ex] at hru
        rw [ez] at hrv
        have hut := hu.tl (by omega)
        have hvt := hv.tl (by omega)
        refine J.skip ?_
        refine J.block ?_
        refine J.block ?_
        refine J.seq ?_
        refine J.quiet mixed (by kernel_rfl) ?_
        refine Qt.va rfl (fun w' hw => X.move (by conv => lhs; whnf)) ?_
        refine Qt.va rfl (fun w' hw => X.index1n (j := 0) rfl rfl Try.underlying74 sz_3 (by first | exact Option.some_ne_none _ | exact hru.some_ (by omega) | exact hrv.some_ (by omega) | exact hAu | exact hAv) (by omega)) ?_
        refine Qt.va rfl (fun w' hw => X.load rfl sc_3 (by first | exact Ld.num (hru.ext hw) (by omega) | exact Ld.num (hrv.ext hw) (by omega) | exact hAu | exact hAv)) ?_
        refine Qt.va rfl (fun w' hw => X.move (by conv => lhs; whnf)) ?_
        refine Qt.va rfl (fun w' hw => X.index1n (j := 0) rfl rfl Try.underlying74 sz_3 (by first | exact Option.some_ne_none _ | exact hru.some_ (by omega) | exact hrv.some_ (by omega) | exact hAu | exact hAv) (by omega)) ?_
        refine Qt.va rfl (fun w' hw => X.load rfl sc_3 (by first | exact Ld.num (hru.ext hw) (by omega) | exact Ld.num (hrv.ext hw) (by omega) | exact hAu | exact hAv)) ?_
        refine Qt.va rfl (fun w' hw => X.lss rfl rfl) ?_
        refine Qt.va rfl (fun w' hw => X.assign (by conv => lhs; whnf)) ?_
        refine Qt.nil (fun w3 hq => ?_)
        replace hru := hru.ext hq
        replace hrv := hrv.ext hq
        refine J.dec rfl (fun h3 => ?_) (fun h3 => ?_)
        · refine J.region ?_
          refine L.va rfl (X.move (by conv => lhs; whnf)) ?_
          refine L.va rfl ((by first | exact X.sliceFromn (i := 1) rfl rfl Try.underlying74 sz_3 (by omega) | exact X.sliceFrom rfl rfl Try.underlying74 sz_3 (by omega))) ?_
          refine L.va rfl (X.assign (by conv => lhs; whnf)) ?_
          refine L.nil ?_
          refine ⟨(u.tl, v, o), At3 (by first | rfl | exact at_int rfl (by omega) | exact at_slice rfl (by omega) | exact at_int rfl (by simp)) (by first | rfl | exact at_int rfl (by omega) | exact at_slice rfl (by omega) | exact at_int rfl (by simp)) (by first | rfl | exact at_int rfl (by omega) | exact at_slice rfl (by omega) | exact at_int rfl (by simp)), (by (iterate 20 refine Agr.lk rfl ?_); exact Agr.lk rfl (Agr.hav rfl Agr.rfl')), ?_⟩
          refine ⟨⟨hut.ext hq, hv.ext hq, ho.ext hq, ?_, ?_, he.trans hq⟩, ?_⟩
          · rw [eu, ez]; exact hC.left h3
          · show o.n + (u.n - 1) ≤ a.n; omega
          · show u.n - 1 + v.n < u.n + v.n; omega
        · refine J.seq ?_
          refine J.quiet mixed (by kernel_rfl) ?_
          refine Qt.va rfl (fun w' hw => X.move (by conv => lhs; whnf)) ?_
          refine Qt.va rfl (fun w' hw => X.index1n (j := 0) rfl rfl Try.underlying74 sz_3 (by first | exact Option.some_ne_none _ | exact hru.some_ (by omega) | exact hrv.some_ (by omega) | exact hAu | exact hAv) (by omega)) ?_
          refine Qt.va rfl (fun w' hw => X.load rfl sc_3 (by first | exact Ld.num (hru.ext hw) (by omega) | exact Ld.num (hrv.ext hw) (by omega) | exact hAu | exact hAv)) ?_
          refine Qt.va rfl (fun w' hw => X.move (by conv => lhs; whnf)) ?_
          refine Qt.va rfl (fun w' hw => X.index1n (j := 0) rfl rfl Try.underlying74 sz_3 (by first | exact Option.some_ne_none _ | exact hru.some_ (by omega) | exact hrv.some_ (by omega) | exact hAu | exact hAv) (by omega)) ?_
          refine Qt.va rfl (fun w' hw => X.load rfl sc_3 (by first | exact Ld.num (hru.ext hw) (by omega) | exact Ld.num (hrv.ext hw) (by omega) | exact hAu | exact hAv)) ?_
          refine Qt.va rfl (fun w' hw => X.gtr rfl rfl) ?_
          refine Qt.va rfl (fun w' hw => X.assign (by conv => lhs; whnf)) ?_
          refine Qt.nil (fun w4 hq4 => ?_)
          replace hru := hru.ext hq4
          replace hrv := hrv.ext hq4
          refine J.dec rfl (fun h4 => ?_) (fun h4 => ?_)
          · refine J.region ?_
            refine L.va rfl (X.move (by conv => lhs; whnf)) ?_
            refine L.va rfl ((by first | exact X.sliceFromn (i := 1) rfl rfl Try.underlying74 sz_3 (by omega) | exact X.sliceFrom rfl rfl Try.underlying74 sz_3 (by omega))) ?_
            refine L.va rfl (X.assign (by conv => lhs; whnf)) ?_
            refine L.nil ?_
            refine ⟨(u, v.tl, o), At3 (by first | rfl | exact at_int rfl (by omega) | exact at_slice rfl (by omega) | exact at_int rfl (by simp)) (by first | rfl | exact at_int rfl (by omega) | exact at_slice rfl (by omega) | exact at_int rfl (by simp)) (by first | rfl | exact at_int rfl (by omega) | exact at_slice rfl (by omega) | exact at_int rfl (by simp)), (by (iterate 28 refine Agr.lk rfl ?_); exact Agr.lk rfl (Agr.hav rfl Agr.rfl')), ?_⟩
            refine ⟨⟨(hu.ext hq).ext hq4, (hvt.ext hq).ext hq4, (ho.ext hq).ext hq4, ?_, hlen, (he.trans hq).trans hq4⟩, ?_⟩
            · rw [ew, ex]; exact hC.right h4
            · show u.n + (v.n - 1) < u.n + v.n; omega
          · have e0 : x = z := by
              have h3 : ¬ x < z := h3
              have h4 : ¬ z < x := h4
              omega
            subst e0
            have ho4 := (ho.ext hq).ext hq4
            have he4 := (he.trans hq).trans hq4
            have z4 := he4.le
            refine J.seq ?_
            refine J.region ?_
            refine L.va rfl (X.move (by conv => lhs; whnf)) ?_
            refine L.va rfl (X.move (by conv => lhs; whnf)) ?_
            refine L.va rfl (X.index1n (j := 0) rfl rfl Try.underlying74 sz_3 (by first | exact Option.some_ne_none _ | exact hru.some_ (by omega) | exact hrv.some_ (by omega) | exact hAu | exact hAv) (by omega)) ?_
            refine L.va rfl (X.load rfl sc_3 (by first | exact Ld.num hru (by omega) | exact Ld.num hrv (by omega) | exact hAu | exact hAv)) ?_
            refine L.bslice (vs := [_]) rfl (Evs.cons (by conv => lhs; whnf) Evs.nil) rfl rfl rfl rfl Try.underlying74 sz_3 zr_3 (by decide) ?_
            intro b5 w5 hb5 hs5 hk5 he5
            refine L.appendQ (q := o.n + 1) (ys := o.l ++ [x]) rfl rfl rfl Try.underlying74 el_3 (ho4.ext he5) ((blk_reads (q := 1) (l := nums .i64 [x]) hk5 hk5.lt rfl)) (by omega) (by simp) (by unfold maxLen; omega) (by omega) ?_
            intro A6 c6 w6 ho6 hg6 hb6 hor6
            have he46 : Ext w w6 := (he4.trans he5).low hb6 (Nat.le_refl _)
            have hut6 : u.tl.At w.heap.size w6 := ((((hut.ext hq).ext hq4).ext he5)).low hb6 (Nat.le_refl _)
            have hvt6 : v.tl.At w.heap.size w6 := ((((hvt.ext hq).ext hq4).ext he5)).low hb6 (Nat.le_refl _)
            refine L.va rfl (X.assign (by conv => lhs; whnf)) ?_
            refine L.nil ?_
            refine J.quiet mixed (by kernel_rfl) ?_
            refine Qt.va rfl (fun w' hw => X.move (by conv => lhs; whnf)) ?_
            refine Qt.va rfl (fun w' hw => (by first | exact X.sliceFromn (i := 1) rfl rfl Try.underlying74 sz_3 (by omega) | exact X.sliceFrom rfl rfl Try.underlying74 sz_3 (by omega))) ?_
            refine Qt.va rfl (fun w' hw => X.move (by conv => lhs; whnf)) ?_
            refine Qt.va rfl (fun w' hw => (by first | exact X.sliceFromn (i := 1) rfl rfl Try.underlying74 sz_3 (by omega) | exact X.sliceFrom rfl rfl Try.underlying74 sz_3 (by omega))) ?_
            refine Qt.va rfl (fun w' hw => X.assign (by conv => lhs; whnf)) ?_
            refine Qt.va rfl (fun w' hw => X.assign (by conv => lhs; whnf)) ?_
            refine Qt.nil (fun w7 hq7 => ?_)
            refine ⟨(u.tl, v.tl, ⟨A6, o.n + 1, c6, o.l ++ [x]⟩), At3 (by first | rfl | exact at_int rfl (by omega) | exact at_slice rfl (by omega) | exact at_int rfl (by simp)) (by first | rfl | exact at_int rfl (by omega) | exact at_slice rfl (by omega) | exact at_int rfl (by simp)) (by first | rfl | exact at_int rfl (by omega) | exact at_slice rfl (by omega) | exact at_int rfl (by simp)), (by (iterate 38 refine Agr.lk rfl ?_); exact Agr.lk rfl (Agr.hav rfl Agr.rfl')), ?_⟩
            refine ⟨⟨hut6.ext hq7, hvt6.ext hq7, ho6.ext hq7, ?_, ?_, he46.trans hq7⟩, ?_⟩
            · rw [eu, ew]; exact hC.both
            · show o.n + 1 + (u.n - 1) ≤ a.n; omega
            · show u.n - 1 + (v.n - 1) < u.n + v.n; omega
      · refine J.exit ?_
        refine J.seq ?_
        refine J.region ?_
        refine L.va rfl (X.move (by conv => lhs; whnf)) ?_
        refine L.va rfl (X.assign (by conv => lhs; whnf)) ?_
        refine L.nil ?_
        refine J.ret ?_
        refine fin1 ?_
        have e0 : v.l = [] := List.length_eq_zero_iff.1 (by omega)
        exact ⟨o, rfl, ho, he, hC.uo, hC.stop (.inr e0)⟩
    · refine L.no rfl ?_
      refine L.no rfl ?_
      refine L.no rfl ?_
      refine L.va rfl (X.pickF rfl (by conv => lhs; whnf)) ?_
      refine L.nil ?_
      refine J.iteF rfl ?_
      refine J.exit ?_
      refine J.seq ?_
      refine J.region ?_
      refine L.va rfl (X.move (by conv => lhs; whnf)) ?_
      refine L.va rfl (X.assign (by conv => lhs; whnf)) ?_
      refine L.nil ?_
      refine J.ret ?_
      refine fin1 ?_
      have e0 : u.l = [] := List.length_eq_zero_iff.1 (by omega)
      exact ⟨o, rfl, ho, he, hC.uo, hC.stop (.inl e0)⟩
end Go.Proofs.Ytpomklkfedpkfaa
namespace Go.Proofs.Ytpomklkfedpkfaa
set_option maxRecDepth 100000
open Go.RowKit H
set_option linter.unusedVariables false
def fst' {α : Type} (g : α → Int) : List α → Int
  | [] => 0
  | x :: t => if g x ≠ 0 then g x else fst' g t
theorem fst_at {α : Type} {g : α → Int} {d : α} : ∀ {l : List α} {i : Nat}, i < l.length → (∀ j, j < i → g (l.getD j d) = 0) → g (l.getD i d) ≠ 0 → fst' g l = g (l.getD i d)
  | [], i, h, _, _ => absurd h (by simp)
  | x :: t, 0, _, _, h => by
    have h : g x ≠ 0 := h
    show (if g x ≠ 0 then g x else fst' g t) = g x
    rw [if_pos h]
  | x :: t, i + 1, h, hP, he => by
    have h0 : g x = 0 := hP 0 (by omega)
    show (if g x ≠ 0 then g x else fst' g t) = g ((x :: t).getD (i + 1) d)
    rw [if_neg (fun k => k h0)]
    exact fst_at (l := t) (i := i) (by simpa using h) (fun j hj => hP (j + 1) (by omega)) he
theorem fst_0 {α : Type} {g : α → Int} {d : α} : ∀ {l : List α}, (∀ j, j < l.length → g (l.getD j d) = 0) → fst' g l = 0
  | [], _ => rfl
  | x :: t, hP => by
    have h0 : g x = 0 := hP 0 (by simp)
    show (if g x ≠ 0 then g x else fst' g t) = 0
    rw [if_neg (fun k => k h0)]
    exact fst_0 (l := t) fun j hj => hP (j + 1) (by simpa using hj)
theorem fst_ok {α : Type} {g : α → Int} {d : α} : ∀ {l : List α}, fst' g l = 0 → ∀ j, j < l.length → g (l.getD j d) = 0
  | [], _, j, hj => absurd hj (by simp)
  | x :: t, h, j, hj => by
    have h : (if g x ≠ 0 then g x else fst' g t) = 0 := h
    by_cases h0 : g x = 0
    · rw [if_neg (fun k => k h0)] at h
      cases j with
      | zero => exact h0
      | succ j => exact fst_ok (l := t) h j (by simpa using hj)
    · rw [if_pos h0] at h; exact absurd h h0
structure Fi where
  (d : Int) (A : Option Addr) (n c : Nat) (l : List Int)
namespace Fi
abbrev vs (f : Fi) : List Value := [.int .i64 f.d, .slice f.A f.n f.c]
abbrev val (f : Fi) : Value := .agg f.vs.toArray
structure At (f : Fi) (N : Nat) (w : World) : Prop where
  r : Reads w N 1 f.A f.n (nums .i64 f.l)
  m : f.n ≤ maxLen
theorem At.ext {f : Fi} {N : Nat} {w w' : World} (h : f.At N w) (he : Ext w w') : f.At N w' := ⟨h.r.ext he, h.m⟩
theorem At.low {f : Fi} {N B : Nat} {w w' : World} (h : f.At N w) (he : Below B w w') (hB : N ≤ B) : f.At N w' := ⟨h.r.low he hB, h.m⟩
theorem At.more {f : Fi} {N N' : Nat} {w : World} (h : f.At N w) (hN : N ≤ N') : f.At N' w := ⟨h.r.more hN, h.m⟩
theorem At.len {f : Fi} {N : Nat} {w : World} (h : f.At N w) : f.l.length = f.n := by have := h.r.1; simpa [nums] using this
end Fi
def fi0 : Fi := ⟨0, none, 0, 0, []⟩
theorem fi_len (f : Fi) : f.vs.length = 2 := rfl
theorem gtF {l : List Fi} {i : Nat} (h : i < l.length) : l[i]? = some (l.getD i fi0) := by rw [List.getD, List.getElem?_eq_getElem h]; rfl
theorem memF {l : List Fi} {i : Nat} (h : i < l.length) : l.getD i fi0 ∈ l := by rw [List.getD, List.getElem?_eq_getElem h]; exact List.getElem_mem _
structure Fis where
  (A : Option Addr) (n c : Nat) (l : List Fi)
namespace Fis
abbrev val (s : Fis) : Value := .slice s.A s.n s.c
structure At (s : Fis) (N : Nat) (w : World) : Prop where
  r : Reads w N 2 s.A s.n (s.l.flatMap Fi.vs)
  h : ∀ x ∈ s.l, x.At N w
  l : s.l.length = s.n
  m : s.n ≤ maxLen
theorem At.ext {s : Fis} {N : Nat} {w w' : World} (h : s.At N w) (he : Ext w w') : s.At N w' := ⟨h.r.ext he, fun x hx => (h.h x hx).ext he, h.l, h.m⟩
theorem At.low {s : Fis} {N B : Nat} {w w' : World} (h : s.At N w) (he : Below B w w') (hB : N ≤ B) : s.At N w' := ⟨h.r.low he hB, fun x hx => (h.h x hx).low he hB, h.l, h.m⟩
theorem At.more {s : Fis} {N N' : Nat} {w : World} (h : s.At N w) (hN : N ≤ N') : s.At N' w := ⟨h.r.more hN, fun x hx => (h.h x hx).more hN, h.l, h.m⟩
theorem At.one {s : Fis} {N : Nat} {w : World} (h : s.At N w) {i : Nat} (hi : i < s.n) : (s.l.getD i fi0).At N w := h.h _ (memF (by rw [h.l]; exact hi))
end Fis
abbrev cOk (s : Sch) (d : Int) (c : Int) : Prop := 0 ≤ c ∧ c < (s.ds.getD d.toNat d0).2
def fE (s : Sch) (f : Fi) : Int := if f.d < 0 ∨ (s.nd : Int) ≤ f.d then 11 else if 4096 < f.n then 3 else if ∃ i, i < f.n ∧ ¬ cOk s f.d (f.l.getD i 0) then 2 else 0
def fcode (s : Sch) (f : Fis) : Int := if s.code ≠ 0 then 1 else if 20 < f.n then 3 else fst' (fE s) f.l
theorem fE_11 {s : Sch} {f : Fi} (h : f.d < 0 ∨ (s.nd : Int) ≤ f.d) : fE s f = 11 := by unfold fE; rw [if_pos h]
theorem fE_3 {s : Sch} {f : Fi} (h : ¬ (f.d < 0 ∨ (s.nd : Int) ≤ f.d)) (h2 : 4096 < f.n) : fE s f = 3 := by unfold fE; rw [if_neg h, if_pos h2]
theorem fE_2 {s : Sch} {f : Fi} (h : ¬ (f.d < 0 ∨ (s.nd : Int) ≤ f.d)) (h2 : ¬ 4096 < f.n) {i : Nat} (hi : i < f.n) (h3 : ¬ cOk s f.d (f.l.getD i 0)) : fE s f = 2 := by unfold fE; rw [if_neg h, if_neg h2, if_pos ⟨i, hi, h3⟩]
theorem fE_0 {s : Sch} {f : Fi} (h : ¬ (f.d < 0 ∨ (s.nd : Int) ≤ f.d)) (h2 : ¬ 4096 < f.n) (h3 : ∀ i, i < f.n → cOk s f.d (f.l.getD i 0)) : fE s f = 0 := by
  unfold fE; rw [if_neg h, if_neg h2, if_neg]; rintro ⟨i, hi, k⟩; exact k (h3 i hi)
theorem fcheck {s : Sch} {f : Fis} {w : World} (H : s.Here w) (hf : f.At w.heap.size w) : Calls Try.prog 36 #[s.val, f.val] w fun e w' => e = .returned (.int .i64 (fcode s f)) ∧ Ext w w' := by
  have hl := hf.l
  have hm := hf.m
  have hle := H.hle
  unfold maxLen at hm
  refine enter Try.func36 rfl (by kernel_rfl) ?_
  refine J.seq ?_
  refine J.region ?_
  refine L.boxA (l := [_, _, _, _]) rfl rfl ?_
  intro b1 w1 hb1 hs1 hk1 he1
  have H1 := H.ext he1
  refine L.va rfl (X.assign (by conv => lhs; whnf)) ?_
  refine L.nil ?_
  refine J.seq ?_
  refine J.seq ?_
  refine J.region ?_
  refine L.va rfl ((by first | exact X.loadAgg rfl (range_l hk1) Try.underlying47 rfl (by kernel_rfl) | exact X.loadAgg rfl (range_blk hk1) Try.underlying47 rfl (by kernel_rfl))) ?_
  refine L.call rfl en_56 rfl (H1.check) ?_
  rintro e w2 ⟨rfl, he2⟩
  refine ⟨_, rfl, ?_⟩
  have he02 := he1.trans he2
  replace hk1 := hk1.ext he2
  refine L.va rfl (X.neq rfl rfl) ?_
  refine L.nil ?_
  refine J.ndec rfl (fun h1 => ?_) (fun h1 => ?_)
  · have e : fcode s f = 1 := by unfold fcode; rw [if_pos h1]
    rw [e]
    refine J.seq ?_
    refine J.region ?_
    refine L.va rfl (X.assign (by conv => lhs; whnf)) ?_
    refine L.nil ?_
    refine J.ret ?_
    refine thn_ret <| ?_
    refine fin1 ?_
    exact ⟨rfl, he02⟩
  refine J.skip ?_
  refine J.seq ?_
  refine J.seq ?_
  refine J.region ?_
  refine L.va rfl (X.move (by conv => lhs; whnf)) ?_
  refine L.va rfl (X.len rfl Try.underlying48) ?_
  refine L.va rfl (X.gtr rfl rfl) ?_
  refine L.nil ?_
  refine J.dec rfl (fun h2 => ?_) (fun h2 => ?_)
  · have e : fcode s f = 3 := by unfold fcode; rw [if_neg (fun h => h h1), if_pos (by omega)]
    rw [e]
    refine J.seq ?_
    refine J.region ?_
    refine L.va rfl (X.assign (by conv => lhs; whnf)) ?_
    refine L.nil ?_
    refine J.ret ?_
    refine thn_ret <| ?_
    refine fin1 ?_
    exact ⟨rfl, he02⟩
  have e : fcode s f = fst' (fE s) f.l := by unfold fcode; rw [if_neg (fun h => h h1), if_neg (by omega)]
  rw [e]
  have z2 := he02.le
  have H2 := H.ext he02
  refine J.skip ?_
  refine J.seq ?_
  refine J.seq ?_
  refine J.region ?_
  refine L.va rfl (X.move (by conv => lhs; whnf)) ?_
  refine L.va rfl (X.len rfl Try.underlying48) ?_
  refine L.va rfl (X.move (by conv => lhs; whnf)) ?_
  refine L.nil ?_
  refine J.block ?_
  refine J.loop (X := Nat) [4, 6, 8, 17, 18, 19, 20, 21, 22, 23, 24, 25, 26, 27, 28, 29, 30, 31, 32, 33, 34, 35, 36, 37, 38, 39, 40, 41, 42, 43, 44, 45, 46, 47, 48, 49, 50, 51, 52, 53, 54, 55, 56, 57] (fun i => [(17, .int .i64 (i : Int))]) (fun i w' => i ≤ f.n ∧ (∀ j, j < i → fE s (f.l.getD j fi0) = 0) ∧ Ext w2 w') (fun i => f.n - i) (0) (At1 (by first | rfl | exact at_int rfl (by omega) | exact at_slice rfl (by omega) | exact at_int rfl (by simp))) ?_ ?_
  · exact ⟨Nat.zero_le _, fun j hj => absurd hj (by omega), Ext.refl _⟩
  · rintro i g w3 ⟨hi, hP, he3⟩
    have z3 := he3.le
    have he03 := he02.trans he3
    have hf3 := hf.ext he03
    have hk3 := hk1.ext he3
    have H3 := H2.ext he3
    refine J.seq ?_
    refine J.region ?_
    refine L.va rfl (X.lss rfl rfl) ?_
    refine L.nil ?_
    refine J.seq ?_
    refine J.dec rfl (fun hlt => ?_) (fun hlt => ?_)
    · have hin : i < f.n := by omega
      have hA := hf3.r.some_ (by omega)
      obtain ⟨x, hx⟩ : ∃ x, x = f.l.getD i fi0 := ⟨_, rfl⟩
      have hX := hf3.one hin
      have hgt := gtF (l := f.l) (i := i) (by omega)
      rw [← hx] at hX hgt
      refine J.skip ?_
      refine J.seq ?_
      refine J.block ?_
      refine J.seq ?_
      refine J.region ?_
      refine L.va rfl ((by first | exact X.indexAddrn rfl rfl Try.underlying48 sz_76 (by first | exact Option.some_ne_none _ | exact hA) (by omega) | exact X.indexAddr rfl rfl Try.underlying48 sz_76 (by first | exact Option.some_ne_none _ | exact hA) (by omega))) ?_
      refine L.va rfl (X.loadRow (cs := x.vs) rfl hf3.r (fun r u hu => flat_row fi_len hgt r u hu) (Nat.zero_lt_succ _) Try.underlying76 rfl (by kernel_rfl)) ?_
      refine L.alloc rfl zr_76 ?_
      intro b4 w4 hb4 hs4 hk4 he4
      refine L.storeAgg (vs := [_, _]) rfl rfl rfl rfl sz_76 (hk4) rfl ?_
      intro w5 hk5 hg5 hs5
      have he35 : Ext w3 w5 := he4.grw hg5 (by intro g hg; injection hg with hg; omega)
      have hk5 : Blk w5 b4 76 x.vs.toArray := hk5
      have he05 := he03.trans he35
      have he25 := he3.trans he35
      have hk15 := hk3.ext he35
      have hX5 := hX.ext he35
      have H5 := H3.ext he35
      have hxl := hX5.len
      have hxm := hX5.m
      unfold maxLen at hxm
      have z5 := he25.le
      refine L.nil ?_
      refine J.seq ?_
      refine J.seq ?_
      refine J.region ?_
      refine L.va rfl (X.fieldAddr rfl Try.underlying76 rfl sz_3 (by decide)) ?_
      refine L.va rfl (X.load rfl sc_3 (by first | exact Ld.blk hk5 rfl | exact Ld.blk hk15 rfl | exact hA)) ?_
      refine L.va rfl (X.lss rfl rfl) ?_
      refine L.va rfl (X.move (by conv => lhs; whnf)) ?_
      refine L.caseDec (k := 24) rfl (fun h3 => ?_) (fun h3 => ?_)
      · refine L.no rfl ?_
        refine L.no rfl ?_
        refine L.no rfl ?_
        refine L.no rfl ?_
        refine L.no rfl ?_
        refine L.no rfl ?_
        refine L.va rfl (X.pickT rfl (by conv => lhs; whnf)) ?_
        refine L.nil ?_
        refine J.iteT rfl ?_
        rw [fst_at (d := fi0) (i := i) (by omega) hP (by rw [← hx, fE_11 (by omega)]; decide), ← hx, fE_11 (by omega)]
        refine J.seq ?_
        refine J.region ?_
        refine L.va rfl (X.assign (by conv => lhs; whnf)) ?_
        refine L.nil ?_
        refine J.ret ?_
        refine thn_ret <|  inB_ret <|  thn_ret <|  thn_ret <|  inB_ret <|  thn_ret <| ?_
        refine fin1 ?_
        exact ⟨rfl, he05⟩
      refine L.va rfl (X.fieldAddr rfl Try.underlying76 rfl sz_3 (by decide)) ?_
      refine L.va rfl (X.load rfl sc_3 (by first | exact Ld.blk hk5 rfl | exact Ld.blk hk15 rfl | exact hA)) ?_
      refine L.va rfl (X.fieldAddr rfl Try.underlying47 rfl sz_43 (by decide)) ?_
      refine L.va rfl (X.load rfl sc_43 (by first | exact Ld.blk hk5 rfl | exact Ld.blk hk15 rfl | exact hA)) ?_
      refine L.va rfl (X.len rfl Try.underlying43) ?_
      refine L.va rfl (X.geq rfl rfl) ?_
      refine L.va rfl (X.pickF rfl (by conv => lhs; whnf)) ?_
      refine L.nil ?_
      refine J.dec rfl (fun h4 => ?_) (fun h4 => ?_)
      · rw [fst_at (d := fi0) (i := i) (by omega) hP (by rw [← hx, fE_11 (by omega)]; decide), ← hx, fE_11 (by omega)]
        refine J.seq ?_
        refine J.region ?_
        refine L.va rfl (X.assign (by conv => lhs; whnf)) ?_
        refine L.nil ?_
        refine J.ret ?_
        refine thn_ret <|  inB_ret <|  thn_ret <|  thn_ret <|  inB_ret <|  thn_ret <| ?_
        refine fin1 ?_
        exact ⟨rfl, he05⟩
      refine J.skip ?_
      refine J.seq ?_
      refine J.seq ?_
      refine J.region ?_
      refine L.va rfl (X.fieldAddr rfl Try.underlying76 rfl sz_74 (by decide)) ?_
      refine L.va rfl (X.load rfl sc_74 (by first | exact Ld.blk hk5 rfl | exact Ld.blk hk15 rfl | exact hA)) ?_
      refine L.va rfl (X.len rfl Try.underlying74) ?_
      refine L.va rfl (X.gtr rfl rfl) ?_
      refine L.nil ?_
      refine J.dec rfl (fun h5 => ?_) (fun h5 => ?_)
      · rw [fst_at (d := fi0) (i := i) (by omega) hP (by rw [← hx, fE_3 (by omega) (by omega)]; decide), ← hx, fE_3 (by omega) (by omega)]
        refine J.seq ?_
        refine J.region ?_
        refine L.va rfl (X.assign (by conv => lhs; whnf)) ?_
        refine L.nil ?_
        refine J.ret ?_
        refine thn_ret <|  inB_ret <|  thn_ret <|  thn_ret <|  inB_ret <|  thn_ret <| ?_
        refine fin1 ?_
        exact ⟨rfl, he05⟩
      obtain ⟨dn, hdn⟩ : ∃ dn : Nat, x.d = (dn : Int) := ⟨x.d.toNat, by omega⟩
      have hdlt : dn < s.nd := by omega
      refine J.skip ?_
      refine J.seq ?_
      refine J.region ?_
      refine L.va rfl (X.fieldAddr rfl Try.underlying76 rfl sz_74 (by decide)) ?_
      refine L.va rfl (X.load rfl sc_74 (by first | exact Ld.blk hk5 rfl | exact Ld.blk hk15 rfl | exact hA)) ?_
      refine L.va rfl (X.len rfl Try.underlying74) ?_
      refine L.va rfl (X.move (by conv => lhs; whnf)) ?_
      refine L.nil ?_
      refine J.block ?_
      refine J.loop (X := Nat) [4, 8, 39, 40, 41, 42, 43, 44, 45, 46, 47, 48, 49, 50, 51, 52, 53, 54, 55, 56] (fun k => [(39, .int .i64 (k : Int))]) (fun k w' => k ≤ x.n ∧ (∀ j, j < k → cOk s x.d (x.l.getD j 0)) ∧ Ext w5 w') (fun k => x.n - k) (0) (At1 (by first | rfl | exact at_int rfl (by omega) | exact at_slice rfl (by omega) | exact at_int rfl (by simp))) ?_ ?_
      · exact ⟨Nat.zero_le _, fun j hj => absurd hj (by omega), Ext.refl _⟩
      · rintro k g w6 ⟨hk, hQ, he6⟩
        have hk6 := hk5.ext he6
        have hk16 := hk15.ext he6
        have r6 := hX5.r.ext he6
        have hd6 := (H5.ext he6).hd
        refine J.seq ?_
        refine J.region ?_
        refine L.va rfl (X.lss rfl rfl) ?_
        refine L.nil ?_
        refine J.seq ?_
        refine J.dec rfl (fun hlt2 => ?_) (fun hlt2 => ?_)
        · have hkn : k < x.n := by omega
          have hA1 := r6.some_ (by omega)
          have hA2 := hd6.some_ (by omega)
          refine J.skip ?_
          refine J.seq ?_
          refine J.block ?_
          refine J.seq ?_
          refine J.region ?_
          refine L.va rfl ((by first | exact X.index1n rfl rfl Try.underlying74 sz_3 (by first | exact Option.some_ne_none _ | exact r6.some_ (by omega) | exact hd6.some_ (by omega) | exact hA1 | exact hA2) (by omega) | exact X.index1 rfl rfl Try.underlying74 sz_3 (by first | exact Option.some_ne_none _ | exact r6.some_ (by omega) | exact hd6.some_ (by omega) | exact hA1 | exact hA2) (by omega))) ?_
          refine L.va rfl (X.load rfl sc_3 (by first | exact Ld.blk hk6 rfl | exact Ld.blk hk16 rfl | exact Ld.num r6 (by omega) | exact Ld.dimS hd6 (by omega) | exact Ld.dimN hd6 (by omega) | exact hA1 | exact hA2)) ?_
          refine L.va rfl (X.assign (by conv => lhs; whnf)) ?_
          refine L.nil ?_
          refine J.seq ?_
          refine J.region ?_
          refine L.va rfl (X.move (by conv => lhs; whnf)) ?_
          refine L.va rfl (X.lss rfl rfl) ?_
          refine L.va rfl (X.move (by conv => lhs; whnf)) ?_
          refine L.caseDec (k := 45) rfl (fun h6 => ?_) (fun h6 => ?_)
          · refine L.no rfl ?_
            refine L.no rfl ?_
            refine L.no rfl ?_
            refine L.no rfl ?_
            refine L.no rfl ?_
            refine L.no rfl ?_
            refine L.no rfl ?_
            refine L.no rfl ?_
            refine L.no rfl ?_
            refine L.va rfl (X.pickT rfl (by conv => lhs; whnf)) ?_
            refine L.nil ?_
            refine J.iteT rfl ?_
            rw [fst_at (d := fi0) (i := i) (by omega) hP (by rw [← hx, fE_2 (by omega) (by omega) hkn (by unfold cOk; omega)]; decide), ← hx, fE_2 (by omega) (by omega) hkn (by unfold cOk; omega)]
            refine J.seq ?_
            refine J.region ?_
            refine L.va rfl (X.assign (by conv => lhs; whnf)) ?_
            refine L.nil ?_
            refine J.ret ?_
            refine inB_ret <|  thn_ret <|  thn_ret <|  inB_ret <|  inB_ret <|  thn_ret <|  thn_ret <|  inB_ret <|  thn_ret <| ?_
            refine fin1 ?_
            exact ⟨rfl, he05.trans he6⟩
          refine L.va rfl (X.move (by conv => lhs; whnf)) ?_
          refine L.va rfl (X.fieldAddr rfl Try.underlying47 rfl sz_43 (by decide)) ?_
          refine L.va rfl (X.load rfl sc_43 (by first | exact Ld.blk hk6 rfl | exact Ld.blk hk16 rfl | exact Ld.num r6 (by omega) | exact Ld.dimS hd6 (by omega) | exact Ld.dimN hd6 (by omega) | exact hA1 | exact hA2)) ?_
          refine L.va rfl (X.fieldAddr rfl Try.underlying76 rfl sz_3 (by decide)) ?_
          refine L.va rfl (X.load rfl sc_3 (by first | exact Ld.blk hk6 rfl | exact Ld.blk hk16 rfl | exact Ld.num r6 (by omega) | exact Ld.dimS hd6 (by omega) | exact Ld.dimN hd6 (by omega) | exact hA1 | exact hA2)) ?_
          refine L.va rfl ((by first | exact X.indexAddrn rfl rfl Try.underlying43 sz_78 (by first | exact Option.some_ne_none _ | exact r6.some_ (by omega) | exact hd6.some_ (by omega) | exact hA1 | exact hA2) (by omega) | exact X.indexAddr rfl rfl Try.underlying43 sz_78 (by first | exact Option.some_ne_none _ | exact r6.some_ (by omega) | exact hd6.some_ (by omega) | exact hA1 | exact hA2) (by omega))) ?_
          refine L.va rfl (X.fieldP rfl Try.underlying78 rfl sz_3 (by decide) (by first | exact Option.some_ne_none _ | exact r6.some_ (by omega) | exact hd6.some_ (by omega) | exact hA1 | exact hA2)) ?_
          refine L.va rfl (X.load rfl sc_3 (by first | exact Ld.blk hk6 rfl | exact Ld.blk hk16 rfl | exact Ld.num r6 (by omega) | exact Ld.dimS hd6 (by omega) | exact Ld.dimN hd6 (by omega) | exact hA1 | exact hA2)) ?_
          refine L.va rfl (X.geq rfl rfl) ?_
          refine L.va rfl (X.pickF rfl (by conv => lhs; whnf)) ?_
          refine L.nil ?_
          refine J.dec rfl (fun h7 => ?_) (fun h7 => ?_)
          · rw [fst_at (d := fi0) (i := i) (by omega) hP (by rw [← hx, fE_2 (by omega) (by omega) hkn (by unfold cOk; omega)]; decide), ← hx, fE_2 (by omega) (by omega) hkn (by unfold cOk; omega)]
            refine J.seq ?_
            refine J.region ?_
            refine L.va rfl (X.assign (by conv => lhs; whnf)) ?_
            refine L.nil ?_
            refine J.ret ?_
            refine inB_ret <|  thn_ret <|  thn_ret <|  inB_ret <|  inB_ret <|  thn_ret <|  thn_ret <|  inB_ret <|  thn_ret <| ?_
            refine fin1 ?_
            exact ⟨rfl, he05.trans he6⟩
          refine J.skip ?_
          refine J.region ?_
          refine L.va rfl (X.add rfl rfl (by omega)) ?_
          refine L.va rfl (X.move (by conv => lhs; whnf)) ?_
          refine L.nil ?_
          refine ⟨k + 1, At1 (by first | rfl | exact at_int rfl (by omega) | exact at_slice rfl (by omega) | exact at_int rfl (by simp)), (by (iterate 20 refine Agr.lk rfl ?_); exact Agr.lk rfl (Agr.hav rfl Agr.rfl')), ?_⟩
          refine ⟨⟨by omega, fun j hj => ?_, he6⟩, by omega⟩
          rcases Nat.lt_or_ge j k with h | h
          · exact hQ j h
          · obtain rfl : j = k := by omega
            exact ⟨by omega, by omega⟩
        · have e0 : fE s x = 0 := fE_0 (by omega) (by omega) (fun j hj => hQ j (by omega))
          refine J.exit ?_
          refine J.region ?_
          refine L.va rfl (X.add rfl rfl (by omega)) ?_
          refine L.va rfl (X.move (by conv => lhs; whnf)) ?_
          refine L.nil ?_
          refine ⟨i + 1, At1 (by first | rfl | exact at_int rfl (by omega) | exact at_slice rfl (by omega) | exact at_int rfl (by simp)), (by (iterate 3 refine Agr.lk rfl ?_); refine Agr.lk rfl ?_; refine Agr.hav rfl ?_; (iterate 24 refine Agr.lk rfl ?_); exact Agr.lk rfl (Agr.hav rfl Agr.rfl')), ?_⟩
          refine ⟨⟨by omega, fun j hj => ?_, he25.trans he6⟩, by omega⟩
          rcases Nat.lt_or_ge j i with h | h
          · exact hP j h
          · obtain rfl : j = i := by omega
            rw [← hx]; exact e0
    · rw [fst_0 (d := fi0) (fun j hj => hP j (by omega))]
      refine J.exit ?_
      refine J.seq ?_
      refine J.region ?_
      refine L.va rfl (X.assign (by conv => lhs; whnf)) ?_
      refine L.nil ?_
      refine J.ret ?_
      refine fin1 ?_
      exact ⟨rfl, he02.trans he3⟩
end Go.Proofs.Ytpomklkfedpkfaa
namespace Go.Proofs.Ytpomklkfedpkfaa
set_option maxRecDepth 100000
open Go.RowKit H
open Nrm (Up sel mem_sel eq_sel up_sel kp sm nrm nf take_next)
set_option linter.unusedVariables false
def szN (s : Sch) (i : Nat) : Nat := (s.ds.getD i d0).2.toNat
def szs (s : Sch) (n : Nat) : List Nat := (List.range n).map (szN s)
theorem szs_next (s : Sch) (n : Nat) : szs s (n + 1) = szs s n ++ [szN s n] := by unfold szs; rw [List.range_succ, List.map_append]; rfl
theorem szs_len (s : Sch) (n : Nat) : (szs s n).length = n := by simp [szs]
abbrev Fi.key (f : Fi) : Int × List Int := (f.d, f.l)
theorem key_at {l : List Fi} {i : Nat} (h : i < l.length) : (l.map Fi.key).take (i + 1) = (l.map Fi.key).take i ++ [(l.getD i fi0).key] := by
  rw [take_next _ (0, []) (by rw [List.length_map]; exact h)]
  congr 2
  rw [List.getD, List.getElem?_map, gtF h]
  rfl
structure FOk (s : Sch) (f : Fis) : Prop where
  c : s.code = 0
  n : f.n ≤ 20
  d : ∀ i, i < f.n → 0 ≤ (f.l.getD i fi0).d ∧ (f.l.getD i fi0).d < s.nd
  m : ∀ i, i < f.n → (f.l.getD i fi0).n ≤ 4096
  k : ∀ i j, i < f.n → j < (f.l.getD i fi0).n → cOk s (f.l.getD i fi0).d ((f.l.getD i fi0).l.getD j 0)
theorem fE_ok {s : Sch} {x : Fi} (h : fE s x = 0) : (0 ≤ x.d ∧ x.d < s.nd) ∧ x.n ≤ 4096 ∧ ∀ j, j < x.n → cOk s x.d (x.l.getD j 0) := by
  unfold fE at h
  by_cases h1 : x.d < 0 ∨ (s.nd : Int) ≤ x.d
  · rw [if_pos h1] at h; exact absurd h (by decide)
  · rw [if_neg h1] at h
    by_cases h2 : 4096 < x.n
    · rw [if_pos h2] at h; exact absurd h (by decide)
    · rw [if_neg h2] at h
      by_cases h3 : ∃ i, i < x.n ∧ ¬ cOk s x.d (x.l.getD i 0)
      · rw [if_pos h3] at h; exact absurd h (by decide)
      · refine ⟨by omega, by omega, fun j hj => Decidable.byContradiction fun hn => h3 ⟨j, hj, hn⟩⟩
theorem fok {s : Sch} {f : Fis} (hl : f.l.length = f.n) (h : fcode s f = 0) : FOk s f := by
  unfold fcode at h
  by_cases h1 : s.code = 0
  · rw [if_neg (fun k => k h1)] at h
    by_cases h2 : 20 < f.n
    · rw [if_pos h2] at h; exact absurd h (by decide)
    · rw [if_neg h2] at h
      have := fst_ok (d := fi0) h
      exact ⟨h1, by omega, fun i hi => (fE_ok (this i (by omega))).1, fun i hi => (fE_ok (this i (by omega))).2.1, fun i j hi hj => (fE_ok (this i (by omega))).2.2 j hj⟩
  · rw [if_pos h1] at h; exact absurd h (by decide)
def FiOwn (x : Fi) (N : Nat) (w : World) : Prop := w.ownsRow N 3 1 (.slice x.A x.n x.c) x.n (nums .i64 x.l)
theorem FiOwn.at {x : Fi} {N : Nat} {w : World} (h : FiOwn x N w) : x.At w.heap.size w := ⟨Reads.of_own h, own_max h⟩
structure FisOwn (f : Fis) (N : Nat) (w : World) : Prop where
  o : w.ownsRow N 76 2 (.slice f.A f.n f.c) f.n (f.l.flatMap Fi.vs)
  h : ∀ x, x ∈ f.l → FiOwn x N w
  l : f.l.length = f.n
theorem FisOwn.at {f : Fis} {N : Nat} {w : World} (h : FisOwn f N w) : f.At w.heap.size w := ⟨Reads.of_own h.o, fun x hx => (h.h x hx).at, h.l, own_max h.o⟩
theorem FisOwn.ext {f : Fis} {N : Nat} {w w' : World} (h : FisOwn f N w) (he : Ext w w') : FisOwn f N w' := ⟨h.o.ext he, fun x hx => World.ownsRow.ext (h.h x hx) he, h.l⟩
theorem fnorm_ok {s : Sch} {f : Fis} {w : World} (H : s.Here w) (hf : f.At w.heap.size w) (hc : fcode s f = 0) : Calls Try.prog 33 #[s.val, f.val] w fun e w' => ∃ r : Fis, e = .returned (.tuple #[r.val, .int .i64 0]) ∧ FisOwn r w.heap.size w' ∧ r.l.map Fi.key = nrm (f.l.map Fi.key) 0 (szs s s.nd) ∧ Ext w w' := by
  have K := fok hf.l hc
  have hl := hf.l
  have hsl := H.len
  have G := Sch.good K.c
  have hnd := G.1
  have hfn := K.n
  obtain ⟨ky, eky⟩ : ∃ ky, ky = f.l.map Fi.key := ⟨_, rfl⟩
  refine enter Try.func33 rfl (by kernel_rfl) ?_
  refine J.seq ?_
  refine J.region ?_
  refine L.boxA (l := [_, _, _, _]) rfl rfl ?_
  intro b1 w1 hb1 hs1 hk1 he1
  refine L.va rfl (X.assign (by conv => lhs; whnf)) ?_
  refine L.va rfl (X.assign (by conv => lhs; whnf)) ?_
  refine L.nil ?_
  refine J.seq ?_
  refine J.seq ?_
  refine J.region ?_
  refine L.va rfl ((by first | exact X.loadAgg rfl (range_l hk1) Try.underlying47 rfl (by kernel_rfl) | exact X.loadAgg rfl (range_blk hk1) Try.underlying47 rfl (by kernel_rfl))) ?_
  refine L.va rfl (X.move (by conv => lhs; whnf)) ?_
  refine L.call rfl en_36 rfl (fcheck (H.ext he1) ((hf.ext he1).more he1.le)) ?_
  rintro e w2 ⟨rfl, he2⟩
  refine ⟨_, rfl, ?_⟩
  rw [hc]
  have he02 := he1.trans he2
  replace hk1 := hk1.ext he2
  refine L.va rfl (X.assign (by conv => lhs; whnf)) ?_
  refine L.nil ?_
  refine J.seq ?_
  refine J.region ?_
  refine L.va rfl (X.move (by conv => lhs; whnf)) ?_
  refine L.va rfl (X.neq rfl rfl) ?_
  refine L.nil ?_
  refine J.iteF rfl ?_
  refine J.skip ?_
  refine J.seq ?_
  refine J.region ?_
  refine L.va rfl (X.assign (by conv => lhs; whnf)) ?_
  refine L.nil ?_
  refine J.seq ?_
  refine J.seq ?_
  refine J.region ?_
  refine L.va rfl (X.fieldAddr rfl Try.underlying47 rfl sz_43 (by decide)) ?_
  refine L.va rfl (X.load rfl sc_43 (by first | exact Ld.blk hk1 rfl)) ?_
  refine L.va rfl (X.len rfl Try.underlying43) ?_
  refine L.va rfl (X.move (by conv => lhs; whnf)) ?_
  refine L.nil ?_
  refine J.block ?_
  refine J.loop (X := Nat × Fis) [7, 8, 9, 10, 11, 13, 23, 24, 25, 26, 27, 28, 29, 30, 31, 32, 33, 34, 35, 36, 37, 38, 39, 40, 41, 42, 43, 44, 45, 46, 47, 48, 49, 50, 51, 52, 53, 54, 55, 56, 57, 58, 59, 60, 61, 62] (fun (i, r) => [(23, .int .i64 (i : Int)), (7, r.val)]) (fun (i, r) w' => i ≤ s.nd ∧ FisOwn r w.heap.size w' ∧ r.l.map Fi.key = nrm ky 0 (szs s i) ∧ Ext w w') (fun (i, _) => s.nd - i) ((0, ⟨none, 0, 0, []⟩)) (At2 (by first | rfl | exact at_int rfl (by omega) | exact at_slice rfl (by omega) | exact at_int rfl (by simp)) (by first | rfl | exact at_int rfl (by omega) | exact at_slice rfl (by omega) | exact at_int rfl (by simp))) ?_ ?_
  · exact ⟨Nat.zero_le _, ⟨own_nil _ _ _ _, (fun x hx => by cases hx), rfl⟩, rfl, he02⟩
  · rintro ⟨i, r⟩ g w3 ⟨hi, hr, hrk, he3⟩
    have hd3 := (H.ext he3).hd
    have z3 := he3.le
    refine J.seq ?_
    refine J.region ?_
    refine L.va rfl (X.lss rfl rfl) ?_
    refine L.nil ?_
    refine J.seq ?_
    refine J.dec rfl (fun hlt => ?_) (fun hlt => ?_)
    · have hil : i < s.nd := by omega
      have hA := hd3.some_ (by omega)
      have hrow := dims_row (l := s.ds) (i := i) (by omega)
      have hbd := szB_at (mono_b (szB_s s.ds) (by omega : i + 1 ≤ s.nd) G.2)
      have hn : ((szN s i : Nat) : Int) = (s.ds.getD i d0).2 := by unfold szN; omega
      refine J.skip ?_
      refine J.seq ?_
      refine J.block ?_
      refine J.seq ?_
      refine J.region ?_
      refine L.va rfl (X.move (by conv => lhs; whnf)) ?_
      refine L.va rfl ((by first | exact X.indexAddrn rfl rfl Try.underlying43 sz_78 (by first | exact Option.some_ne_none _ | exact hA) (by omega) | exact X.indexAddr rfl rfl Try.underlying43 sz_78 (by first | exact Option.some_ne_none _ | exact hA) (by omega))) ?_
      refine L.va rfl (X.loadRow (cs := [.string (s.ds.getD i d0).1, .int .i64 (s.ds.getD i d0).2]) rfl hd3 hrow (Nat.zero_lt_succ _) Try.underlying78 rfl (by kernel_rfl)) ?_
      refine L.alloc rfl zr_78 ?_
      intro b4 w4 hb4 hs4 hk4 he4
      refine L.va rfl (X.assign (by conv => lhs; whnf)) ?_
      refine L.storeAgg (vs := [_, _]) rfl rfl rfl rfl sz_78 (hk4) rfl ?_
      intro w5 hk5 hg5 hs5
      have hk5 : Blk w5 b4 78 #[.string (s.ds.getD i d0).1, .int .i64 (s.ds.getD i d0).2] := hk5
      have he35 : Ext w3 w5 := he4.grw hg5 (by intro g hg; injection hg with hg; omega)
      have he5 := he3.trans he35
      have hr5 := hr.ext he35
      have z5 := he5.le
      rw [← hn] at hk5
      refine L.nil ?_
      refine J.seq ?_
      refine J.region ?_
      refine L.va rfl (X.assign (by conv => lhs; whnf)) ?_
      refine L.nil ?_
      refine J.seq ?_
      refine J.region ?_
      refine L.va rfl (X.assign (by conv => lhs; whnf)) ?_
      refine L.nil ?_
      refine J.seq ?_
      refine J.seq ?_
      refine J.region ?_
      refine L.va rfl (X.move (by conv => lhs; whnf)) ?_
      refine L.va rfl (X.len rfl Try.underlying48) ?_
      refine L.va rfl (X.move (by conv => lhs; whnf)) ?_
      refine L.nil ?_
      refine J.block ?_
      refine J.loop (X := Nat × Bool × Cs) [10, 11, 13, 30, 31, 32, 33, 34, 35, 36, 37, 38, 39, 40, 41, 42, 43, 44, 45, 46, 47] (fun (j, b, cs) => [(30, .int .i64 (j : Int)), (10, .bool b), (11, cs.val)]) (fun (j, b, cs) w' => j ≤ f.n ∧ b = sm (ky.take j) i ∧ (b = true → cs.l = sel (szN s i) (kp (ky.take j) i)) ∧ w'.ownsRow w.heap.size 3 1 cs.val cs.n (nums .i64 cs.l) ∧ Ext w5 w') (fun (j, _) => f.n - j) ((0, false, ⟨none, 0, 0, []⟩)) (At3 (by first | rfl | exact at_int rfl (by omega) | exact at_slice rfl (by omega) | exact at_int rfl (by simp)) (by first | rfl | exact at_int rfl (by omega) | exact at_slice rfl (by omega) | exact at_int rfl (by simp)) (by first | rfl | exact at_int rfl (by omega) | exact at_slice rfl (by omega) | exact at_int rfl (by simp))) ?_ ?_
      · exact ⟨Nat.zero_le _, rfl, (fun h => by cases h), own_nilN _ _ _ _, Ext.refl _⟩
      · rintro ⟨j, b, cs⟩ g w6 ⟨hj, hb, hcs, hoc, he6⟩
        have hk6 := hk5.ext he6
        have he06 := he5.trans he6
        have z6 := he06.le
        have hf6 := hf.ext he06
        refine J.seq ?_
        refine J.region ?_
        refine L.va rfl (X.lss rfl rfl) ?_
        refine L.nil ?_
        refine J.seq ?_
        refine J.dec rfl (fun hlt2 => ?_) (fun hlt2 => ?_)
        · have hjn : j < f.n := by omega
          have hA2 := hf6.r.some_ (by omega)
          obtain ⟨x, hx⟩ : ∃ x, x = f.l.getD j fi0 := ⟨_, rfl⟩
          have hX := hf6.one hjn
          have hgt := gtF (l := f.l) (i := j) (by omega)
          have hxm := K.m j hjn
          have hxk := K.k j
          have hnk := key_at (l := f.l) (i := j) (by omega)
          rw [← hx] at hX hgt hxm hxk hnk
          rw [← eky] at hnk
          have hxl := hX.len
          refine J.skip ?_
          refine J.seq ?_
          refine J.block ?_
          refine J.seq ?_
          refine J.region ?_
          refine L.va rfl ((by first | exact X.indexAddrn rfl rfl Try.underlying48 sz_76 (by first | exact Option.some_ne_none _ | exact hA2) (by omega) | exact X.indexAddr rfl rfl Try.underlying48 sz_76 (by first | exact Option.some_ne_none _ | exact hA2) (by omega))) ?_
          refine L.va rfl (X.loadRow (cs := x.vs) rfl hf6.r (fun r u hu => flat_row fi_len hgt r u hu) (Nat.zero_lt_succ _) Try.underlying76 rfl (by kernel_rfl)) ?_
          refine L.alloc rfl zr_76 ?_
          intro b7 w7 hb7 hs7 hk7 he7
          refine L.storeAgg (vs := [_, _]) rfl rfl rfl rfl sz_76 (hk7) rfl ?_
          intro w8 hk8 hg8 hs8
          have he68 : Ext w6 w8 := he7.grw hg8 (by intro g hg; injection hg with hg; omega)
          have hk8 : Blk w8 b7 76 x.vs.toArray := hk8
          have hX8 := hX.ext he68
          have hoc8 := hoc.ext he68
          have he58 := he6.trans he68
          have he08 := he06.trans he68
          refine L.nil ?_
          refine J.seq ?_
          refine J.seq ?_
          refine J.region ?_
          refine L.va rfl (X.fieldAddr rfl Try.underlying76 rfl sz_3 (by decide)) ?_
          refine L.va rfl (X.load rfl sc_3 (by first | exact Ld.blk hk1 rfl | exact Ld.blk hk8 rfl | exact hA2)) ?_
          refine L.va rfl (X.move (by conv => lhs; whnf)) ?_
          refine L.va rfl (X.neq rfl rfl) ?_
          refine L.nil ?_
          refine J.ndec rfl (fun hne => ?_) (fun hne => ?_)
          · skip
            refine J.exit ?_
            refine J.region ?_
            refine L.va rfl (X.add rfl rfl (by omega)) ?_
            refine L.va rfl (X.move (by conv => lhs; whnf)) ?_
            refine L.nil ?_
            refine ⟨(j + 1, b, cs), At3 (by first | rfl | exact at_int rfl (by omega) | exact at_slice rfl (by omega) | exact at_int rfl (by simp)) (by first | rfl | exact at_int rfl (by omega) | exact at_slice rfl (by omega) | exact at_int rfl (by simp)) (by first | rfl | exact at_int rfl (by omega) | exact at_slice rfl (by omega) | exact at_int rfl (by simp)), (by (iterate 10 refine Agr.lk rfl ?_); exact Agr.lk rfl (Agr.hav rfl Agr.rfl')), ?_⟩
            have e1 : decide (x.d = (i : Int)) = false := by simpa using hne
            refine ⟨⟨by omega, ?_, fun h => ?_, hoc8, he58⟩, by show f.n - (j + 1) < f.n - j; omega⟩
            · rw [hnk, Nrm.sm_next, e1, Bool.or_false]; exact hb
            · rw [hcs h, hnk]
              refine Nrm.sel_congr fun c _ _ => ?_
              rw [Nrm.kp_next, e1]
              simp
          · have hxd : x.d = (i : Int) := by simpa using hne
            have e1 : decide (x.d = (i : Int)) = true := by simpa using hxd
            have hsm : sm (ky.take (j + 1)) i = true := by rw [hnk, Nrm.sm_next, e1, Bool.or_true]
            have hrng : ∀ c, c ∈ x.l → 0 ≤ c ∧ c < (szN s i : Int) := by
              intro c hcx
              obtain ⟨q, hq, rfl⟩ := List.getElem_of_mem hcx
              have := hxk q hjn (by omega)
              rw [List.getD, List.getElem?_eq_getElem hq, hxd] at this
              rw [hn]
              exact this
            have c1 := fun (w' : World) (h : x.At w'.heap.size w') => plainI x.A x.n x.c x.l w' h.r (by omega)
            refine J.skip ?_
            refine J.seq ?_
            refine J.region ?_
            refine L.va rfl (X.move (by conv => lhs; whnf)) ?_
            refine L.nil ?_
            cases b
            · refine J.iteF rfl ?_
              refine J.region ?_
              refine L.va rfl (X.fieldAddr rfl Try.underlying76 rfl sz_74 (by decide)) ?_
              refine L.va rfl (X.load rfl sc_74 (by first | exact Ld.blk hk1 rfl | exact Ld.blk hk8 rfl | exact hA2)) ?_
              refine L.call rfl en_55 rfl ((c1 w8 (hX8.more he08.le))) ?_
              rintro e w9 ⟨cs2, rfl, ho9, he9, hu9, hm9⟩
              refine ⟨_, rfl, ?_⟩
              refine L.va rfl (X.assign (by conv => lhs; whnf)) ?_
              refine L.va rfl (X.assign (by conv => lhs; whnf)) ?_
              refine L.nil ?_
              refine J.region ?_
              refine L.va rfl (X.add rfl rfl (by omega)) ?_
              refine L.va rfl (X.move (by conv => lhs; whnf)) ?_
              refine L.nil ?_
              refine ⟨(j + 1, true, cs2), At3 (by first | rfl | exact at_int rfl (by omega) | exact at_slice rfl (by omega) | exact at_int rfl (by simp)) (by first | rfl | exact at_int rfl (by omega) | exact at_slice rfl (by omega) | exact at_int rfl (by simp)) (by first | rfl | exact at_int rfl (by omega) | exact at_slice rfl (by omega) | exact at_int rfl (by simp)), (by (iterate 16 refine Agr.lk rfl ?_); exact Agr.lk rfl (Agr.hav rfl Agr.rfl')), ?_⟩
              refine ⟨⟨by omega, hsm.symm, fun _ => ?_, own_lower ho9 he08.le, he58.trans he9⟩, by show f.n - (j + 1) < f.n - j; omega⟩
              refine eq_sel hu9 fun c => ?_
              rw [hm9, hnk, Nrm.kp_next, Nrm.kp_none hb.symm, e1]
              constructor
              · intro h; exact ⟨hrng c h, by simpa using h⟩
              · rintro ⟨_, h⟩; simpa using h
            · refine J.iteT rfl ?_
              refine J.region ?_
              refine L.va rfl (X.move (by conv => lhs; whnf)) ?_
              refine L.va rfl (X.fieldAddr rfl Try.underlying76 rfl sz_74 (by decide)) ?_
              refine L.va rfl (X.load rfl sc_74 (by first | exact Ld.blk hk1 rfl | exact Ld.blk hk8 rfl | exact hA2)) ?_
              refine L.call rfl en_55 rfl ((c1 w8 (hX8.more he08.le))) ?_
              rintro e w9 ⟨cs2, rfl, ho9, he9, hu9, hm9⟩
              refine ⟨_, rfl, ?_⟩
              have hoc9 := hoc8.ext he9
              have hcs' := hcs rfl
              have hcn : cs.n ≤ 5000 := by
                have h1 := (Cs.At.own hoc9).len
                have h2 := Nrm.sel_le (szN s i) (kp (ky.take j) i)
                rw [← hcs'] at h2
                have h1 : cs.l.length = cs.n := h1
                omega
              refine L.call rfl en_54 rfl (commonI cs cs2 w9 (.own hoc9) (.own ho9) (by rw [hcs']; exact up_sel _ _) hu9 hcn) ?_
              rintro e wa ⟨cs3, rfl, hoa, hea, hua, hma⟩
              refine ⟨_, rfl, ?_⟩
              refine L.va rfl (X.assign (by conv => lhs; whnf)) ?_
              refine L.nil ?_
              refine J.region ?_
              refine L.va rfl (X.add rfl rfl (by omega)) ?_
              refine L.va rfl (X.move (by conv => lhs; whnf)) ?_
              refine L.nil ?_
              have he0a := he08.trans he9
              refine ⟨(j + 1, true, cs3), At3 (by first | rfl | exact at_int rfl (by omega) | exact at_slice rfl (by omega) | exact at_int rfl (by simp)) (by first | rfl | exact at_int rfl (by omega) | exact at_slice rfl (by omega) | exact at_int rfl (by simp)) (by first | rfl | exact at_int rfl (by omega) | exact at_slice rfl (by omega) | exact at_int rfl (by simp)), (by (iterate 17 refine Agr.lk rfl ?_); exact Agr.lk rfl (Agr.hav rfl Agr.rfl')), ?_⟩
              refine ⟨⟨by omega, hsm.symm, fun _ => ?_, own_lower hoa he0a.le, (he58.trans he9).trans hea⟩, by show f.n - (j + 1) < f.n - j; omega⟩
              refine eq_sel hua fun c => ?_
              rw [hma, hcs', mem_sel, hm9, hnk, Nrm.kp_next, e1, Bool.and_eq_true]
              constructor
              · rintro ⟨⟨h1, h2⟩, h3⟩; exact ⟨h1, h2, by simpa using h3⟩
              · rintro ⟨h1, h2, h3⟩; exact ⟨⟨h1, h2⟩, by simpa using h3⟩
        · obtain rfl : j = f.n := by omega
          have hky : ky.take f.n = ky := List.take_of_length_le (by rw [eky, List.length_map]; omega)
          rw [hky] at hb hcs
          have hr6 := hr5.ext he6
          have hrl := hr6.l
          have hrn : r.n ≤ i := by
            have h1 := congrArg List.length hrk
            rw [List.length_map] at h1
            have h2 := Nrm.nrm_len ky (szs s i) 0
            rw [szs_len] at h2
            omega
          have hnx : nrm ky 0 (szs s (i + 1)) = nrm ky 0 (szs s i) ++ nf ky i (szN s i) := by
            rw [szs_next, Nrm.nrm_snoc, szs_len, Nat.zero_add]
          refine J.exit ?_
          refine J.seq ?_
          refine J.region ?_
          refine L.va rfl (X.move (by conv => lhs; whnf)) ?_
          refine L.va rfl (X.move (by conv => lhs; whnf)) ?_
          cases b
          · refine L.caseBF (k := 49) rfl (by rfl) ?_
            refine L.no rfl ?_
            refine L.no rfl ?_
            refine L.no rfl ?_
            refine L.no rfl ?_
            refine L.no rfl ?_
            refine L.va rfl (X.pickF rfl (by conv => lhs; whnf)) ?_
            refine L.nil ?_
            refine J.iteF rfl ?_
            refine J.skip ?_
            refine J.region ?_
            refine L.va rfl (X.add rfl rfl (by omega)) ?_
            refine L.va rfl (X.move (by conv => lhs; whnf)) ?_
            refine L.nil ?_
            refine ⟨(i + 1, r), At2 (by first | rfl | exact at_int rfl (by omega) | exact at_slice rfl (by omega) | exact at_int rfl (by simp)) (by first | rfl | exact at_int rfl (by omega) | exact at_slice rfl (by omega) | exact at_int rfl (by simp)), (by (iterate 12 refine Agr.lk rfl ?_); refine Agr.lk rfl ?_; refine Agr.hav rfl ?_; (iterate 11 refine Agr.lk rfl ?_); exact Agr.lk rfl (Agr.hav rfl Agr.rfl')), ?_⟩
            refine ⟨⟨by omega, hr6, ?_, he06⟩, by show s.nd - (i + 1) < s.nd - i; omega⟩
            rw [hnx, Nrm.nf_none hb.symm, List.append_nil]
            exact hrk
          · have hcs' := hcs rfl
            have hcl : cs.l.length = cs.n := (Cs.At.own hoc).len
            refine L.caseBT (k := 49) rfl (by rfl) ?_
            refine L.va rfl (X.move (by conv => lhs; whnf)) ?_
            refine L.va rfl (X.len rfl Try.underlying74) ?_
            refine L.va rfl (X.fieldAddr rfl Try.underlying78 rfl sz_3 (by decide)) ?_
            refine L.va rfl (X.load rfl sc_3 (by first | exact Ld.blk hk1 rfl | exact Ld.blk hk6 rfl | exact hA)) ?_
            refine L.va rfl (X.lss rfl rfl) ?_
            refine L.va rfl (X.pickT rfl (by conv => lhs; whnf)) ?_
            refine L.nil ?_
            refine J.dec rfl (fun hlt3 => ?_) (fun hlt3 => ?_)
            · refine J.region ?_
              refine L.va rfl (X.move (by conv => lhs; whnf)) ?_
              refine L.va rfl (X.move (by conv => lhs; whnf)) ?_
              refine L.va rfl (X.move (by conv => lhs; whnf)) ?_
              refine L.va rfl (X.build (l := [_, _]) (Evs.cons (by conv => lhs; whnf) (Evs.cons (by conv => lhs; whnf) Evs.nil)) (bld_run Try.underlying76 (bp_76 Try.underlying76) zr_76 rfl)) ?_
              refine L.bslice1 (l := [_, _]) rfl rfl rfl Try.underlying48 sz_76 zr_76 rfl ?_
              intro b8 w8 hb8 hs8 hk8 he8
              have hoX := hr6.o.ext he8
              refine L.appendV (q := r.n + 1) (ys := ((r.l ++ [Fi.mk i cs.A cs.n cs.c cs.l]).flatMap Fi.vs)) rfl rfl rfl Try.underlying48 el_76 (hoX) ((blk_readsN (sz := 2) (q := 1) (l := (Fi.mk i cs.A cs.n cs.c cs.l).vs) hk8 hk8.lt rfl)) (by first | rfl | exact strs_ones _ | assumption) (by omega) (by simp) (by unfold maxLen; omega) (by omega) ?_
              intro A9 c9 w9 ho9 hg9 hb9 hor9
              refine L.va rfl (X.assign (by conv => lhs; whnf)) ?_
              refine L.nil ?_
              refine J.region ?_
              refine L.va rfl (X.add rfl rfl (by omega)) ?_
              refine L.va rfl (X.move (by conv => lhs; whnf)) ?_
              refine L.nil ?_
              refine ⟨(i + 1, ⟨A9, r.n + 1, c9, r.l ++ [Fi.mk i cs.A cs.n cs.c cs.l]⟩), At2 (by first | rfl | exact at_int rfl (by omega) | exact at_slice rfl (by omega) | exact at_int rfl (by simp)) (by first | rfl | exact at_int rfl (by omega) | exact at_slice rfl (by omega) | exact at_int rfl (by simp)), (by (iterate 19 refine Agr.lk rfl ?_); refine Agr.lk rfl ?_; refine Agr.hav rfl ?_; (iterate 11 refine Agr.lk rfl ?_); exact Agr.lk rfl (Agr.hav rfl Agr.rfl')), ?_⟩
              have he08 := he06.trans he8
              refine ⟨⟨by omega, ⟨ho9, fun y hy => ?_, by show (r.l ++ [_]).length = r.n + 1; rw [List.length_append, hrl]; rfl⟩, ?_, he08.low hb9 (Nat.le_refl _)⟩, by show s.nd - (i + 1) < s.nd - i; omega⟩
              · rcases List.mem_append.1 hy with hy | hy
                · exact World.ownsRow.kept (World.ownsRow.ext (hr6.h y hy) he8) hg9 (own_or (World.ownsRow.ext (hr6.h y hy) he8) hoX (by decide))
                · rw [List.mem_singleton] at hy
                  subst hy
                  exact (hoc.ext he8).kept hg9 (own_or (hoc.ext he8) hoX (by decide))
              · show (r.l ++ [Fi.mk i cs.A cs.n cs.c cs.l]).map Fi.key = _
                rw [List.map_append, hrk, hnx]
                congr 1
                unfold nf
                rw [← hcs', if_pos (by omega)]
                rfl
            · skip
              refine J.skip ?_
              refine J.region ?_
              refine L.va rfl (X.add rfl rfl (by omega)) ?_
              refine L.va rfl (X.move (by conv => lhs; whnf)) ?_
              refine L.nil ?_
              refine ⟨(i + 1, r), At2 (by first | rfl | exact at_int rfl (by omega) | exact at_slice rfl (by omega) | exact at_int rfl (by simp)) (by first | rfl | exact at_int rfl (by omega) | exact at_slice rfl (by omega) | exact at_int rfl (by simp)), (by (iterate 12 refine Agr.lk rfl ?_); refine Agr.lk rfl ?_; refine Agr.hav rfl ?_; (iterate 11 refine Agr.lk rfl ?_); exact Agr.lk rfl (Agr.hav rfl Agr.rfl')), ?_⟩
              refine ⟨⟨by omega, hr6, ?_, he06⟩, by show s.nd - (i + 1) < s.nd - i; omega⟩
              rw [hnx]
              unfold nf
              rw [← hcs', if_neg (by omega), List.append_nil]
              exact hrk
    · obtain rfl : i = s.nd := by omega
      refine J.exit ?_
      refine J.seq ?_
      refine J.region ?_
      refine L.va rfl (X.move (by conv => lhs; whnf)) ?_
      refine L.va rfl (X.assign (by conv => lhs; whnf)) ?_
      refine L.va rfl (X.assign (by conv => lhs; whnf)) ?_
      refine L.nil ?_
      refine J.ret ?_
      refine fin2 ?_
      rw [eky] at hrk
      exact ⟨r, rfl, hr, hrk, he3⟩
end Go.Proofs.Ytpomklkfedpkfaa
namespace Go.Proofs.Ytpomklkfedpkfaa
set_option maxRecDepth 100000
open Go.RowKit H
open Nrm (pk pk_iff)
set_option linter.unusedVariables false
def p1 (x : Fi) (cs : List Int) : Bool := decide (0 ≤ x.d ∧ x.d < cs.length) && x.l.contains (cs.getD x.d.toNat 0)
theorem pk_next (l : Nrm.Ks) (f : Int × List Int) (cs : List Int) : pk (l ++ [f]) cs = (pk l cs && (decide (0 ≤ f.1 ∧ f.1 < cs.length) && f.2.contains (cs.getD f.1.toNat 0))) := by
  unfold pk
  simp
theorem pk_bad {l : List Fi} {cs : List Int} {i : Nat} (hi : i < l.length) (h : p1 (l.getD i fi0) cs = false) : pk (l.map Fi.key) cs = false := by
  unfold pk
  rw [List.all_eq_false]
  refine ⟨(l.getD i fi0).key, List.mem_map.2 ⟨_, memF hi, rfl⟩, ?_⟩
  unfold p1 at h
  show ¬ (decide (0 ≤ (l.getD i fi0).d ∧ (l.getD i fi0).d < cs.length) && (l.getD i fi0).l.contains (cs.getD (l.getD i fi0).d.toNat 0)) = true
  rw [h]
  decide
theorem p1_lo {x : Fi} {cs : List Int} (h : x.d < 0) : p1 x cs = false := by unfold p1; rw [decide_eq_false (by omega)]; rfl
theorem p1_hi {x : Fi} {cs : List Int} (h : (cs.length : Int) ≤ x.d) : p1 x cs = false := by unfold p1; rw [decide_eq_false (by omega)]; rfl
theorem p1_in {x : Fi} {cs : List Int} (h : 0 ≤ x.d) (hd : x.d < (cs.length : Int)) : p1 x cs = x.l.contains (cs.getD x.d.toNat 0) := by
  unfold p1
  rw [decide_eq_true ⟨h, hd⟩]
  rfl
theorem pass_ {f : Fis} {A : Option Addr} {n c : Nat} {cs : List Int} {w : World} (hf : f.At w.heap.size w) (hr : Reads w w.heap.size 1 A n (nums .i64 cs)) (hn : n ≤ maxLen) : Calls Try.prog 40 #[f.val, .slice A n c] w fun e w' => e = .returned (.bool (pk (f.l.map Fi.key) cs)) ∧ Ext w w' := by
  have hl := hf.l
  have hm := hf.m
  have hcl : cs.length = n := by have := hr.1; simpa [nums] using this
  unfold maxLen at hn hm
  refine enter Try.func40 rfl (by kernel_rfl) ?_
  refine J.seq ?_
  refine J.region ?_
  refine L.va rfl (X.assign (by conv => lhs; whnf)) ?_
  refine L.nil ?_
  refine J.seq ?_
  refine J.seq ?_
  refine J.region ?_
  refine L.va rfl (X.move (by conv => lhs; whnf)) ?_
  refine L.va rfl (X.len rfl Try.underlying48) ?_
  refine L.va rfl (X.move (by conv => lhs; whnf)) ?_
  refine L.nil ?_
  refine J.block ?_
  refine J.loop (X := Nat) [4, 6, 9, 10, 11, 12, 13, 14, 15, 16, 17, 18, 19, 20, 21, 22, 23, 24, 25, 26, 27, 28, 29, 30, 31, 32, 33, 34] (fun i => [(9, .int .i64 (i : Int))]) (fun i w' => i ≤ f.n ∧ pk ((f.l.map Fi.key).take i) cs = true ∧ Ext w w') (fun i => f.n - i) (0) (At1 (by first | rfl | exact at_int rfl (by omega) | exact at_slice rfl (by omega) | exact at_int rfl (by simp))) ?_ ?_
  · exact ⟨Nat.zero_le _, rfl, Ext.refl _⟩
  · rintro i g w3 ⟨hi, hP, he3⟩
    have z3 := he3.le
    have hf3 := hf.ext he3
    refine J.seq ?_
    refine J.region ?_
    refine L.va rfl (X.lss rfl rfl) ?_
    refine L.nil ?_
    refine J.seq ?_
    refine J.dec rfl (fun hlt => ?_) (fun hlt => ?_)
    · have hin : i < f.n := by omega
      have hA := hf3.r.some_ (by omega)
      have hnk := key_at (l := f.l) (i := i) (by omega)
      have hbad := pk_bad (l := f.l) (cs := cs) (i := i) (by omega)
      obtain ⟨x, hx⟩ : ∃ x, x = f.l.getD i fi0 := ⟨_, rfl⟩
      have hX := hf3.one hin
      have hgt := gtF (l := f.l) (i := i) (by omega)
      rw [← hx] at hX hgt hnk hbad
      refine J.skip ?_
      refine J.seq ?_
      refine J.block ?_
      refine J.seq ?_
      refine J.region ?_
      refine L.va rfl ((by first | exact X.indexAddrn rfl rfl Try.underlying48 sz_76 (by first | exact Option.some_ne_none _ | exact hA) (by omega) | exact X.indexAddr rfl rfl Try.underlying48 sz_76 (by first | exact Option.some_ne_none _ | exact hA) (by omega))) ?_
      refine L.va rfl (X.loadRow (cs := x.vs) rfl hf3.r (fun r u hu => flat_row fi_len hgt r u hu) (Nat.zero_lt_succ _) Try.underlying76 rfl (by kernel_rfl)) ?_
      refine L.alloc rfl zr_76 ?_
      intro b4 w4 hb4 hs4 hk4 he4
      refine L.storeAgg (vs := [_, _]) rfl rfl rfl rfl sz_76 (hk4) rfl ?_
      intro w5 hk5 hg5 hs5
      have he35 : Ext w3 w5 := he4.grw hg5 (by intro g hg; injection hg with hg; omega)
      have hk5 : Blk w5 b4 76 x.vs.toArray := hk5
      have he5 := he3.trans he35
      have z5 := he5.le
      have hX5 := hX.ext he35
      have hr5 := hr.ext he5
      have hxm := hX.m
      refine L.nil ?_
      refine J.seq ?_
      refine J.quiet mixed (by kernel_rfl) ?_
      refine Qt.va rfl (fun w' hw => X.fieldAddr rfl Try.underlying76 rfl sz_3 (by decide)) ?_
      refine Qt.va rfl (fun w' hw => X.load rfl sc_3 (by first | exact Ld.blk (hk5.ext hw) rfl | exact Ld.num (hr5.ext hw) (by omega) | exact hA)) ?_
      refine Qt.va rfl (fun w' hw => X.lss rfl rfl) ?_
      refine Qt.va rfl (fun w' hw => X.move (by conv => lhs; whnf)) ?_
      refine Qt.caseDec (k := 16) rfl (fun h1 => ?_) (fun h1 => ?_)
      · refine Qt.no rfl ?_
        refine Qt.no rfl ?_
        refine Qt.no rfl ?_
        refine Qt.no rfl ?_
        refine Qt.no rfl ?_
        refine Qt.va rfl (fun w' hw => X.pickT rfl (by conv => lhs; whnf)) ?_
        refine Qt.va rfl (fun w' hw => X.move (by conv => lhs; whnf)) ?_
        refine Qt.no rfl ?_
        refine Qt.no rfl ?_
        refine Qt.no rfl ?_
        refine Qt.no rfl ?_
        refine Qt.no rfl ?_
        refine Qt.no rfl ?_
        refine Qt.no rfl ?_
        refine Qt.no rfl ?_
        refine Qt.no rfl ?_
        refine Qt.va rfl (fun w' hw => X.pickT rfl (by conv => lhs; whnf)) ?_
        refine Qt.nil (fun w6 hq => ?_)
        replace hk5 := hk5.ext hq
        replace hr5 := hr5.ext hq
        refine J.iteT rfl ?_
        rw [hbad (p1_lo h1)]
        refine J.seq ?_
        refine J.region ?_
        refine L.va rfl (X.assign (by conv => lhs; whnf)) ?_
        refine L.nil ?_
        refine J.ret ?_
        refine inB_ret <|  thn_ret <|  thn_ret <|  inB_ret <|  thn_ret <| ?_
        refine fin1 ?_
        exact ⟨rfl, he5.trans hq⟩
      · refine Qt.va rfl (fun w' hw => X.fieldAddr rfl Try.underlying76 rfl sz_3 (by decide)) ?_
        refine Qt.va rfl (fun w' hw => X.load rfl sc_3 (by first | exact Ld.blk (hk5.ext hw) rfl | exact Ld.num (hr5.ext hw) (by omega) | exact hA)) ?_
        refine Qt.va rfl (fun w' hw => X.move (by conv => lhs; whnf)) ?_
        refine Qt.va rfl (fun w' hw => X.len rfl Try.underlying74) ?_
        refine Qt.va rfl (fun w' hw => X.geq rfl rfl) ?_
        refine Qt.va rfl (fun w' hw => X.pickF rfl (by conv => lhs; whnf)) ?_
        refine Qt.va rfl (fun w' hw => X.move (by conv => lhs; whnf)) ?_
        refine Qt.caseDec (k := 23) rfl (fun h2 => ?_) (fun h2 => ?_)
        · refine Qt.no rfl ?_
          refine Qt.no rfl ?_
          refine Qt.no rfl ?_
          refine Qt.no rfl ?_
          refine Qt.no rfl ?_
          refine Qt.no rfl ?_
          refine Qt.no rfl ?_
          refine Qt.no rfl ?_
          refine Qt.no rfl ?_
          refine Qt.va rfl (fun w' hw => X.pickT rfl (by conv => lhs; whnf)) ?_
          refine Qt.nil (fun w6 hq => ?_)
          replace hk5 := hk5.ext hq
          replace hr5 := hr5.ext hq
          refine J.iteT rfl ?_
          rw [hbad (p1_hi (by omega))]
          refine J.seq ?_
          refine J.region ?_
          refine L.va rfl (X.assign (by conv => lhs; whnf)) ?_
          refine L.nil ?_
          refine J.ret ?_
          refine inB_ret <|  thn_ret <|  thn_ret <|  inB_ret <|  thn_ret <| ?_
          refine fin1 ?_
          exact ⟨rfl, he5.trans hq⟩
        · have hd : 0 ≤ x.d ∧ x.d < (cs.length : Int) := by omega
          have hA2 := hr.some_ (by omega)
          refine Qt.va rfl (fun w' hw => X.fieldAddr rfl Try.underlying76 rfl sz_74 (by decide)) ?_
          refine Qt.va rfl (fun w' hw => X.load rfl sc_74 (by first | exact Ld.blk (hk5.ext hw) rfl | exact Ld.num (hr5.ext hw) (by omega) | exact hA2)) ?_
          refine Qt.va rfl (fun w' hw => X.move (by conv => lhs; whnf)) ?_
          refine Qt.va rfl (fun w' hw => X.fieldAddr rfl Try.underlying76 rfl sz_3 (by decide)) ?_
          refine Qt.va rfl (fun w' hw => X.load rfl sc_3 (by first | exact Ld.blk (hk5.ext hw) rfl | exact Ld.num (hr5.ext hw) (by omega) | exact hA2)) ?_
          refine Qt.va rfl (fun w' hw => (by first | exact X.index1n rfl rfl Try.underlying74 sz_3 (by first | exact Option.some_ne_none _ | exact hr5.some_ (by omega) | exact hA2) (by omega) | exact X.index1 rfl rfl Try.underlying74 sz_3 (by first | exact Option.some_ne_none _ | exact hr5.some_ (by omega) | exact hA2) (by omega))) ?_
          refine Qt.va rfl (fun w' hw => X.load rfl sc_3 (by first | exact Ld.blk (hk5.ext hw) rfl | exact Ld.num (hr5.ext hw) (by omega) | exact hA2)) ?_
          refine Qt.call rfl en_60 rfl (fun w' hw => calls_same hw (containsI x.A x.n x.c x.l (cs.getD x.d.toNat 0) w' (((hX5.ext hw).r.more (by have := hw.le; omega))) hxm)) ?_
          refine Qt.va rfl (fun w' hw => X.not rfl) ?_
          refine Qt.va rfl (fun w' hw => X.pickF rfl (by conv => lhs; whnf)) ?_
          refine Qt.nil (fun w6 hq => ?_)
          replace hk5 := hk5.ext hq
          replace hr5 := hr5.ext hq
          rw [p1_in hd.1 hd.2] at hbad
          cases hc : x.l.contains (cs.getD x.d.toNat 0)
          · refine J.iteT rfl ?_
            rw [hbad hc]
            refine J.seq ?_
            refine J.region ?_
            refine L.va rfl (X.assign (by conv => lhs; whnf)) ?_
            refine L.nil ?_
            refine J.ret ?_
            refine inB_ret <|  thn_ret <|  thn_ret <|  inB_ret <|  thn_ret <| ?_
            refine fin1 ?_
            exact ⟨rfl, he5.trans hq⟩
          · refine J.iteF rfl ?_
            refine J.skip ?_
            refine J.region ?_
            refine L.va rfl (X.add rfl rfl (by omega)) ?_
            refine L.va rfl (X.move (by conv => lhs; whnf)) ?_
            refine L.nil ?_
            refine ⟨i + 1, At1 (by first | rfl | exact at_int rfl (by omega) | exact at_slice rfl (by omega) | exact at_int rfl (by simp)), (by (iterate 29 refine Agr.lk rfl ?_); exact Agr.lk rfl (Agr.hav rfl Agr.rfl')), ?_⟩
            refine ⟨⟨by omega, ?_, he5.trans hq⟩, by omega⟩
            rw [hnk, pk_next, hP, Bool.true_and]
            show p1 x cs = true
            rw [p1_in hd.1 hd.2, hc]
    · obtain rfl : i = f.n := by omega
      rw [List.take_of_length_le (by rw [List.length_map]; omega)] at hP
      rw [hP]
      refine J.exit ?_
      refine J.seq ?_
      refine J.region ?_
      refine L.va rfl (X.assign (by conv => lhs; whnf)) ?_
      refine L.nil ?_
      refine J.ret ?_
      refine fin1 ?_
      exact ⟨rfl, he3⟩
end Go.Proofs.Ytpomklkfedpkfaa
namespace Go.Proofs.Ytpomklkfedpkfaa
set_option maxRecDepth 100000
open Go.RowKit H
set_option linter.unusedVariables false
def colOk (s : Sch) (x : Int × Int) : Prop := (x.1 = 0 ∧ x.2 = 0) ∨ (1 ≤ x.1 ∧ x.1 ≤ 4 ∧ 0 ≤ x.2 ∧ x.2 < (s.n1 : Int) + s.n2) ∨ (5 ≤ x.1 ∧ x.1 ≤ 6 ∧ 0 ≤ x.2 ∧ x.2 < (s.n1 : Int))
instance (s : Sch) (x : Int × Int) : Decidable (colOk s x) := by unfold colOk; infer_instance
abbrev cV (x : Int × Int) : List Value := [.int .i64 x.1, .int .i64 x.2]
end Go.Proofs.Ytpomklkfedpkfaa
namespace Go.Proofs.Ytpomklkfedpkfaa
set_option maxRecDepth 100000
open Go.RowKit H
set_option linter.unusedVariables false
abbrev oV (x : Int × Bool) : List Value := [.int .i64 x.1, .bool x.2]
structure Qu where
  (g : Nat) (f : Fis) (Ac : Option Addr) (nc cc : Nat) (c : List (Int × Int)) (Ao : Option Addr) (no co : Nat) (o : List (Int × Bool)) (m : Int)
namespace Qu
abbrev vs (q : Qu) : List Value := [.int .u32 (q.g : Int), q.f.val, .slice q.Ac q.nc q.cc, .slice q.Ao q.no q.co, .int .i64 q.m]
abbrev val (q : Qu) : Value := .agg q.vs.toArray
structure At (q : Qu) (N : Nat) (w : World) : Prop where
  g : q.g < 4294967296
  f : q.f.At N w
  c : Reads w N 2 q.Ac q.nc (q.c.flatMap cV)
  lc : q.c.length = q.nc
  mc : q.nc ≤ maxLen
  o : Reads w N 2 q.Ao q.no (q.o.flatMap oV)
  lo : q.o.length = q.no
  mo : q.no ≤ maxLen
theorem At.ext {q : Qu} {N : Nat} {w w' : World} (h : q.At N w) (he : Ext w w') : q.At N w' := ⟨h.g, h.f.ext he, h.c.ext he, h.lc, h.mc, h.o.ext he, h.lo, h.mo⟩
theorem At.low {q : Qu} {N B : Nat} {w w' : World} (h : q.At N w) (he : Below B w w') (hB : N ≤ B) : q.At N w' := ⟨h.g, h.f.low he hB, h.c.low he hB, h.lc, h.mc, h.o.low he hB, h.lo, h.mo⟩
theorem At.more {q : Qu} {N N' : Nat} {w : World} (h : q.At N w) (hN : N ≤ N') : q.At N' w := ⟨h.g, h.f.more hN, h.c.more hN, h.lc, h.mc, h.o.more hN, h.lo, h.mo⟩
end Qu
section
variable {s : Sch} {q : Qu}
end
end Go.Proofs.Ytpomklkfedpkfaa
namespace Go.Proofs.Ytpomklkfedpkfaa
open Go.RowKit
def fbit (f : Fi) : Nat := if 0 ≤ f.d ∧ f.d < 32 then 2 ^ f.d.toNat else 0
def fneed : List Fi → Nat
  | [] => 0
  | f :: t => fbit f ||| fneed t
theorem fneed_snoc (l : List Fi) (f : Fi) : fneed (l ++ [f]) = fneed l ||| fbit f := by
  induction l with
  | nil => simp [fneed]
  | cons x t ih => simp only [List.cons_append, fneed, ih, Nat.or_assoc]
theorem fneed_take {l : List Fi} {i : Nat} (h : i < l.length) : fneed (l.take (i + 1)) = fneed (l.take i) ||| fbit (l.getD i fi0) := by
  rw [List.take_succ_eq_append_getElem h, fneed_snoc, List.getD, List.getElem?_eq_getElem h]; rfl
theorem fbit_lt (f : Fi) : fbit f < 4294967296 := by
  unfold fbit
  split
  · rename_i h
    have : f.d.toNat < 32 := by omega
    exact Nat.lt_of_lt_of_le (Nat.pow_lt_pow_right (by decide) this) (by decide)
  · decide
theorem fneed_lt : ∀ l, fneed l < 4294967296
  | [] => by decide
  | f :: t => by
    have h1 := fbit_lt f
    have h2 := fneed_lt t
    exact Nat.or_lt_two_pow (n := 32) h1 h2
theorem two_pow_lt {d : Nat} (h : d < 32) : 2 ^ d < 4294967296 := Nat.lt_of_lt_of_le (Nat.pow_lt_pow_right (by decide) h) (by decide)
end Go.Proofs.Ytpomklkfedpkfaa
namespace Go.Proofs.Ytpomklkfedpkfaa
set_option maxRecDepth 100000
open Go.RowKit H
set_option linter.unusedVariables false
namespace H
section
variable {P : Program} {w : World} {ρ : Operand → Value} {d : Option Tmp} {tx tz ty : TypeId} {x y : Operand} {pos : String} {aft : Array Edge} {g : Option (Nat × Bool)} {k ky : IntKind} {m n z : Int}
theorem X.orE (hx : ρ x = .int k m) (hy : ρ y = .int k n) (h : bits .or k m n = z) : (execOp ρ ⟨d, .binOp .or tx x y tz, ty, pos, aft, g⟩).run P w = .ok (.value (.int k z)) w := by rw [← h]; exact X.or hx hy
theorem X.shlE (hx : ρ x = .int k m) (hy : ρ y = .int ky n) (h0 : 0 ≤ n) (h : k.wrap (m * 2 ^ min n.toNat k.bits) = z) : (execOp ρ ⟨d, .binOp .shl tx x y tz, ty, pos, aft, g⟩).run P w = .ok (.value (.int k z)) w := by rw [← h]; exact X.shl hx hy h0
end
end H
theorem shl32 {n : Int} (h0 : 0 ≤ n) (h : n < 32) : IntKind.u32.wrap (1 * 2 ^ min n.toNat IntKind.u32.bits) = ((2 ^ n.toNat : Nat) : Int) := by
  have hp := two_pow_lt (d := n.toNat) (by omega)
  have e : min n.toNat IntKind.u32.bits = n.toNat := Nat.min_eq_left (by show n.toNat ≤ 32; omega)
  rw [e, Int.one_mul, show (2 : Int) ^ n.toNat = ((2 ^ n.toNat : Nat) : Int) by simp]
  generalize 2 ^ n.toNat = q at hp ⊢
  rw [w32 (by omega)]
theorem fneed_ (f : Fis) (w : World) (hf : f.At w.heap.size w) : Calls Try.prog 38 #[f.val] w fun e w' => e = .returned (.int .u32 ((fneed f.l : Nat) : Int)) ∧ Ext w w' := by
  have hl := hf.l
  have hm := hf.m
  unfold maxLen at hm
  refine enter Try.func38 rfl (by kernel_rfl) ?_
  refine J.seq ?_
  refine J.region ?_
  refine L.va rfl (X.assign (by conv => lhs; whnf)) ?_
  refine L.nil ?_
  refine J.seq ?_
  refine J.region ?_
  refine L.va rfl (X.assign (by conv => lhs; whnf)) ?_
  refine L.nil ?_
  refine J.seq ?_
  refine J.seq ?_
  refine J.region ?_
  refine L.va rfl (X.move (by conv => lhs; whnf)) ?_
  refine L.va rfl (X.len rfl Try.underlying48) ?_
  refine L.va rfl (X.move (by conv => lhs; whnf)) ?_
  refine L.nil ?_
  refine J.block ?_
  refine J.loop (X := Nat) [3, 5, 8, 9, 10, 11, 12, 13, 14, 15, 16, 17, 18, 19, 20, 21, 22, 23, 24, 25] (fun i => [(8, .int .i64 (i : Int)), (3, .int .u32 ((fneed (f.l.take i) : Nat) : Int))]) (fun i w' => i ≤ f.n ∧ Ext w w') (fun i => f.n - i) (0) (At2 (by first | rfl | exact at_int rfl (by omega) | exact at_slice rfl (by omega) | exact at_int rfl (by simp)) (by first | rfl | exact at_int rfl (by omega) | exact at_slice rfl (by omega) | exact at_int rfl (by simp))) ?_ ?_
  · exact ⟨Nat.zero_le _, Ext.refl _⟩
  · rintro i g w1 ⟨hi, he1⟩
    have z1 := he1.le
    have hf1 := hf.ext he1
    refine J.seq ?_
    refine J.region ?_
    refine L.va rfl (X.lss rfl rfl) ?_
    refine L.nil ?_
    refine J.seq ?_
    refine J.dec rfl (fun hlt => ?_) (fun hlt => ?_)
    · have hin : i < f.n := by omega
      have hA := hf1.r.some_ (by omega)
      obtain ⟨x, hx⟩ : ∃ x, x = f.l.getD i fi0 := ⟨_, rfl⟩
      have hgt := gtF (l := f.l) (i := i) (by omega)
      have hnx := fneed_take (l := f.l) (i := i) (by omega)
      rw [← hx] at hgt hnx
      refine J.skip ?_
      refine J.seq ?_
      refine J.block ?_
      refine J.seq ?_
      refine J.region ?_
      refine L.va rfl ((by first | exact X.indexAddrn rfl rfl Try.underlying48 sz_76 (by first | exact Option.some_ne_none _ | exact hA) (by omega) | exact X.indexAddr rfl rfl Try.underlying48 sz_76 (by first | exact Option.some_ne_none _ | exact hA) (by omega))) ?_
      refine L.va rfl (X.loadRow (cs := x.vs) rfl hf1.r (fun r u hu => flat_row fi_len hgt r u hu) (Nat.zero_lt_succ _) Try.underlying76 rfl (by kernel_rfl)) ?_
      refine L.alloc rfl zr_76 ?_
      intro b4 w4 hb4 hs4 hk4 he4
      refine L.storeAgg (vs := [_, _]) rfl rfl rfl rfl sz_76 (hk4) rfl ?_
      intro w5 hk5 hg5 hs5
      have he15 : Ext w1 w5 := he4.grw hg5 (by intro g hg; injection hg with hg; omega)
      have hk5 : Blk w5 b4 76 x.vs.toArray := hk5
      refine L.nil ?_
      refine J.seq ?_
      refine J.region ?_
      refine L.va rfl (X.fieldAddr rfl Try.underlying76 rfl sz_3 (by decide)) ?_
      refine L.va rfl (X.load rfl sc_3 (by first | exact Ld.blk hk5 rfl | exact hA)) ?_
      refine L.va rfl (X.geq rfl rfl) ?_
      refine L.va rfl (X.move (by conv => lhs; whnf)) ?_
      refine L.caseDec (k := 15) rfl (fun h1 => ?_) (fun h1 => ?_)
      · refine L.va rfl (X.fieldAddr rfl Try.underlying76 rfl sz_3 (by decide)) ?_
        refine L.va rfl (X.load rfl sc_3 (by first | exact Ld.blk hk5 rfl | exact hA)) ?_
        refine L.va rfl (X.lss rfl rfl) ?_
        refine L.va rfl (X.pickT rfl (by conv => lhs; whnf)) ?_
        refine L.nil ?_
        refine J.dec rfl (fun h2 => ?_) (fun h2 => ?_)
        · have e : bits .or .u32 ((fneed (f.l.take i) : Nat) : Int) ((2 ^ x.d.toNat : Nat) : Int) = ((fneed (f.l.take (i + 1)) : Nat) : Int) := by
            rw [u32_or_nat _ _ (fneed_lt _) (two_pow_lt (by omega)), hnx]; unfold fbit; rw [if_pos ⟨h1, h2⟩]
          refine J.region ?_
          refine L.va rfl (X.move (by conv => lhs; whnf)) ?_
          refine L.va rfl (X.fieldAddr rfl Try.underlying76 rfl sz_3 (by decide)) ?_
          refine L.va rfl (X.load rfl sc_3 (by first | exact Ld.blk hk5 rfl | exact hA)) ?_
          refine L.va rfl (X.shlE rfl rfl h1 (shl32 h1 h2)) ?_
          refine L.va rfl (X.orE rfl rfl e) ?_
          refine L.va rfl (X.assign (by conv => lhs; whnf)) ?_
          refine L.nil ?_
          refine J.region ?_
          refine L.va rfl (X.add rfl rfl (by omega)) ?_
          refine L.va rfl (X.move (by conv => lhs; whnf)) ?_
          refine L.nil ?_
          refine ⟨i + 1, At2 (by first | rfl | exact at_int rfl (by omega) | exact at_slice rfl (by omega) | exact at_int rfl (by simp)) (by first | rfl | exact at_int rfl (by omega) | exact at_slice rfl (by omega) | exact at_int rfl (by simp)), (by (iterate 21 refine Agr.lk rfl ?_); exact Agr.lk rfl (Agr.hav rfl Agr.rfl')), ?_⟩
          exact ⟨⟨by omega, he1.trans he15⟩, by omega⟩
        · have e : fneed (f.l.take i) = fneed (f.l.take (i + 1)) := by rw [hnx]; unfold fbit; rw [if_neg (fun h => h2 h.2), Nat.or_zero]
          refine J.skip ?_
          refine J.region ?_
          refine L.va rfl (X.add rfl rfl (by omega)) ?_
          refine L.va rfl (X.move (by conv => lhs; whnf)) ?_
          refine L.nil ?_
          rw [e]
          refine ⟨i + 1, At2 (by first | rfl | exact at_int rfl (by omega) | exact at_slice rfl (by omega) | exact at_int rfl (by simp)) (by first | rfl | exact at_int rfl (by omega) | exact at_slice rfl (by omega) | exact at_int rfl (by simp)), (by (iterate 15 refine Agr.lk rfl ?_); exact Agr.lk rfl (Agr.hav rfl Agr.rfl')), ?_⟩
          exact ⟨⟨by omega, he1.trans he15⟩, by omega⟩
      · have e : fneed (f.l.take i) = fneed (f.l.take (i + 1)) := by rw [hnx]; unfold fbit; rw [if_neg (fun h => h1 h.1), Nat.or_zero]
        refine L.no rfl ?_
        refine L.no rfl ?_
        refine L.no rfl ?_
        refine L.va rfl (X.pickF rfl (by conv => lhs; whnf)) ?_
        refine L.nil ?_
        refine J.iteF rfl ?_
        refine J.skip ?_
        refine J.region ?_
        refine L.va rfl (X.add rfl rfl (by omega)) ?_
        refine L.va rfl (X.move (by conv => lhs; whnf)) ?_
        refine L.nil ?_
        rw [e]
        refine ⟨i + 1, At2 (by first | rfl | exact at_int rfl (by omega) | exact at_slice rfl (by omega) | exact at_int rfl (by simp)) (by first | rfl | exact at_int rfl (by omega) | exact at_slice rfl (by omega) | exact at_int rfl (by simp)), (by (iterate 15 refine Agr.lk rfl ?_); exact Agr.lk rfl (Agr.hav rfl Agr.rfl')), ?_⟩
        exact ⟨⟨by omega, he1.trans he15⟩, by omega⟩
    · obtain rfl : i = f.n := by omega
      rw [List.take_of_length_le (by omega)]
      refine J.exit ?_
      refine J.seq ?_
      refine J.region ?_
      refine L.va rfl (X.move (by conv => lhs; whnf)) ?_
      refine L.va rfl (X.assign (by conv => lhs; whnf)) ?_
      refine L.nil ?_
      refine J.ret ?_
      refine fin1 ?_
      exact ⟨rfl, he1⟩
end Go.Proofs.Ytpomklkfedpkfaa
namespace Go.Proofs.Ytpomklkfedpkfaa
set_option maxRecDepth 100000
set_option linter.unusedVariables false
def szD (ds : List (ByteArray × Int)) (i : Nat) : Int := (ds.getD i d0).2
def blw (ds : List (ByteArray × Int)) (m i : Nat) : Nat → Int
  | 0 => 1
  | d + 1 => if m.testBit (i + d) then blw ds m i d * szD ds (i + d) else blw ds m i d
theorem blw_head (ds : List (ByteArray × Int)) (m i : Nat) : ∀ d, blw ds m i (d + 1) = (if m.testBit i then szD ds i else 1) * blw ds m (i + 1) d
  | 0 => by
    simp only [blw, Nat.add_zero]
    split <;> simp
  | d + 1 => by
    have ih := blw_head ds m i d
    have e : i + (d + 1) = i + 1 + d := by omega
    have h1 : blw ds m i (d + 1 + 1) = if m.testBit (i + (d + 1)) then blw ds m i (d + 1) * szD ds (i + (d + 1)) else blw ds m i (d + 1) := rfl
    have h2 : blw ds m (i + 1) (d + 1) = if m.testBit (i + 1 + d) then blw ds m (i + 1) d * szD ds (i + 1 + d) else blw ds m (i + 1) d := rfl
    rw [h1, h2, e]
    split
    · rw [ih, Int.mul_assoc]
    · exact ih
section
variable {ds : List (ByteArray × Int)} {m n : Nat}
theorem szD_bd (hS : szB ds n = true) {i : Nat} (hi : i < n) : 1 ≤ szD ds i ∧ szD ds i ≤ 4096 := by
  have := szB_at (mono_b (szB_s ds) (by omega : i + 1 ≤ n) hS)
  exact ⟨this.1, this.2.1⟩
theorem blw_pos (hS : szB ds n = true) (i : Nat) : ∀ d, i + d ≤ n → 1 ≤ blw ds m i d
  | 0, _ => Int.le_refl _
  | d + 1, h => by
    have ih := blw_pos hS i d (by omega)
    have hb := szD_bd hS (show i + d < n by omega)
    have h1 : blw ds m i (d + 1) = if m.testBit (i + d) then blw ds m i d * szD ds (i + d) else blw ds m i d := rfl
    rw [h1]
    split
    · have := Int.mul_le_mul ih hb.1 (by decide) (by omega)
      simpa using this
    · exact ih
end
def cdK (ds : List (ByteArray × Int)) (m n : Nat) (k : Int) (i : Nat) : Int := if m.testBit i then k / blw ds m (i + 1) (n - (i + 1)) % szD ds i else -1
def coK (ds : List (ByteArray × Int)) (m n : Nat) (k : Int) : List Int := (List.range n).map (cdK ds m n k)
theorem coK_length (ds : List (ByteArray × Int)) (m n : Nat) (k : Int) : (coK ds m n k).length = n := by simp [coK]
section
variable {ds : List (ByteArray × Int)} {m n : Nat}
end
end Go.Proofs.Ytpomklkfedpkfaa
namespace Go.Proofs.Ytpomklkfedpkfaa
set_option maxRecDepth 100000
open Go.RowKit H
set_option linter.unusedVariables false
namespace Sch
def askE (s : Sch) (m : Nat) : Int := if s.code ≠ 0 then 1 else if (m : Int) ≤ s.F then 0 else 11
theorem askE_0 {s : Sch} {m : Nat} (h : s.askE m = 0) : s.code = 0 ∧ (m : Int) ≤ s.F := by
  unfold askE at h
  split at h
  · cases h
  · rename_i hc
    split at h
    · rename_i hF
      exact ⟨Decidable.not_not.1 hc, hF⟩
    · cases h
theorem Here.ask {s : Sch} {w : World} (h : s.Here w) {m : Nat} (hm : m < 4294967296) : Calls Try.prog 59 #[s.val, .int .u32 (m : Int)] w fun e w' => e = .returned (.int .i64 (s.askE m)) ∧ Ext w w' := by
  refine enter Try.func59 rfl (by kernel_rfl) ?_
  refine J.seq ?_
  refine J.region ?_
  refine L.boxA (l := [_, _, _, _]) rfl rfl ?_
  intro b1 w1 hb1 hs1 hk1 he1
  refine L.va rfl (X.assign (by conv => lhs; whnf)) ?_
  refine L.nil ?_
  refine J.seq ?_
  refine J.region ?_
  refine L.va rfl ((by first | exact X.loadAgg rfl (range_l hk1) Try.underlying47 rfl (by kernel_rfl) | exact X.loadAgg rfl (range_blk hk1) Try.underlying47 rfl (by kernel_rfl))) ?_
  by_cases hc : s.code = 0
  · have g0 := (good hc).1
    have hF := F_bd hc
    have han := andNot_full (s := s) hm g0.2.1
    refine L.call rfl en_86 rfl ((h.ext he1).full_ok hc) ?_
    rintro e w2 ⟨rfl, he2⟩
    refine ⟨_, rfl, ?_⟩
    have he2 : Ext w1 w2 := he2
    refine L.va rfl (X.assign (by conv => lhs; whnf)) ?_
    refine L.nil ?_
    refine J.seq ?_
    refine J.block ?_
    refine J.seq ?_
    refine J.region ?_
    refine L.va rfl (X.move (by conv => lhs; whnf)) ?_
    refine L.va rfl (X.eql rfl rfl) ?_
    refine L.va rfl (X.assign (by conv => lhs; whnf)) ?_
    refine L.nil ?_
    refine J.decF rfl (by omega) ?_
    refine J.seq ?_
    refine J.region ?_
    refine L.va rfl (X.move (by conv => lhs; whnf)) ?_
    refine L.va rfl (X.move (by conv => lhs; whnf)) ?_
    refine L.va rfl (X.andNot rfl rfl) ?_
    refine L.va rfl (X.neq rfl rfl) ?_
    refine L.va rfl (X.assign (by conv => lhs; whnf)) ?_
    refine L.nil ?_
    refine J.ndec rfl (fun hn => ?_) (fun hn => ?_)
    · have e : s.askE m = 11 := by rw [askE, if_neg (fun k => k hc), if_neg (by omega)]
      rw [e]
      refine J.seq ?_
      refine J.region ?_
      refine L.va rfl (X.assign (by conv => lhs; whnf)) ?_
      refine L.nil ?_
      refine J.ret ?_
      refine inB_ret <|  thn_ret <| ?_
      refine fin1 ?_
      exact ⟨rfl, he1.trans he2⟩
    · have e : s.askE m = 0 := by rw [askE, if_neg (fun k => k hc), if_pos (by omega)]
      rw [e]
      refine J.skip ?_
      refine J.seq ?_
      refine J.region ?_
      refine L.va rfl (X.assign (by conv => lhs; whnf)) ?_
      refine L.nil ?_
      refine J.ret ?_
      refine fin1 ?_
      exact ⟨rfl, he1.trans he2⟩
  · refine L.call rfl en_86 rfl ((h.ext he1).full_no hc) ?_
    rintro e w2 ⟨rfl, he2⟩
    refine ⟨_, rfl, ?_⟩
    have he2 : Ext w1 w2 := he2
    have e : s.askE m = 1 := by rw [askE, if_pos hc]
    rw [e]
    refine L.va rfl (X.assign (by conv => lhs; whnf)) ?_
    refine L.nil ?_
    refine J.seq ?_
    refine J.block ?_
    refine J.seq ?_
    refine J.region ?_
    refine L.va rfl (X.move (by conv => lhs; whnf)) ?_
    refine L.va rfl (X.eql rfl rfl) ?_
    refine L.va rfl (X.assign (by conv => lhs; whnf)) ?_
    refine L.nil ?_
    refine J.iteT rfl ?_
    refine J.seq ?_
    refine J.region ?_
    refine L.va rfl (X.assign (by conv => lhs; whnf)) ?_
    refine L.nil ?_
    refine J.ret ?_
    refine inB_ret <|  thn_ret <| ?_
    refine fin1 ?_
    exact ⟨rfl, he1.trans he2⟩
section
variable {s : Sch} {m nc : Nat} {cs : List Int}
end
end Sch
end Go.Proofs.Ytpomklkfedpkfaa
namespace Go.Proofs.Ytpomklkfedpkfaa
set_option maxRecDepth 100000
open Go.RowKit H
set_option linter.unusedVariables false
namespace Sch
def coE (s : Sch) (m : Nat) (k : Int) : Int := if s.askE m ≠ 0 then s.askE m else if kyP s.ds m s.nd ≤ k then 2 else 0
def coL (s : Sch) (m : Nat) (k : Int) : List Int := if s.coE m k = 0 then coK s.ds m s.nd k else []
section
variable {s : Sch} {m : Nat} {k : Int}
theorem coE_a (h : s.askE m ≠ 0) : s.coE m k = s.askE m ∧ s.coL m k = [] := by
  have e : s.coE m k = s.askE m := by rw [coE, if_pos h]
  exact ⟨e, by rw [coL, e, if_neg h]⟩
theorem coE_2 (h : s.askE m = 0) (hk : kyP s.ds m s.nd ≤ k) : s.coE m k = 2 ∧ s.coL m k = [] := by
  have e : s.coE m k = 2 := by rw [coE, if_neg (fun x => x h), if_pos hk]
  exact ⟨e, by rw [coL, e, if_neg (by decide)]⟩
theorem coE_0 (h : s.askE m = 0) (hk : ¬ kyP s.ds m s.nd ≤ k) : s.coE m k = 0 ∧ s.coL m k = coK s.ds m s.nd k := by
  have e : s.coE m k = 0 := by rw [coE, if_neg (fun x => x h), if_neg hk]
  exact ⟨e, by rw [coL, if_pos e]⟩
end
def coU (ds : List (ByteArray × Int)) (m n : Nat) (k : Int) (j : Nat) : List Int := (List.range n).map fun x => if x < j then 0 else cdK ds m n k x
theorem coU_all (ds : List (ByteArray × Int)) (m n : Nat) (k : Int) : coU ds m n k 0 = coK ds m n k := by
  unfold coU coK
  apply List.map_congr_left
  intro x _
  rw [if_neg (by omega)]
theorem coU_none (ds : List (ByteArray × Int)) (m n : Nat) (k : Int) : coU ds m n k n = List.replicate n 0 := by
  unfold coU
  apply List.ext_getElem
  · simp
  · intro i h1 h2
    simp at h1
    simp [h1]
theorem coU_next (ds : List (ByteArray × Int)) (m n : Nat) (k : Int) (j : Nat) (hj : j + 1 ≤ n) : (coU ds m n k (j + 1)).set j (cdK ds m n k j) = coU ds m n k j := by
  unfold coU
  apply List.ext_getElem
  · simp
  · intro i h1 h2
    simp at h1
    rw [List.getElem_set]
    simp only [List.getElem_map, List.getElem_range]
    split
    · rename_i e; subst e; rw [if_neg (by omega)]
    · rename_i e
      by_cases hlt : i < j
      · rw [if_pos (by omega), if_pos hlt]
      · rw [if_neg (by omega), if_neg hlt]
theorem coU_length (ds : List (ByteArray × Int)) (m n : Nat) (k : Int) (j : Nat) : (coU ds m n k j).length = n := by simp [coU]
theorem own_setN {w : World} {base e n c : Nat} {A : Option Addr} {k : IntKind} {zs ys : List Int} (h : w.ownsRow base e 1 (.slice A n c) n (nums k zs)) (hy : zs = ys) : w.ownsRow base e 1 (.slice A n c) n (nums k ys) := hy ▸ h
theorem Here.codes {s : Sch} {w : World} (h : s.Here w) {m : Nat} (hm : m < 4294967296) (k : Int) (hk : 0 ≤ k ∧ k ≤ 18446744073709551615) :
    Calls Try.prog 39 #[s.val, .int .u32 (m : Int), .int .u64 k] w fun e w' => ∃ A c, e = .returned (.tuple #[.slice A (s.coL m k).length c, .int .i64 (s.coE m k)]) ∧ w'.ownsRow w.heap.size 3 1 (.slice A (s.coL m k).length c) (s.coL m k).length (nums .i64 (s.coL m k)) ∧ Ext w w' := by
  have hle := h.hle
  have ra := @coE_a s m k
  have r2 := @coE_2 s m k
  have r0 := @coE_0 s m k
  refine enter Try.func39 rfl (by kernel_rfl) ?_
  refine J.seq ?_
  refine J.region ?_
  refine L.boxA (l := [_, _, _, _]) rfl rfl ?_
  intro b1 w1 hb1 hs1 hk1 he1
  refine L.va rfl (X.assign (by conv => lhs; whnf)) ?_
  refine L.va rfl (X.assign (by conv => lhs; whnf)) ?_
  refine L.nil ?_
  refine J.seq ?_
  refine J.seq ?_
  refine J.region ?_
  refine L.va rfl ((by first | exact X.loadAgg rfl (range_l hk1) Try.underlying47 rfl (by kernel_rfl) | exact X.loadAgg rfl (range_blk hk1) Try.underlying47 rfl (by kernel_rfl))) ?_
  refine L.va rfl (X.move (by conv => lhs; whnf)) ?_
  refine L.call rfl en_59 rfl ((h.ext he1).ask hm) ?_
  rintro e w2 ⟨rfl, he2⟩
  refine ⟨_, rfl, ?_⟩
  have he2 : Ext w1 w2 := he2
  have he02 := he1.trans he2
  replace hk1 := hk1.ext he2
  refine L.va rfl (X.assign (by conv => lhs; whnf)) ?_
  refine L.nil ?_
  refine J.seq ?_
  refine J.region ?_
  refine L.va rfl (X.move (by conv => lhs; whnf)) ?_
  refine L.va rfl (X.neq rfl rfl) ?_
  refine L.nil ?_
  refine J.ndec rfl (fun hA => ?_) (fun hA => ?_)
  · rw [(ra hA).1, (ra hA).2]
    refine J.seq ?_
    refine J.region ?_
    refine L.va rfl (X.move (by conv => lhs; whnf)) ?_
    refine L.va rfl (X.assign (by conv => lhs; whnf)) ?_
    refine L.va rfl (X.assign (by conv => lhs; whnf)) ?_
    refine L.nil ?_
    refine J.ret ?_
    refine thn_ret <| ?_
    refine fin2 ?_
    exact ⟨none, 0, rfl, own_nilN _ _ _ _, he02⟩
  · have hA0 : s.askE m = 0 := hA
    obtain ⟨hc, hF⟩ := askE_0 hA0
    obtain ⟨g0, g1⟩ := good hc
    have hl := h.len
    have hkv : s.kv m = kyP s.ds m s.nd := by rw [Sch.kv, if_pos ⟨hc, hF⟩]
    have hbp := kyP_bd m g1 s.nd (Nat.le_refl _)
    refine J.skip ?_
    refine J.seq ?_
    refine J.region ?_
    refine L.va rfl ((by first | exact X.loadAgg rfl (range_l hk1) Try.underlying47 rfl (by kernel_rfl) | exact X.loadAgg rfl (range_blk hk1) Try.underlying47 rfl (by kernel_rfl))) ?_
    refine L.va rfl (X.move (by conv => lhs; whnf)) ?_
    refine L.call rfl en_57 rfl ((h.ext he02).keys hm) ?_
    rintro e w3 ⟨rfl, he3⟩
    refine ⟨_, rfl, ?_⟩
    have he3 : Ext w2 w3 := he3
    have he03 := he02.trans he3
    replace hk1 := hk1.ext he3
    rw [hkv]
    refine L.va rfl (X.move (by conv => lhs; whnf)) ?_
    refine L.va rfl (X.extract rfl rfl) ?_
    refine L.va rfl (X.extract rfl rfl) ?_
    refine L.va rfl (X.assign (by conv => lhs; whnf)) ?_
    refine L.va rfl (X.assign (by conv => lhs; whnf)) ?_
    refine L.nil ?_
    refine J.seq ?_
    refine J.seq ?_
    refine J.region ?_
    refine L.va rfl (X.move (by conv => lhs; whnf)) ?_
    refine L.va rfl (X.move (by conv => lhs; whnf)) ?_
    refine L.va rfl (X.geq rfl rfl) ?_
    refine L.nil ?_
    refine J.dec rfl (fun hge => ?_) (fun hge => ?_)
    · rw [(r2 hA0 hge).1, (r2 hA0 hge).2]
      refine J.seq ?_
      refine J.region ?_
      refine L.va rfl (X.assign (by conv => lhs; whnf)) ?_
      refine L.va rfl (X.assign (by conv => lhs; whnf)) ?_
      refine L.nil ?_
      refine J.ret ?_
      refine thn_ret <| ?_
      refine fin2 ?_
      exact ⟨none, 0, rfl, own_nilN _ _ _ _, he03⟩
    · rw [(r0 hA0 (by omega)).1, (r0 hA0 (by omega)).2, coK_length]
      refine J.skip ?_
      refine J.seq ?_
      refine J.region ?_
      refine L.va rfl (X.fieldAddr rfl Try.underlying47 rfl sz_43 (by decide)) ?_
      refine L.va rfl (X.load rfl sc_43 (by first | exact Ld.blk hk1 rfl)) ?_
      refine L.va rfl (X.len rfl Try.underlying43) ?_
      refine L.make rfl rfl rfl Try.underlying74 el_3 (by omega) ?_
      intro b4 w4 hb4 hs4 hk4 he4
      rw [made_nums] at hk4
      have hz03 := he03.le
      have he04 := he03.trans he4
      have ho4 : w4.ownsRow w.heap.size 3 1 (.slice (some ⟨b4, 0, none⟩) s.nd s.nd) s.nd (nums .i64 (List.replicate s.nd 0)) := blk_own1 hk4 (by omega) (by unfold maxLen; omega) (by simp [nums])
      rw [← coU_none s.ds m s.nd k] at ho4
      replace hk1 := hk1.ext he4
      have hd4 := h.hd.ext he04
      refine L.va rfl (X.assign (by conv => lhs; whnf)) ?_
      refine L.nil ?_
      refine J.seq ?_
      refine J.seq ?_
      refine J.region ?_
      refine L.va rfl (X.fieldAddr rfl Try.underlying47 rfl sz_43 (by decide)) ?_
      refine L.va rfl (X.load rfl sc_43 (by first | exact Ld.blk hk1 rfl | exact Ld.rd hd4 (by omega))) ?_
      refine L.va rfl (X.len rfl Try.underlying43) ?_
      refine L.va rfl (X.sub rfl rfl (by omega)) ?_
      refine L.va rfl (X.assign (by conv => lhs; whnf)) ?_
      refine L.nil ?_
      refine J.block ?_
      refine J.loop (X := Int × Int) [2, 12, 13, 37, 38, 39, 40, 41, 42, 43, 44, 45, 46, 47, 48, 49, 50, 51, 52, 53, 54, 55, 56, 57, 58, 59, 60, 61, 62, 63, 64, 65] (fun x => [(12, .int .i64 x.1), (2, .int .u64 x.2)]) (fun x w' => -1 ≤ x.1 ∧ x.1 < s.nd ∧ x.2 = k / blw s.ds m (x.1 + 1).toNat (s.nd - (x.1 + 1).toNat) ∧ w'.ownsRow w.heap.size 3 1 (.slice (some ⟨b4, 0, none⟩) s.nd s.nd) s.nd (nums .i64 (coU s.ds m s.nd k (x.1 + 1).toNat)) ∧ Ext w w' ∧ Blk w' b1 47 #[.slice s.Ad s.nd s.cd, .slice s.A1 s.n1 s.c1, .slice s.A2 s.n2 s.c2, .slice s.Av s.nv s.cv]) (fun x => (x.1 + 1).toNat) (((s.nd : Int) - 1, k)) (At2 (by first | rfl | exact at_int rfl (by omega) | exact at_slice rfl (by omega) | exact at_int rfl (by simp)) (by first | rfl | exact at_int rfl (by omega) | exact at_slice rfl (by omega) | exact at_int rfl (by simp))) ?_ ?_
      · have e : ((s.nd : Int) - 1 + 1).toNat = s.nd := by omega
        refine ⟨by dsimp only; omega, by dsimp only; omega, ?_, ?_, he04, hk1⟩
        · dsimp only
          rw [e, Nat.sub_self, show blw s.ds m s.nd 0 = 1 from rfl, Int.ediv_one]
        · dsimp only
          rw [e]
          exact ho4
      · rintro ⟨a, q⟩ g w5 ⟨ha0, ha1, hq, ho5, he05, hk5⟩
        dsimp only at ha0 ha1 hq ho5
        have q1 : ((a, q) : Int × Int).1 = a := rfl
        have q2 : ((a, q) : Int × Int).2 = q := rfl
        have hd5 := h.hd.ext he05
        refine J.seq ?_
        refine J.seq ?_
        refine J.region ?_
        refine L.va rfl (X.move (by conv => lhs; whnf)) ?_
        refine L.va rfl (X.geq rfl rfl) ?_
        refine L.nil ?_
        refine J.dec rfl (fun hlt => ?_) (fun hlt => ?_)
        · have ha : 0 ≤ a := hlt
          obtain ⟨i, rfl⟩ := Int.eq_ofNat_of_zero_le ha
          have hi : i < s.nd := by omega
          have e1 : ((i : Int) + 1).toNat = i + 1 := by omega
          have e2 : ((i : Int) - 1 + 1).toNat = i := by omega
          rw [e1] at hq ho5
          have hbl := blw_pos (m := m) g1 (i + 1) (s.nd - (i + 1)) (by omega)
          have hq0 : 0 ≤ q ∧ q ≤ k := by
            rw [hq]
            exact div_le' hk.1 (by omega)
          have hbd : 1 ≤ szD s.ds i ∧ szD s.ds i ≤ 4096 := szD_bd g1 hi
          have hcd : cdK s.ds m s.nd k i = if m.testBit i then q % szD s.ds i else -1 := by rw [cdK, hq]
          have hqn : k / blw s.ds m i (s.nd - i) = if m.testBit i then q / szD s.ds i else q := by
            rw [show s.nd - i = s.nd - (i + 1) + 1 by omega, blw_head, hq]
            split
            · rw [Int.mul_comm, Int.ediv_ediv_of_nonneg (by omega)]
            · rw [Int.one_mul]
          have hnx := coU_next s.ds m s.nd k i (by omega)
          have hcl := coU_length s.ds m s.nd k (i + 1)
          have hba := bit_and (m := m) (i := i) hm (by omega)
          have hl2 : i < s.ds.length := by omega
          have hnb : some b1 ≠ Value.ownBlock (.slice (some ⟨b4, 0, none⟩) s.nd s.nd) := fun e => own_blk_ne ho5 hk5 (by decide) e.symm
          refine J.skip ?_
          refine J.seq ?_
          refine J.block ?_
          refine J.seq ?_
          refine J.region ?_
          refine L.va rfl (X.move (by conv => lhs; whnf)) ?_
          refine L.va rfl (X.move (by conv => lhs; whnf)) ?_
          refine L.va rfl ((by first | exact X.index1n rfl rfl Try.underlying74 sz_3 (by first | exact Option.some_ne_none _ | exact hd5.some_ (by omega)) (by omega) | exact X.index1 rfl rfl Try.underlying74 sz_3 (by first | exact Option.some_ne_none _ | exact hd5.some_ (by omega)) (by omega))) ?_
          refine L.storeON rfl rfl (by conv => lhs; whnf) sz_3 (ho5) (by omega) ?_
          intro w6 ho6 hg6 hb6 hs6
          have he06 := he05.low hb6 (Nat.le_refl _)
          have hk6 := hk5.grown hg6 hnb
          have hd6 := h.hd.ext he06
          refine L.nil ?_
          refine J.seq ?_
          refine J.region ?_
          refine L.va rfl (X.move (by conv => lhs; whnf)) ?_
          refine L.va rfl (X.move (by conv => lhs; whnf)) ?_
          refine L.va rfl (X.shr rfl rfl (by omega)) ?_
          refine L.va rfl (X.and rfl rfl) ?_
          refine L.va rfl (X.eql rfl rfl) ?_
          refine L.nil ?_
          rw [hba]
          cases ht : m.testBit i
          · rw [ht, if_neg (by decide)] at hcd hqn
            refine J.decF rfl (by decide) ?_
            refine J.skip ?_
            refine J.region ?_
            refine L.va rfl (X.move (by conv => lhs; whnf)) ?_
            refine L.va rfl (X.sub rfl rfl (by omega)) ?_
            refine L.va rfl (X.assign (by conv => lhs; whnf)) ?_
            refine L.nil ?_
            refine ⟨((i : Int) - 1, q), At2 (by first | rfl | exact at_int rfl (by omega) | exact at_slice rfl (by omega) | exact at_int rfl (by simp)) (by first | rfl | exact at_int rfl (by omega) | exact at_slice rfl (by omega) | exact at_int rfl (by simp)), (by (iterate 13 refine Agr.lk rfl ?_); exact Agr.lk rfl (Agr.hav rfl Agr.rfl')), ?_⟩
            refine ⟨⟨by dsimp only; omega, by dsimp only; omega, ?_, ?_, he06, hk6⟩, by dsimp only; omega⟩
            · dsimp only; rw [e2]; exact hqn.symm
            · dsimp only; rw [e2]; exact own_setN ho6 (by rw [← hcd]; exact hnx)
          · rw [ht, if_pos rfl] at hcd hqn
            refine J.iteT rfl ?_
            have hsz : (s.ds.getD i d0).2 = szD s.ds i := rfl
            have hld := Ld.dimN hd6 hi
            rw [hsz] at hld
            generalize szD s.ds i = dv at *
            refine J.seq ?_
            refine J.region ?_
            refine L.va rfl (X.fieldAddr rfl Try.underlying47 rfl sz_43 (by decide)) ?_
            refine L.va rfl (X.load rfl sc_43 (by first | exact Ld.blk hk6 rfl | exact Ld.rd hd6 (by omega))) ?_
            refine L.va rfl (X.move (by conv => lhs; whnf)) ?_
            refine L.va rfl ((by first | exact X.indexAddrn rfl rfl Try.underlying43 sz_78 (by first | exact Option.some_ne_none _ | exact hd6.some_ (by omega)) (by omega) | exact X.indexAddr rfl rfl Try.underlying43 sz_78 (by first | exact Option.some_ne_none _ | exact hd6.some_ (by omega)) (by omega))) ?_
            refine L.va rfl (X.fieldP rfl Try.underlying78 rfl sz_3 (by decide) (by first | exact Option.some_ne_none _ | exact hd6.some_ (by omega))) ?_
            refine L.va rfl (X.load rfl sc_3 hld) ?_
            refine L.va rfl ((by first | exact X.convU rfl is_3 Try.underlying36 (by omega) | exact X.convw rfl is_3 Try.underlying36)) ?_
            refine L.va rfl (X.assign (by conv => lhs; whnf)) ?_
            refine L.nil ?_
            refine J.seq ?_
            refine J.region ?_
            refine L.va rfl (X.move (by conv => lhs; whnf)) ?_
            refine L.va rfl (X.move (by conv => lhs; whnf)) ?_
            refine L.va rfl (X.move (by conv => lhs; whnf)) ?_
            refine L.va rfl (X.move (by conv => lhs; whnf)) ?_
            refine L.va rfl (X.rem rfl rfl (by omega)) ?_
            refine L.va rfl ((by first | exact X.convI rfl is_36 Try.underlying3 (by omega) | exact X.convw rfl is_36 Try.underlying3)) ?_
            refine L.va rfl ((by first | exact X.index1n rfl rfl Try.underlying74 sz_3 (by first | exact Option.some_ne_none _ | exact hd6.some_ (by omega)) (by omega) | exact X.index1 rfl rfl Try.underlying74 sz_3 (by first | exact Option.some_ne_none _ | exact hd6.some_ (by omega)) (by omega))) ?_
            have hr0 : 0 ≤ q % dv ∧ q % dv < dv := ⟨Int.emod_nonneg _ (by omega), Int.emod_lt_of_pos _ (by omega)⟩
            have hr1 : 0 ≤ (((i : Int), q) : Int × Int).2 % dv ∧ (((i : Int), q) : Int × Int).2 % dv < dv := hr0
            refine L.storeON rfl rfl (by conv => lhs; whnf) sz_3 (ho6) (by omega) ?_
            intro w7 ho7 hg7 hb7 hs7
            have he07 := he06.low hb7 (Nat.le_refl _)
            have hk7 := hk6.grown hg7 (fun e => own_blk_ne ho6 hk6 (by decide) e.symm)
            refine L.nil ?_
            refine J.region ?_
            refine L.va rfl (X.move (by conv => lhs; whnf)) ?_
            refine L.va rfl (X.move (by conv => lhs; whnf)) ?_
            refine L.va rfl (X.quoU rfl rfl (by omega)) ?_
            refine L.va rfl (X.assign (by conv => lhs; whnf)) ?_
            refine L.nil ?_
            refine J.region ?_
            refine L.va rfl (X.move (by conv => lhs; whnf)) ?_
            refine L.va rfl (X.sub rfl rfl (by omega)) ?_
            refine L.va rfl (X.assign (by conv => lhs; whnf)) ?_
            refine L.nil ?_
            refine ⟨((i : Int) - 1, q / dv), At2 (by first | rfl | exact at_int rfl (by omega) | exact at_slice rfl (by omega) | exact at_int rfl (by simp)) (by first | rfl | exact at_int rfl (by omega) | exact at_slice rfl (by omega) | exact at_int rfl (by simp)), (by (iterate 32 refine Agr.lk rfl ?_); exact Agr.lk rfl (Agr.hav rfl Agr.rfl')), ?_⟩
            refine ⟨⟨by dsimp only; omega, by dsimp only; omega, ?_, ?_, he07, hk7⟩, by dsimp only; omega⟩
            · dsimp only; rw [e2]; exact hqn.symm
            · dsimp only; rw [e2]; exact own_setN ho7 (by rw [List.set_set, ← hnx, hcd, show IntKind.i64.wrap ((((i : Int), q) : Int × Int).2 % dv) = q % dv from w64 (by omega)])
        · have ha : a = -1 := by
            have : ¬ 0 ≤ a := hlt
            omega
          subst ha
          refine J.exit ?_
          refine J.seq ?_
          refine J.region ?_
          refine L.va rfl (X.move (by conv => lhs; whnf)) ?_
          refine L.va rfl (X.assign (by conv => lhs; whnf)) ?_
          refine L.va rfl (X.assign (by conv => lhs; whnf)) ?_
          refine L.nil ?_
          refine J.ret ?_
          refine fin2 ?_
          rw [show ((-1 : Int) + 1).toNat = 0 by decide, coU_all] at ho5
          exact ⟨_, _, rfl, ho5, he05⟩
end Sch
end Go.Proofs.Ytpomklkfedpkfaa
namespace Go.Proofs.Ytpomklkfedpkfaa
set_option maxRecDepth 100000
open Go.RowKit H
open Dfp
open Nrm (pk)
set_option linter.unusedVariables false
def cellsE (s : Sch) (m : Nat) (f : Fis) (l : List Con) : Int := if fcode s f ≠ 0 then fcode s f else if rightK s m l = false then 1 else if bits .andNot .u32 ((fneed f.l : Nat) : Int) (m : Int) ≠ 0 then 11 else 0
def passC (s : Sch) (m : Nat) (f : Fis) (x : Con) : Bool := pk (f.l.map Fi.key) (s.coL m (x.k : Int))
def CellsR (s : Sch) (m : Nat) (f : Fis) (l : List Con) (w : World) (e : Ending) (w' : World) : Prop :=
  ∃ t : Ces, e = .returned (.tuple #[t.val, .int .i64 (cellsE s m f l)]) ∧ t.At w'.heap.size w' ∧ t.n ≤ t.c ∧ t.n ≤ 1000 ∧ (∀ x ∈ t.l, x.Lt) ∧ (cellsE s m f l ≠ 0 → t.con = []) ∧ (cellsE s m f l = 0 → t.con = l.filter (passC s m f)) ∧ Ext w w'
theorem CellsR.none_ {s : Sch} {m : Nat} {f : Fis} {l : List Con} {w w' : World} {e : Ending} {z : Int} (hz : cellsE s m f l = z) (h0 : z ≠ 0) (he : e = .returned (.tuple #[.slice none 0 0, .int .i64 z])) (hx : Ext w w') : CellsR s m f l w e w' :=
  ⟨⟨none, 0, 0, []⟩, by rw [he, hz], ⟨Reads.of_own (own_nil w' 0 0 4), (fun x hx => by cases hx), rfl, Nat.zero_le _⟩, Nat.le_refl _, Nat.zero_le _, (fun x hx => by cases hx), fun _ => rfl, fun h => absurd (hz.symm.trans h) h0, hx⟩
theorem fcells {s : Sch} {m : Nat} {f : Fis} {t : Ces} {w : World} (H : s.Here w) (hm : m < 4294967296) (hf : f.At w.heap.size w) (ht : t.At w.heap.size w) (hn : t.n ≤ 1000) (hL : ∀ x ∈ t.l, x.Lt) : Calls Try.prog 18 #[s.val, .int .u32 (m : Int), f.val, t.val] w (CellsR s m f t.con w) := by
  obtain ⟨A, n, c, l⟩ := t
  obtain rfl : l.length = n := ht.l
  have hn : l.length ≤ 1000 := hn
  have hr : Reads w w.heap.size 4 A l.length (l.flatMap Ce.vs) := ht.r
  show Calls Try.prog 18 #[s.val, .int .u32 (m : Int), f.val, .slice A l.length c] w (CellsR s m f (l.map Ce.con) w)
  refine enter Try.func18 rfl (by kernel_rfl) ?_
  refine J.seq ?_
  refine J.region ?_
  refine L.boxA (l := [_, _, _, _]) rfl rfl ?_
  intro b1 w1 hb1 hs1 hk1 he1
  have z1 := he1.le
  have c2 := fcheck (f := f) (H.ext he1) ((hf.ext he1).more z1)
  refine L.va rfl (X.assign (by conv => lhs; whnf)) ?_
  refine L.va rfl (X.assign (by conv => lhs; whnf)) ?_
  refine L.nil ?_
  refine J.seq ?_
  refine J.seq ?_
  refine J.region ?_
  refine L.va rfl ((by first | exact X.loadAgg rfl (range_l hk1) Try.underlying47 rfl (by kernel_rfl) | exact X.loadAgg rfl (range_blk hk1) Try.underlying47 rfl (by kernel_rfl))) ?_
  refine L.va rfl (X.move (by conv => lhs; whnf)) ?_
  refine L.call rfl en_36 rfl (c2) ?_
  rintro e w2 ⟨rfl, he2⟩
  refine ⟨_, rfl, ?_⟩
  have he2 : Ext w1 w2 := he2
  have he02 := he1.trans he2
  have z2 := he02.le
  have hk1 := hk1.ext he2
  refine L.va rfl (X.assign (by conv => lhs; whnf)) ?_
  refine L.nil ?_
  refine J.seq ?_
  refine J.region ?_
  refine L.va rfl (X.move (by conv => lhs; whnf)) ?_
  refine L.va rfl (X.neq rfl rfl) ?_
  refine L.nil ?_
  refine J.ndec rfl (fun h1 => ?_) (fun h1 => ?_)
  · refine J.seq ?_
    refine J.region ?_
    refine L.va rfl (X.move (by conv => lhs; whnf)) ?_
    refine L.va rfl (X.assign (by conv => lhs; whnf)) ?_
    refine L.va rfl (X.assign (by conv => lhs; whnf)) ?_
    refine L.nil ?_
    refine J.ret ?_
    refine thn_ret <| ?_
    refine fin2 ?_
    exact CellsR.none_ (if_pos h1) h1 rfl he02
  · have c3 := cright (s := s) (m := m) (t := Ces.mk A l.length c l) (N := w.heap.size) (H.ext he02) hm z2 (ht.ext he02) hn hL
    refine J.skip ?_
    refine J.seq ?_
    refine J.seq ?_
    refine J.region ?_
    refine L.va rfl ((by first | exact X.loadAgg rfl (range_l hk1) Try.underlying47 rfl (by kernel_rfl) | exact X.loadAgg rfl (range_blk hk1) Try.underlying47 rfl (by kernel_rfl))) ?_
    refine L.va rfl (X.move (by conv => lhs; whnf)) ?_
    refine L.va rfl (X.move (by conv => lhs; whnf)) ?_
    refine L.call rfl en_37 rfl (c3) ?_
    rintro e w3 ⟨rfl, he3⟩
    refine ⟨_, rfl, ?_⟩
    have he3 : Ext w2 w3 := he3
    have he03 := he02.trans he3
    have z3 := he03.le
    have hk1 := hk1.ext he3
    refine L.va rfl (X.not rfl) ?_
    refine L.nil ?_
    cases hrk : rightK s m (l.map Ce.con)
    · refine J.iteT rfl ?_
      refine J.seq ?_
      refine J.region ?_
      refine L.va rfl (X.assign (by conv => lhs; whnf)) ?_
      refine L.va rfl (X.assign (by conv => lhs; whnf)) ?_
      refine L.nil ?_
      refine J.ret ?_
      refine thn_ret <| ?_
      refine fin2 ?_
      exact CellsR.none_ (by unfold cellsE; rw [if_neg (fun k => k h1), if_pos hrk]) (by decide) rfl he03
    · refine J.iteF rfl ?_
      have c4 := fneed_ f w3 ((hf.ext he03).more z3)
      refine J.skip ?_
      refine J.seq ?_
      refine J.seq ?_
      refine J.region ?_
      refine L.va rfl (X.move (by conv => lhs; whnf)) ?_
      refine L.call rfl en_38 rfl (c4) ?_
      rintro e w4 ⟨rfl, he4⟩
      refine ⟨_, rfl, ?_⟩
      have he4 : Ext w3 w4 := he4
      have he04 := he03.trans he4
      have hk1 := hk1.ext he4
      refine L.va rfl (X.move (by conv => lhs; whnf)) ?_
      refine L.va rfl (X.andNot rfl rfl) ?_
      refine L.va rfl (X.neq rfl rfl) ?_
      refine L.nil ?_
      refine J.ndec rfl (fun h2 => ?_) (fun h2 => ?_)
      · refine J.seq ?_
        refine J.region ?_
        refine L.va rfl (X.assign (by conv => lhs; whnf)) ?_
        refine L.va rfl (X.assign (by conv => lhs; whnf)) ?_
        refine L.nil ?_
        refine J.ret ?_
        refine thn_ret <| ?_
        refine fin2 ?_
        exact CellsR.none_ (by unfold cellsE; rw [if_neg (fun k => k h1), if_neg (by simp [hrk]), if_pos h2]) (by decide) rfl he04
      · have hE : cellsE s m f (l.map Ce.con) = 0 := by unfold cellsE; rw [if_neg (fun k => k h1), if_neg (by simp [hrk]), if_neg (fun h => h h2)]
        have Rl := ris_of (rightK_ris hrk)
        refine J.skip ?_
        refine J.seq ?_
        refine J.region ?_
        refine L.va rfl (X.assign (by conv => lhs; whnf)) ?_
        refine L.nil ?_
        refine J.seq ?_
        refine J.seq ?_
        refine J.region ?_
        refine L.va rfl (X.move (by conv => lhs; whnf)) ?_
        refine L.va rfl (X.len rfl Try.underlying22) ?_
        refine L.va rfl (X.move (by conv => lhs; whnf)) ?_
        refine L.nil ?_
        refine J.block ?_
        refine J.loop (X := Nat × Option Addr × Nat × List Ce) [11, 13, 14, 15, 34, 35, 36, 37, 38, 39, 40, 41, 42, 43, 44, 45, 46, 47, 48, 49, 50, 51, 52, 53] (fun (i, B, d, o) => [(34, .int .i64 (i : Int)), (11, .slice B o.length d)]) (fun (i, B, d, o) w' => i ≤ l.length ∧ o.length ≤ i ∧ o = (l.take i).filter (fun x => passC s m f x.con) ∧ w'.ownsRow w4.heap.size 61 4 (.slice B o.length d) o.length (o.flatMap Ce.vs) ∧ Ext w4 w') (fun (i, _) => l.length - i) ((0, none, 0, [])) (At2 (by first | rfl | exact at_int rfl (by omega) | exact at_slice rfl (by omega) | exact at_int rfl (by simp)) (by first | rfl | exact at_int rfl (by omega) | exact at_slice rfl (by omega) | exact at_int rfl (by simp))) ?_ ?_
        · exact ⟨Nat.zero_le _, Nat.le_refl _, rfl, own_nil _ _ _ _, Ext.refl _⟩
        · rintro ⟨i, B, d, o⟩ g w5 ⟨hi, hoi, ho, ho5, he45⟩
          have he5 := he04.trans he45
          have hk5 := hk1.ext he45
          have z5 := he5.le
          refine J.seq ?_
          refine J.region ?_
          refine L.va rfl (X.lss rfl rfl) ?_
          refine L.nil ?_
          refine J.seq ?_
          refine J.dec rfl (fun hlt => ?_) (fun hlt => ?_)
          · have hin : i < l.length := by omega
            have hr5 := hr.ext he5
            have hA := hr5.some_ (by omega)
            have gy := gtX hin
            have my := memD (l := l) (i := i) (d := ce0) hin
            have et := take_one hin
            obtain ⟨y, hy⟩ : ∃ y, y = l.getD i ce0 := ⟨_, rfl⟩
            rw [← hy] at gy my et
            have yk : y.k < 18446744073709551616 := (ht.h y my).k
            refine J.skip ?_
            refine J.seq ?_
            refine J.block ?_
            refine J.seq ?_
            refine J.region ?_
            refine L.va rfl ((by first | exact X.indexAddrn rfl rfl Try.underlying22 sz_61 (by first | exact Option.some_ne_none _ | exact hA) (by omega) | exact X.indexAddr rfl rfl Try.underlying22 sz_61 (by first | exact Option.some_ne_none _ | exact hA) (by omega))) ?_
            refine L.va rfl (X.loadRow (cs := y.vs) rfl hr5 (fun r u hu => flat_row ce_len gy r u hu) (Nat.zero_lt_succ _) Try.underlying61 rfl (by kernel_rfl)) ?_
            refine L.alloc rfl zr_61 ?_
            intro b6 w6 hb6 hs6 hk6 he6
            refine L.storeAgg (vs := [_, _, _, _]) rfl rfl rfl rfl sz_61 (hk6) rfl ?_
            intro w7 hk7 hg7 hs7
            have he57 : Ext w5 w7 := he6.grw hg7 (by intro g hg; injection hg with hg; omega)
            have hk7 : Blk w7 b6 61 y.vs.toArray := hk7
            have hk17 := hk5.ext he57
            have he07 := he5.trans he57
            have z7 := he07.le
            have c8 := (H.ext he07).codes hm (y.k : Int) (by omega)
            refine L.nil ?_
            refine J.seq ?_
            refine J.region ?_
            refine L.va rfl (X.loadAgg rfl (range_blk hk17) Try.underlying47 rfl (by kernel_rfl)) ?_
            refine L.va rfl (X.move (by conv => lhs; whnf)) ?_
            refine L.va rfl (X.fieldAddr rfl Try.underlying61 rfl sz_36 (by decide)) ?_
            refine L.va rfl (X.load rfl sc_36 (by first | exact Ld.blk hk7 rfl)) ?_
            refine L.call rfl en_39 rfl (c8) ?_
            rintro e w8 ⟨A8, c8', rfl, ho8, he8⟩
            refine ⟨_, rfl, ?_⟩
            have he8 : Ext w7 w8 := he8
            have he08 := he07.trans he8
            have z8 := he08.le
            have hk8 := hk7.ext he8
            have hcl : (s.coL m (y.k : Int)).length ≤ maxLen := Nat.le_trans (own_bd ho8).1 (own_bd ho8).2
            have c9 := pass_ (f := f) (c := c8') (w := w8) ((hf.ext he08).more z8) (Reads.of_own ho8) hcl
            refine L.va rfl (X.move (by conv => lhs; whnf)) ?_
            refine L.va rfl (X.extract rfl rfl) ?_
            refine L.va rfl (X.extract rfl rfl) ?_
            refine L.va rfl (X.assign (by conv => lhs; whnf)) ?_
            refine L.va rfl (X.assign (by conv => lhs; whnf)) ?_
            refine L.nil ?_
            refine J.seq ?_
            refine J.region ?_
            refine L.va rfl (X.move (by conv => lhs; whnf)) ?_
            refine L.va rfl (X.move (by conv => lhs; whnf)) ?_
            refine L.call rfl en_40 rfl (c9) ?_
            rintro e w9 ⟨rfl, he9⟩
            refine ⟨_, rfl, ?_⟩
            have he9 : Ext w8 w9 := he9
            have he09 := he08.trans he9
            have he59 := (he57.trans he8).trans he9
            have hk9 := hk8.ext he9
            have ho9 := ho5.ext he59
            cases hp : pk (f.l.map Fi.key) (s.coL m (y.k : Int))
            · refine L.nil ?_
              refine J.iteF rfl ?_
              refine J.skip ?_
              refine J.region ?_
              refine L.va rfl (X.add rfl rfl (by omega)) ?_
              refine L.va rfl (X.move (by conv => lhs; whnf)) ?_
              refine L.nil ?_
              refine ⟨(i + 1, B, d, o), At2 (by first | rfl | exact at_int rfl (by omega) | exact at_slice rfl (by omega) | exact at_int rfl (by simp)) (by first | rfl | exact at_int rfl (by omega) | exact at_slice rfl (by omega) | exact at_int rfl (by simp)), (by (iterate 19 refine Agr.lk rfl ?_); exact Agr.lk rfl (Agr.hav rfl Agr.rfl')), ?_⟩
              refine ⟨⟨by omega, by omega, ?_, ho9, he45.trans he59⟩, by show l.length - (i + 1) < l.length - i; omega⟩
              rw [et, List.filter_append, ← ho]
              have : passC s m f y.con = false := hp
              simp [this]
            · skip
              refine L.nil ?_
              refine J.iteT rfl ?_
              refine J.region ?_
              refine L.va rfl (X.move (by conv => lhs; whnf)) ?_
              refine L.va rfl (X.loadAgg rfl (range_l hk9) Try.underlying61 rfl (by kernel_rfl)) ?_
              refine L.bslice1 (l := [_, _, _, _]) rfl rfl rfl Try.underlying22 sz_61 zr_61 rfl ?_
              intro b10 w10 hb10 hs10 hk10 he10
              have ho10 := ho9.ext he10
              have he010 := he09.trans he10
              have z10 := he010.le
              have z410 := ((he45.trans he59).trans he10).le
              refine L.appendV (q := o.length + 1) (ys := ((o ++ [y]).flatMap Ce.vs)) rfl rfl rfl Try.underlying22 el_61 (ho10) ((blk_readsN (sz := 4) (q := 1) (l := y.vs) hk10 hk10.lt rfl)) (by first | rfl | exact strs_ones _ | assumption) (by omega) (by simp) (by unfold maxLen; omega) (by omega) ?_
              intro A11 c11 w11 ho11 hg11 hb11 hor11
              have he411 := ((he45.trans he59).trans he10).grw hg11 (fun g hg => (ho10.lt g hg).1)
              have eo : (o ++ [y]).length = o.length + 1 := by rw [List.length_append]; rfl
              refine L.va rfl (X.assign (by conv => lhs; whnf)) ?_
              refine L.nil ?_
              refine J.region ?_
              refine L.va rfl (X.add rfl rfl (by omega)) ?_
              refine L.va rfl (X.move (by conv => lhs; whnf)) ?_
              refine L.nil ?_
              refine ⟨(i + 1, A11, c11, o ++ [y]), At2 (rfl) (at_slice rfl eo.symm), (by (iterate 24 refine Agr.lk rfl ?_); exact Agr.lk rfl (Agr.hav rfl Agr.rfl')), ?_⟩
              refine ⟨⟨by omega, by rw [eo]; omega, ?_, by rw [eo]; exact ho11, he411⟩, by show l.length - (i + 1) < l.length - i; omega⟩
              rw [et, List.filter_append, ← ho]
              have : passC s m f y.con = true := hp
              simp [this]
          · obtain rfl : i = l.length := by omega
            rw [List.take_length] at ho
            have ro : RisC o := by rw [ho]; exact Rl.sublist List.filter_sublist
            have mo : ∀ y ∈ o, y ∈ l := fun y hy => by rw [ho] at hy; exact (List.mem_filter.1 hy).1
            have c7 := cmerge ⟨B, o.length, d, o⟩ w5 ⟨Reads.of_own ho5, fun y hy => (((ht.h y (mo y hy)).ext he5).more z5), rfl, by show o.length ≤ maxLen; unfold maxLen; omega⟩ (by show o.length ≤ 1000; omega) (own_le' ho5) (rise_of ro) (fun y hy => hL y (mo y hy))
            refine J.exit ?_
            refine J.seq ?_
            refine J.region ?_
            refine L.va rfl (X.move (by conv => lhs; whnf)) ?_
            refine L.call rfl en_30 rfl (c7) ?_
            rintro e w6 ⟨t, rfl, hcon, hat, htc, htL, he6⟩
            refine ⟨_, rfl, ?_⟩
            refine L.va rfl (X.extract rfl rfl) ?_
            refine L.va rfl (X.extract rfl rfl) ?_
            refine L.va rfl (X.assign (by conv => lhs; whnf)) ?_
            refine L.va rfl (X.assign (by conv => lhs; whnf)) ?_
            refine L.nil ?_
            refine J.ret ?_
            refine fin2 ?_
            refine ⟨t, ?_, hat, htc, ?_, htL, fun h => absurd hE h, fun _ => ?_, he5.trans he6⟩
            · rw [hE]
              rfl
            · have e1 := congrArg List.length hcon
              have e2 := hat.l
              have e3 : t.l.length = o.length := by simpa [Ces.con] using e1
              omega
            · rw [hcon]
              show o.map Ce.con = (l.map Ce.con).filter (passC s m f)
              rw [ho, List.filter_map]
              rfl
end Go.Proofs.Ytpomklkfedpkfaa
namespace Go.Proofs.Ytpomklkfedpkfaa
set_option maxRecDepth 100000
open Go.RowKit H
open Nrm (Up sel mem_sel eq_sel up_sel kp sm nrm nf take_next)
set_option linter.unusedVariables false
theorem keys_no {a b : List Fi} {i : Nat} (ha : i < a.length) (hb : i < b.length) (h : (a.getD i fi0).key ≠ (b.getD i fi0).key) : decide (a.map Fi.key = b.map Fi.key) = false := by
  refine decide_eq_false fun e => h ?_
  have := congrArg (fun l : List (Int × List Int) => l[i]?) e
  simp only [List.getElem?_map, gtF ha, gtF hb, Option.map_some, Option.some.injEq] at this
  exact this
theorem keys_all {a b : List Fi} (hl : a.length = b.length) (h : ∀ i, i < a.length → (a.getD i fi0).key = (b.getD i fi0).key) : decide (a.map Fi.key = b.map Fi.key) = true := by
  refine decide_eq_true (List.ext_getElem (by simp [hl]) fun i h1 h2 => ?_)
  rw [List.length_map] at h1 h2
  have := h i h1
  rw [List.getD, List.getD, List.getElem?_eq_getElem h1, List.getElem?_eq_getElem h2] at this
  simpa using this
theorem rsame28 {a b : Fis} {w : World} (ha : a.At w.heap.size w) (hb : b.At w.heap.size w) : Calls Try.prog 34 #[a.val, b.val] w fun e w' => e = .returned (.bool (decide (a.l.map Fi.key = b.l.map Fi.key))) ∧ Ext w w' := by
  have la := ha.l
  have lb := hb.l
  have ma := ha.m
  have mb := hb.m
  unfold maxLen at ma mb
  refine enter Try.func34 rfl (by kernel_rfl) ?_
  refine J.seq ?_
  refine J.region ?_
  refine L.va rfl (X.assign (by conv => lhs; whnf)) ?_
  refine L.nil ?_
  refine J.seq ?_
  refine J.seq ?_
  refine J.region ?_
  refine L.va rfl (X.move (by conv => lhs; whnf)) ?_
  refine L.va rfl (X.len rfl Try.underlying48) ?_
  refine L.va rfl (X.move (by conv => lhs; whnf)) ?_
  refine L.va rfl (X.len rfl Try.underlying48) ?_
  refine L.va rfl (X.neq rfl rfl) ?_
  refine L.nil ?_
  refine J.ndec rfl (fun h1 => ?_) (fun h1 => ?_)
  · have e : decide (a.l.map Fi.key = b.l.map Fi.key) = false := decide_eq_false fun e => by
      have := congrArg List.length e
      rw [List.length_map, List.length_map] at this
      omega
    rw [e]
    refine J.seq ?_
    refine J.region ?_
    refine L.va rfl (X.assign (by conv => lhs; whnf)) ?_
    refine L.nil ?_
    refine J.ret ?_
    refine thn_ret <| ?_
    refine fin1 ?_
    exact ⟨rfl, Ext.refl _⟩
  · refine J.skip ?_
    refine J.seq ?_
    refine J.seq ?_
    refine J.region ?_
    refine L.va rfl (X.assign (by conv => lhs; whnf)) ?_
    refine L.nil ?_
    refine J.block ?_
    refine J.loop (X := Nat) [4, 5, 6, 12, 13, 14, 15, 16, 17, 18, 19, 20, 21, 22, 23, 24, 25, 26, 27, 28, 29, 30, 31, 32, 33, 34, 35, 36, 37, 38, 39, 40, 41, 42, 43, 44, 45, 46, 47, 48, 49, 50, 51, 52, 53, 54, 55, 56, 57, 58, 59, 60, 61, 62, 63, 64, 65, 66, 67, 68, 69, 70] (fun i => [(5, .int .i64 (i : Int))]) (fun i w' => i ≤ a.n ∧ (∀ j, j < i → (a.l.getD j fi0).key = (b.l.getD j fi0).key) ∧ Ext w w') (fun i => a.n - i) (0) (At1 (by first | rfl | exact at_int rfl (by omega) | exact at_slice rfl (by omega) | exact at_int rfl (by simp))) ?_ ?_
    · exact ⟨Nat.zero_le _, fun j hj => absurd hj (by omega), Ext.refl _⟩
    · rintro i g w3 ⟨hi, hP, he3⟩
      have z3 := he3.le
      have ha3 := ha.ext he3
      have hb3 := hb.ext he3
      refine J.seq ?_
      refine J.seq ?_
      refine J.region ?_
      refine L.va rfl (X.move (by conv => lhs; whnf)) ?_
      refine L.va rfl (X.move (by conv => lhs; whnf)) ?_
      refine L.va rfl (X.len rfl Try.underlying48) ?_
      refine L.va rfl (X.lss rfl rfl) ?_
      refine L.nil ?_
      refine J.dec rfl (fun hlt => ?_) (fun hlt => ?_)
      · have hin : i < a.n := by omega
        have hA := ha3.r.some_ (by omega)
        have hB := hb3.r.some_ (by omega)
        have hbad := keys_no (a := a.l) (b := b.l) (i := i) (by omega) (by omega)
        obtain ⟨x, hx⟩ : ∃ x, x = a.l.getD i fi0 := ⟨_, rfl⟩
        obtain ⟨y, hy⟩ : ∃ y, y = b.l.getD i fi0 := ⟨_, rfl⟩
        have hX := ha3.one hin
        have hY := hb3.one (i := i) (by omega)
        have gx := gtF (l := a.l) (i := i) (by omega)
        have gy := gtF (l := b.l) (i := i) (by omega)
        rw [← hx] at hX gx hbad
        rw [← hy] at hY gy hbad
        have mx := hX.m
        have my := hY.m
        have lx := hX.len
        have ly := hY.len
        unfold maxLen at mx my
        refine J.skip ?_
        refine J.seq ?_
        refine J.block ?_
        refine J.seq ?_
        refine J.seq ?_
        refine J.quiet mixed (by kernel_rfl) ?_
        refine Qt.va rfl (fun w' hw => X.move (by conv => lhs; whnf)) ?_
        refine Qt.va rfl (fun w' hw => X.move (by conv => lhs; whnf)) ?_
        refine Qt.va rfl (fun w' hw => (by first | exact X.indexAddrn rfl rfl Try.underlying48 sz_76 (by first | exact Option.some_ne_none _ | exact hA | exact hB) (by omega) | exact X.indexAddr rfl rfl Try.underlying48 sz_76 (by first | exact Option.some_ne_none _ | exact hA | exact hB) (by omega))) ?_
        refine Qt.va rfl (fun w' hw => X.fieldP rfl Try.underlying76 rfl sz_3 (by decide) (by first | exact Option.some_ne_none _ | exact hA | exact hB)) ?_
        refine Qt.va rfl (fun w' hw => X.load rfl sc_3 (by first | exact hA | exact hB | exact Ld.flat2 fi_len (ha3.r.ext hw) gx (r := 0) rfl | exact Ld.flat2 fi_len (ha3.r.ext hw) gx (r := 1) rfl | exact Ld.flat2 fi_len (hb3.r.ext hw) gy (r := 0) rfl | exact Ld.flat2 fi_len (hb3.r.ext hw) gy (r := 1) rfl)) ?_
        refine Qt.va rfl (fun w' hw => X.move (by conv => lhs; whnf)) ?_
        refine Qt.va rfl (fun w' hw => X.move (by conv => lhs; whnf)) ?_
        refine Qt.va rfl (fun w' hw => (by first | exact X.indexAddrn rfl rfl Try.underlying48 sz_76 (by first | exact Option.some_ne_none _ | exact hA | exact hB) (by omega) | exact X.indexAddr rfl rfl Try.underlying48 sz_76 (by first | exact Option.some_ne_none _ | exact hA | exact hB) (by omega))) ?_
        refine Qt.va rfl (fun w' hw => X.fieldP rfl Try.underlying76 rfl sz_3 (by decide) (by first | exact Option.some_ne_none _ | exact hA | exact hB)) ?_
        refine Qt.va rfl (fun w' hw => X.load rfl sc_3 (by first | exact hA | exact hB | exact Ld.flat2 fi_len (ha3.r.ext hw) gx (r := 0) rfl | exact Ld.flat2 fi_len (ha3.r.ext hw) gx (r := 1) rfl | exact Ld.flat2 fi_len (hb3.r.ext hw) gy (r := 0) rfl | exact Ld.flat2 fi_len (hb3.r.ext hw) gy (r := 1) rfl)) ?_
        refine Qt.va rfl (fun w' hw => X.neq rfl rfl) ?_
        refine Qt.va rfl (fun w' hw => X.move (by conv => lhs; whnf)) ?_
        refine Qt.caseNdec (k := 29) rfl (fun h2 => ?_) (fun h2 => ?_)
        · refine Qt.no rfl ?_
          refine Qt.no rfl ?_
          refine Qt.no rfl ?_
          refine Qt.no rfl ?_
          refine Qt.no rfl ?_
          refine Qt.no rfl ?_
          refine Qt.no rfl ?_
          refine Qt.no rfl ?_
          refine Qt.no rfl ?_
          refine Qt.no rfl ?_
          refine Qt.no rfl ?_
          refine Qt.no rfl ?_
          refine Qt.no rfl ?_
          refine Qt.va rfl (fun w' hw => X.pickT rfl (by conv => lhs; whnf)) ?_
          refine Qt.nil (fun w4 hq => ?_)
          refine J.iteT rfl ?_
          rw [hbad (fun e => by
            have e1 : x.d = y.d := congrArg Prod.fst e
            have e2 : x.l = y.l := congrArg Prod.snd e
            rw [e2] at lx
            omega)]
          refine J.seq ?_
          refine J.region ?_
          refine L.va rfl (X.assign (by conv => lhs; whnf)) ?_
          refine L.nil ?_
          refine J.ret ?_
          refine thn_ret <|  inB_ret <|  thn_ret <|  thn_ret <|  inB_ret <|  thn_ret <| ?_
          refine fin1 ?_
          exact ⟨rfl, he3.trans hq⟩
        refine Qt.va rfl (fun w' hw => X.move (by conv => lhs; whnf)) ?_
        refine Qt.va rfl (fun w' hw => X.move (by conv => lhs; whnf)) ?_
        refine Qt.va rfl (fun w' hw => (by first | exact X.indexAddrn rfl rfl Try.underlying48 sz_76 (by first | exact Option.some_ne_none _ | exact hA | exact hB) (by omega) | exact X.indexAddr rfl rfl Try.underlying48 sz_76 (by first | exact Option.some_ne_none _ | exact hA | exact hB) (by omega))) ?_
        refine Qt.va rfl (fun w' hw => X.fieldP rfl Try.underlying76 rfl sz_74 (by decide) (by first | exact Option.some_ne_none _ | exact hA | exact hB)) ?_
        refine Qt.va rfl (fun w' hw => X.load rfl sc_74 (by first | exact hA | exact hB | exact Ld.flat2 fi_len (ha3.r.ext hw) gx (r := 0) rfl | exact Ld.flat2 fi_len (ha3.r.ext hw) gx (r := 1) rfl | exact Ld.flat2 fi_len (hb3.r.ext hw) gy (r := 0) rfl | exact Ld.flat2 fi_len (hb3.r.ext hw) gy (r := 1) rfl)) ?_
        refine Qt.va rfl (fun w' hw => X.len rfl Try.underlying74) ?_
        refine Qt.va rfl (fun w' hw => X.move (by conv => lhs; whnf)) ?_
        refine Qt.va rfl (fun w' hw => X.move (by conv => lhs; whnf)) ?_
        refine Qt.va rfl (fun w' hw => (by first | exact X.indexAddrn rfl rfl Try.underlying48 sz_76 (by first | exact Option.some_ne_none _ | exact hA | exact hB) (by omega) | exact X.indexAddr rfl rfl Try.underlying48 sz_76 (by first | exact Option.some_ne_none _ | exact hA | exact hB) (by omega))) ?_
        refine Qt.va rfl (fun w' hw => X.fieldP rfl Try.underlying76 rfl sz_74 (by decide) (by first | exact Option.some_ne_none _ | exact hA | exact hB)) ?_
        refine Qt.va rfl (fun w' hw => X.load rfl sc_74 (by first | exact hA | exact hB | exact Ld.flat2 fi_len (ha3.r.ext hw) gx (r := 0) rfl | exact Ld.flat2 fi_len (ha3.r.ext hw) gx (r := 1) rfl | exact Ld.flat2 fi_len (hb3.r.ext hw) gy (r := 0) rfl | exact Ld.flat2 fi_len (hb3.r.ext hw) gy (r := 1) rfl)) ?_
        refine Qt.va rfl (fun w' hw => X.len rfl Try.underlying74) ?_
        refine Qt.va rfl (fun w' hw => X.neq rfl rfl) ?_
        refine Qt.va rfl (fun w' hw => X.pickF rfl (by conv => lhs; whnf)) ?_
        refine Qt.nil (fun w4 hq => ?_)
        refine J.ndec rfl (fun h3 => ?_) (fun h3 => ?_)
        · rw [hbad (fun e => by
            have e1 : x.d = y.d := congrArg Prod.fst e
            have e2 : x.l = y.l := congrArg Prod.snd e
            rw [e2] at lx
            omega)]
          refine J.seq ?_
          refine J.region ?_
          refine L.va rfl (X.assign (by conv => lhs; whnf)) ?_
          refine L.nil ?_
          refine J.ret ?_
          refine thn_ret <|  inB_ret <|  thn_ret <|  thn_ret <|  inB_ret <|  thn_ret <| ?_
          refine fin1 ?_
          exact ⟨rfl, he3.trans hq⟩
        have he4 := he3.trans hq
        have z4 := he4.le
        refine J.skip ?_
        refine J.seq ?_
        refine J.region ?_
        refine L.va rfl (X.assign (by conv => lhs; whnf)) ?_
        refine L.nil ?_
        refine J.block ?_
        refine J.loop (X := Nat) [4, 6, 44, 45, 46, 47, 48, 49, 50, 51, 52, 53, 54, 55, 56, 57, 58, 59, 60, 61, 62, 63, 64, 65, 66, 67, 68, 69, 70] (fun k => [(6, .int .i64 (k : Int))]) (fun k w' => k ≤ x.n ∧ (∀ j, j < k → x.l.getD j 0 = y.l.getD j 0) ∧ Ext w4 w') (fun k => x.n - k) (0) (At1 (by first | rfl | exact at_int rfl (by omega) | exact at_slice rfl (by omega) | exact at_int rfl (by simp))) ?_ ?_
        · exact ⟨Nat.zero_le _, fun j hj => absurd hj (by omega), Ext.refl _⟩
        · rintro k g w5 ⟨hk, hQ, he5⟩
          have ha5 := (ha3.ext hq).ext he5
          have hb5 := (hb3.ext hq).ext he5
          have r5 := (hX.ext hq).ext he5 |>.r
          have s5 := (hY.ext hq).ext he5 |>.r
          refine J.seq ?_
          refine J.seq ?_
          refine J.region ?_
          refine L.va rfl (X.move (by conv => lhs; whnf)) ?_
          refine L.va rfl (X.move (by conv => lhs; whnf)) ?_
          refine L.va rfl (X.move (by conv => lhs; whnf)) ?_
          refine L.va rfl ((by first | exact X.indexAddrn rfl rfl Try.underlying48 sz_76 (by first | exact Option.some_ne_none _ | exact r5.some_ (by omega) | exact s5.some_ (by omega) | exact hA | exact hB) (by omega) | exact X.indexAddr rfl rfl Try.underlying48 sz_76 (by first | exact Option.some_ne_none _ | exact r5.some_ (by omega) | exact s5.some_ (by omega) | exact hA | exact hB) (by omega))) ?_
          refine L.va rfl (X.fieldP rfl Try.underlying76 rfl sz_74 (by decide) (by first | exact Option.some_ne_none _ | exact r5.some_ (by omega) | exact s5.some_ (by omega) | exact hA | exact hB)) ?_
          refine L.va rfl (X.load rfl sc_74 (by first | exact Ld.num r5 (by omega) | exact Ld.num s5 (by omega) | exact hA | exact hB | exact Ld.flat2 fi_len ha5.r gx (r := 0) rfl | exact Ld.flat2 fi_len ha5.r gx (r := 1) rfl | exact Ld.flat2 fi_len hb5.r gy (r := 0) rfl | exact Ld.flat2 fi_len hb5.r gy (r := 1) rfl)) ?_
          refine L.va rfl (X.len rfl Try.underlying74) ?_
          refine L.va rfl (X.lss rfl rfl) ?_
          refine L.nil ?_
          refine J.dec rfl (fun hlt2 => ?_) (fun hlt2 => ?_)
          · have hA1 := r5.some_ (by omega)
            have hB1 := s5.some_ (by omega)
            refine J.skip ?_
            refine J.seq ?_
            refine J.block ?_
            refine J.seq ?_
            refine J.quiet mixed (by kernel_rfl) ?_
            refine Qt.va rfl (fun w' hw => X.move (by conv => lhs; whnf)) ?_
            refine Qt.va rfl (fun w' hw => X.move (by conv => lhs; whnf)) ?_
            refine Qt.va rfl (fun w' hw => (by first | exact X.indexAddrn rfl rfl Try.underlying48 sz_76 (by first | exact Option.some_ne_none _ | exact r5.some_ (by omega) | exact s5.some_ (by omega) | exact hA | exact hB | exact hA1 | exact hB1) (by omega) | exact X.indexAddr rfl rfl Try.underlying48 sz_76 (by first | exact Option.some_ne_none _ | exact r5.some_ (by omega) | exact s5.some_ (by omega) | exact hA | exact hB | exact hA1 | exact hB1) (by omega))) ?_
            refine Qt.va rfl (fun w' hw => X.fieldP rfl Try.underlying76 rfl sz_74 (by decide) (by first | exact Option.some_ne_none _ | exact r5.some_ (by omega) | exact s5.some_ (by omega) | exact hA | exact hB | exact hA1 | exact hB1)) ?_
            refine Qt.va rfl (fun w' hw => X.load rfl sc_74 (by first | exact Ld.num (r5.ext hw) (by omega) | exact Ld.num (s5.ext hw) (by omega) | exact hA | exact hB | exact hA1 | exact hB1 | exact Ld.flat2 fi_len (ha5.r.ext hw) gx (r := 1) rfl | exact Ld.flat2 fi_len (hb5.r.ext hw) gy (r := 1) rfl)) ?_
            refine Qt.va rfl (fun w' hw => X.move (by conv => lhs; whnf)) ?_
            refine Qt.va rfl (fun w' hw => (by first | exact X.index1n rfl rfl Try.underlying74 sz_3 (by first | exact Option.some_ne_none _ | exact r5.some_ (by omega) | exact s5.some_ (by omega) | exact hA | exact hB | exact hA1 | exact hB1) (by omega) | exact X.index1 rfl rfl Try.underlying74 sz_3 (by first | exact Option.some_ne_none _ | exact r5.some_ (by omega) | exact s5.some_ (by omega) | exact hA | exact hB | exact hA1 | exact hB1) (by omega))) ?_
            refine Qt.va rfl (fun w' hw => X.load rfl sc_3 (by first | exact Ld.num (r5.ext hw) (by omega) | exact Ld.num (s5.ext hw) (by omega) | exact hA | exact hB | exact hA1 | exact hB1 | exact Ld.flat2 fi_len (ha5.r.ext hw) gx (r := 1) rfl | exact Ld.flat2 fi_len (hb5.r.ext hw) gy (r := 1) rfl)) ?_
            refine Qt.va rfl (fun w' hw => X.move (by conv => lhs; whnf)) ?_
            refine Qt.va rfl (fun w' hw => X.move (by conv => lhs; whnf)) ?_
            refine Qt.va rfl (fun w' hw => (by first | exact X.indexAddrn rfl rfl Try.underlying48 sz_76 (by first | exact Option.some_ne_none _ | exact r5.some_ (by omega) | exact s5.some_ (by omega) | exact hA | exact hB | exact hA1 | exact hB1) (by omega) | exact X.indexAddr rfl rfl Try.underlying48 sz_76 (by first | exact Option.some_ne_none _ | exact r5.some_ (by omega) | exact s5.some_ (by omega) | exact hA | exact hB | exact hA1 | exact hB1) (by omega))) ?_
            refine Qt.va rfl (fun w' hw => X.fieldP rfl Try.underlying76 rfl sz_74 (by decide) (by first | exact Option.some_ne_none _ | exact r5.some_ (by omega) | exact s5.some_ (by omega) | exact hA | exact hB | exact hA1 | exact hB1)) ?_
            refine Qt.va rfl (fun w' hw => X.load rfl sc_74 (by first | exact Ld.num (r5.ext hw) (by omega) | exact Ld.num (s5.ext hw) (by omega) | exact hA | exact hB | exact hA1 | exact hB1 | exact Ld.flat2 fi_len (ha5.r.ext hw) gx (r := 1) rfl | exact Ld.flat2 fi_len (hb5.r.ext hw) gy (r := 1) rfl)) ?_
            refine Qt.va rfl (fun w' hw => X.move (by conv => lhs; whnf)) ?_
            refine Qt.va rfl (fun w' hw => (by first | exact X.index1n rfl rfl Try.underlying74 sz_3 (by first | exact Option.some_ne_none _ | exact r5.some_ (by omega) | exact s5.some_ (by omega) | exact hA | exact hB | exact hA1 | exact hB1) (by omega) | exact X.index1 rfl rfl Try.underlying74 sz_3 (by first | exact Option.some_ne_none _ | exact r5.some_ (by omega) | exact s5.some_ (by omega) | exact hA | exact hB | exact hA1 | exact hB1) (by omega))) ?_
            refine Qt.va rfl (fun w' hw => X.load rfl sc_3 (by first | exact Ld.num (r5.ext hw) (by omega) | exact Ld.num (s5.ext hw) (by omega) | exact hA | exact hB | exact hA1 | exact hB1 | exact Ld.flat2 fi_len (ha5.r.ext hw) gx (r := 1) rfl | exact Ld.flat2 fi_len (hb5.r.ext hw) gy (r := 1) rfl)) ?_
            refine Qt.va rfl (fun w' hw => X.neq rfl rfl) ?_
            refine Qt.nil (fun w6 hq6 => ?_)
            replace r5 := r5.ext hq6
            replace s5 := s5.ext hq6
            refine J.ndec rfl (fun hne => ?_) (fun hne => ?_)
            · rw [hbad (fun e => hne (by have e2 : x.l = y.l := congrArg Prod.snd e; rw [e2]))]
              refine J.seq ?_
              refine J.region ?_
              refine L.va rfl (X.assign (by conv => lhs; whnf)) ?_
              refine L.nil ?_
              refine J.ret ?_
              refine inB_ret <|  thn_ret <|  thn_ret <|  inB_ret <|  inB_ret <|  thn_ret <|  thn_ret <|  inB_ret <|  thn_ret <| ?_
              refine fin1 ?_
              exact ⟨rfl, (he4.trans he5).trans hq6⟩
            · skip
              refine J.skip ?_
              refine J.region ?_
              refine L.va rfl (X.move (by conv => lhs; whnf)) ?_
              refine L.va rfl (X.add rfl rfl (by omega)) ?_
              refine L.va rfl (X.assign (by conv => lhs; whnf)) ?_
              refine L.nil ?_
              refine ⟨k + 1, At1 (by first | rfl | exact at_int rfl (by omega) | exact at_slice rfl (by omega) | exact at_int rfl (by simp)), (by (iterate 28 refine Agr.lk rfl ?_); exact Agr.lk rfl (Agr.hav rfl Agr.rfl')), ?_⟩
              refine ⟨⟨by omega, fun j hj => ?_, he5.trans hq6⟩, by omega⟩
              rcases Nat.lt_or_ge j k with h | h
              · exact hQ j h
              · obtain rfl : j = k := by omega
                exact hne
          · skip
            refine J.exit ?_
            refine J.region ?_
            refine L.va rfl (X.move (by conv => lhs; whnf)) ?_
            refine L.va rfl (X.add rfl rfl (by omega)) ?_
            refine L.va rfl (X.assign (by conv => lhs; whnf)) ?_
            refine L.nil ?_
            refine ⟨i + 1, At1 (by first | rfl | exact at_int rfl (by omega) | exact at_slice rfl (by omega) | exact at_int rfl (by simp)), (by (iterate 11 refine Agr.lk rfl ?_); refine Agr.lk rfl ?_; refine Agr.hav rfl ?_; (iterate 32 refine Agr.lk rfl ?_); exact Agr.lk rfl (Agr.hav rfl Agr.rfl')), ?_⟩
            refine ⟨⟨by omega, fun j hj => ?_, he4.trans he5⟩, by omega⟩
            rcases Nat.lt_or_ge j i with h | h
            · exact hP j h
            · obtain rfl : j = i := by omega
              rw [← hx, ← hy]
              have e1 : x.d = y.d := by omega
              have e2 : x.l = y.l := List.ext_getElem (by omega) fun q h1 h2 => by
                have := hQ q (by omega)
                rw [List.getD, List.getD, List.getElem?_eq_getElem h1, List.getElem?_eq_getElem h2] at this
                exact this
              show (x.d, x.l) = (y.d, y.l)
              rw [e1, e2]
      · rw [keys_all (by omega) (fun j hj => hP j (by omega))]
        refine J.exit ?_
        refine J.seq ?_
        refine J.region ?_
        refine L.va rfl (X.assign (by conv => lhs; whnf)) ?_
        refine L.nil ?_
        refine J.ret ?_
        refine fin1 ?_
        exact ⟨rfl, he3⟩
end Go.Proofs.Ytpomklkfedpkfaa
namespace Go.Proofs.Ytpomklkfedpkfaa
set_option maxRecDepth 100000
open Go.RowKit H
set_option linter.unusedVariables false
theorem fis_of {w : World} {B n c : Nat} {A : Option Addr} {xs : List ((Nm .i64) × (List (Nm .i64)))} (h : LiesSlice w B A n xs) (hm : n ≤ maxLen) : ∃ l : List Fi, (Fis.mk A n c l).At B w := by
  obtain ⟨l, h1, h2, h3⟩ := h.rows (X := Fi) (f := Fi.vs) (g := fun r => r.At B w) (fun _ => rfl) (fun us a hl => by
    obtain ⟨u1, u2, rfl, k1, ⟨A, n, c, rfl, hn, hc, _, hl⟩⟩ := hl
    exact ⟨⟨a.1.z, A, n, c, zsOf a.2⟩, by rw [show u1 = [.int .i64 a.1.z] from k1]; rfl, hl.reads, Nat.le_trans hn hc⟩)
  exact ⟨l, h2, h3, h1, hm⟩
end Go.Proofs.Ytpomklkfedpkfaa
namespace Go.Proofs.Ytpomklkfedpkfaa
set_option maxRecDepth 100000
open Go.RowKit H
open Nrm (nrm)
set_option linter.unusedVariables false
abbrev sC (b1 : Nat) : Sch := ⟨some ⟨b1, 0, none⟩, 1, 1, none, 0, 0, none, 0, 0, none, 0, 0, [(aA, 4)], [], [], []⟩
theorem sC_code (b1 : Nat) : (sC b1).code = 0 := by
  show chk 1 0 0 0 [(aA, 4)] [] [] [] = 0
  decide +kernel
theorem sC_here (b1 : Nat) {w : World} (h1 : Blk w b1 78 (dimsV [(aA, 4)]).toArray) : (sC b1).Here w :=
  ⟨blk_readsN h1 h1.lt rfl, Reads.none_, Reads.none_, Reads.none_, fun i => ⟨by simp, by simp⟩, (show 1 ≤ 100 ∧ 0 ≤ 100 ∧ 0 ≤ 100 ∧ 0 ≤ 100 by decide)⟩
theorem sC_szs (b1 : Nat) : szs (sC b1) (sC b1).nd = [4] := rfl
theorem fcode_ok {s : Sch} {f : Fis} (hc : s.code = 0) (hn : f.n ≤ 20) (h : ∀ x, x ∈ f.l → fE s x = 0) : fcode s f = 0 := by
  unfold fcode
  rw [if_neg (fun k => k hc), if_neg (by omega)]
  exact fst_0 (d := fi0) fun j hj => h _ (memF hj)
abbrev fC (b2 b3 b4 : Nat) : Fis := ⟨some ⟨b4, 0, none⟩, 2, 2, [⟨0, some ⟨b2, 0, none⟩, 2, 2, [1, 2]⟩, ⟨0, some ⟨b3, 0, none⟩, 2, 2, [3, 2]⟩]⟩
abbrev fC4 (b2 b3 : Nat) : Fis := ⟨some ⟨b3, 0, none⟩, 1, 1, [⟨0, some ⟨b2, 0, none⟩, 4, 4, [0, 1, 3, 2]⟩]⟩
abbrev fC1 (b2 b3 : Nat) : Fis := ⟨some ⟨b3, 0, none⟩, 1, 1, [⟨0, some ⟨b2, 0, none⟩, 1, 1, [2]⟩]⟩
theorem fEC (b1 : Nat) {A : Option Addr} {n c : Nat} {l : List Int} (hn : n ≤ 4) (h : ∀ i, i < n → 0 ≤ l.getD i 0 ∧ l.getD i 0 < 4) : fE (sC b1) ⟨0, A, n, c, l⟩ = 0 :=
  fE_0 (show ¬ ((0 : Int) < 0 ∨ (1 : Int) ≤ 0) by decide) (show ¬ 4096 < n by omega) (fun i hi => h i hi)
theorem fC_code (b1 b2 b3 b4 : Nat) : fcode (sC b1) (fC b2 b3 b4) = 0 :=
  fcode_ok (sC_code b1) (show 2 ≤ 20 by decide) (by
    intro x hx
    rcases List.mem_cons.1 hx with rfl | hx
    · exact fEC b1 (by decide) (by decide)
    · rcases List.mem_cons.1 hx with rfl | hx
      · exact fEC b1 (by decide) (by decide)
      · cases hx)
theorem fC4_code (b1 b2 b3 : Nat) : fcode (sC b1) (fC4 b2 b3) = 0 :=
  fcode_ok (sC_code b1) (show 1 ≤ 20 by decide) (by
    intro x hx
    rcases List.mem_cons.1 hx with rfl | hx
    · exact fEC b1 (by decide) (by decide)
    · cases hx)
theorem fC_nrm : nrm [(0, [1, 2]), (0, [3, 2])] 0 [4] = [(0, [2])] := by decide +kernel
theorem fC4_nrm : nrm [(0, [0, 1, 3, 2])] 0 [4] = [] := by decide +kernel
theorem awake28 (w : World) : Calls Try.prog 16 #[] w fun e w' => e = .returned (.bool true) ∧ Ext w w' := by
  refine enter Try.func16 rfl (by kernel_rfl) ?_
  refine J.seq ?_
  refine J.region ?_
  refine L.va rfl (X.assign (by conv => lhs; whnf)) ?_
  refine L.nil ?_
  refine J.seq ?_
  refine J.region ?_
  refine L.va rfl (X.build (l := [_, _]) (Evs.cons (by conv => lhs; whnf) (Evs.cons (by conv => lhs; whnf) Evs.nil)) (bld_run Try.underlying78 (bp_78 Try.underlying78) zr_78 rfl)) ?_
  refine L.bslice1 (l := [_, _]) rfl rfl rfl Try.underlying43 sz_78 zr_78 rfl ?_
  intro b1 w1 hb1 hs1 hk1 he1
  refine L.va rfl (X.build (l := [_, _, _, _]) (Evs.cons (by conv => lhs; whnf) Evs.nil) (bld_run Try.underlying47 (bp_47 Try.underlying47) zr_47 rfl)) ?_
  refine L.alloc rfl zr_47 ?_
  intro b2 w2 hb2 hs2 hk2 he2
  refine L.storeAgg (vs := [_, _, _, _]) rfl rfl rfl rfl sz_47 (hk2) rfl ?_
  intro w3 hk3 hg3 hs3
  have he13 : Ext w1 w3 := he2.grw hg3 (by intro g hg; injection hg with hg; omega)
  have he03 := he1.trans he13
  have hk13 := hk1.ext he13
  have H3 : (sC b1).Here w3 := sC_here b1 hk13
  refine L.nil ?_
  refine J.seq ?_
  refine J.region ?_
  refine L.va rfl ((by first | exact X.loadAgg rfl (range_l hk3) Try.underlying47 rfl (by kernel_rfl) | exact X.loadAgg rfl (range_blk hk3) Try.underlying47 rfl (by kernel_rfl))) ?_
  refine L.bslice (vs := [_, _]) rfl (Evs.cons (by conv => lhs; whnf) (Evs.cons (by conv => lhs; whnf) Evs.nil)) rfl rfl rfl rfl Try.underlying74 sz_3 zr_3 (by decide) ?_
  intro b4 w4 hb4 hs4 hk4 he4
  refine L.va rfl (X.build (l := [_, _]) (Evs.cons (by conv => lhs; whnf) Evs.nil) (bld_run Try.underlying76 (bp_76 Try.underlying76) zr_76 rfl)) ?_
  refine L.bslice (vs := [_, _]) rfl (Evs.cons (by conv => lhs; whnf) (Evs.cons (by conv => lhs; whnf) Evs.nil)) rfl rfl rfl rfl Try.underlying74 sz_3 zr_3 (by decide) ?_
  intro b5 w5 hb5 hs5 hk5 he5
  refine L.va rfl (X.build (l := [_, _]) (Evs.cons (by conv => lhs; whnf) Evs.nil) (bld_run Try.underlying76 (bp_76 Try.underlying76) zr_76 rfl)) ?_
  refine L.bsliceR (ls := [[_, _], [_, _]]) rfl (Evs.cons (by conv => lhs; whnf) (Evs.cons (by conv => lhs; whnf) Evs.nil)) rfl rfl rfl rfl Try.underlying48 sz_76 zr_76 (by decide) ?_
  intro b6 w6 hb6 hs6 hk6 he6
  have he46 := he5.trans he6
  have he36 := he4.trans he46
  have hk46 := hk4.ext he46
  have hk56 := hk5.ext he6
  have q6 : (fC b4 b5 b6).At w6.heap.size w6 := ⟨blk_readsN hk6 hk6.lt rfl, (fun x hx => by
    rcases List.mem_cons.1 hx with rfl | hx
    · exact ⟨blk_reads hk46 hk46.lt rfl, (show 2 ≤ maxLen by decide)⟩
    · rcases List.mem_cons.1 hx with rfl | hx
      · exact ⟨blk_reads hk56 hk56.lt rfl, (show 2 ≤ maxLen by decide)⟩
      · cases hx), rfl, (show 2 ≤ maxLen by decide)⟩
  replace hk3 := hk3.ext he36
  have c1 := fnorm_ok (H3.ext he36) q6 (fC_code b1 b4 b5 b6)
  refine L.call rfl en_33 rfl (c1) ?_
  rintro e w7 ⟨r, rfl, hr, hrk, he7⟩
  refine ⟨_, rfl, ?_⟩
  rw [sC_szs] at hrk
  have hrk : r.l.map Fi.key = [(0, [2])] := hrk.trans fC_nrm
  have he37 := he36.trans he7
  have hr7 := hr.at
  replace hk3 := hk3.ext he7
  refine L.va rfl (X.move (by conv => lhs; whnf)) ?_
  refine L.va rfl (X.extract rfl rfl) ?_
  refine L.va rfl (X.extract rfl rfl) ?_
  refine L.va rfl (X.assign (by conv => lhs; whnf)) ?_
  refine L.va rfl (X.assign (by conv => lhs; whnf)) ?_
  refine L.nil ?_
  refine J.seq ?_
  refine J.region ?_
  refine L.va rfl ((by first | exact X.loadAgg rfl (range_l hk3) Try.underlying47 rfl (by kernel_rfl) | exact X.loadAgg rfl (range_blk hk3) Try.underlying47 rfl (by kernel_rfl))) ?_
  refine L.bslice (vs := [_, _, _, _]) rfl (Evs.cons (by conv => lhs; whnf) (Evs.cons (by conv => lhs; whnf) (Evs.cons (by conv => lhs; whnf) (Evs.cons (by conv => lhs; whnf) Evs.nil)))) rfl rfl rfl rfl Try.underlying74 sz_3 zr_3 (by decide) ?_
  intro b8 w8 hb8 hs8 hk8 he8
  refine L.va rfl (X.build (l := [_, _]) (Evs.cons (by conv => lhs; whnf) Evs.nil) (bld_run Try.underlying76 (bp_76 Try.underlying76) zr_76 rfl)) ?_
  refine L.bslice1 (l := [_, _]) rfl rfl rfl Try.underlying48 sz_76 zr_76 rfl ?_
  intro b9 w9 hb9 hs9 hk9 he9
  have he39 := (he37.trans he8).trans he9
  have hk89 := hk8.ext he9
  have q9 : (fC4 b8 b9).At w9.heap.size w9 := ⟨blk_readsN hk9 hk9.lt rfl, (fun x hx => by
    rcases List.mem_cons.1 hx with rfl | hx
    · exact ⟨blk_reads hk89 hk89.lt rfl, (show 4 ≤ maxLen by decide)⟩
    · cases hx), rfl, (show 1 ≤ maxLen by decide)⟩
  have c2 := fnorm_ok (H3.ext he39) q9 (fC4_code b1 b8 b9)
  have he79 := he8.trans he9
  replace hk3 := hk3.ext he79
  refine L.call rfl en_33 rfl (c2) ?_
  rintro e wa ⟨r2, rfl, hr2, hrk2, hea⟩
  refine ⟨_, rfl, ?_⟩
  rw [sC_szs] at hrk2
  have hrk2 : r2.l.map Fi.key = [] := hrk2.trans fC4_nrm
  obtain ⟨A2, n2, d2, l2⟩ := r2
  have hn2 : n2 = 0 := by
    have := hr2.l
    rw [show l2 = [] from List.map_eq_nil_iff.1 hrk2] at this
    exact this.symm
  have he3a := he39.trans hea
  have hra := hr7.ext ((he8.trans he9).trans hea)
  subst hn2
  refine L.va rfl (X.move (by conv => lhs; whnf)) ?_
  refine L.va rfl (X.extract rfl rfl) ?_
  refine L.va rfl (X.extract rfl rfl) ?_
  refine L.va rfl (X.assign (by conv => lhs; whnf)) ?_
  refine L.va rfl (X.assign (by conv => lhs; whnf)) ?_
  refine L.nil ?_
  refine J.seq ?_
  refine J.region ?_
  refine L.va rfl (X.move (by conv => lhs; whnf)) ?_
  refine L.va rfl (X.eql rfl rfl) ?_
  refine L.va rfl (X.move (by conv => lhs; whnf)) ?_
  refine L.caseDecT (k := 29) rfl (by rfl) ?_
  refine L.va rfl (X.move (by conv => lhs; whnf)) ?_
  refine L.bslice (vs := [_]) rfl (Evs.cons (by conv => lhs; whnf) Evs.nil) rfl rfl rfl rfl Try.underlying74 sz_3 zr_3 (by decide) ?_
  intro bb wb hbb hsb hkb heb
  refine L.va rfl (X.build (l := [_, _]) (Evs.cons (by conv => lhs; whnf) Evs.nil) (bld_run Try.underlying76 (bp_76 Try.underlying76) zr_76 rfl)) ?_
  refine L.bslice1 (l := [_, _]) rfl rfl rfl Try.underlying48 sz_76 zr_76 rfl ?_
  intro bc wc hbc hsc hkc hec
  have hkbc := hkb.ext hec
  have heac := heb.trans hec
  have qc : (fC1 bb bc).At wc.heap.size wc := ⟨blk_readsN hkc hkc.lt rfl, (fun x hx => by
    rcases List.mem_cons.1 hx with rfl | hx
    · exact ⟨blk_reads hkbc hkbc.lt rfl, (show 1 ≤ maxLen by decide)⟩
    · cases hx), rfl, (show 1 ≤ maxLen by decide)⟩
  have c3 := rsame28 ((hra.ext heac).more (((he8.trans he9).trans hea).trans heac).le) qc
  rw [hrk] at c3
  refine L.call rfl en_34 rfl (c3) ?_
  rintro e wd ⟨rfl, hed⟩
  refine ⟨_, rfl, ?_⟩
  refine L.va rfl (X.pickT rfl (by conv => lhs; whnf)) ?_
  refine L.va rfl (X.move (by conv => lhs; whnf)) ?_
  refine L.caseBT (k := 36) rfl (by rfl) ?_
  refine L.va rfl (X.move (by conv => lhs; whnf)) ?_
  refine L.va rfl (X.eql rfl rfl) ?_
  refine L.va rfl (X.pickT rfl (by conv => lhs; whnf)) ?_
  refine L.va rfl (X.move (by conv => lhs; whnf)) ?_
  refine L.caseDecT (k := 40) rfl (by rfl) ?_
  refine L.va rfl (X.move (by conv => lhs; whnf)) ?_
  refine L.va rfl (X.len rfl Try.underlying48) ?_
  refine L.va rfl (X.eql rfl rfl) ?_
  refine L.va rfl (X.pickT rfl (by conv => lhs; whnf)) ?_
  refine L.va rfl (X.assign (by conv => lhs; whnf)) ?_
  refine L.nil ?_
  refine J.ret ?_
  refine fin1 ?_
  exact ⟨rfl, (((he03.trans he3a).trans heac).trans hed)⟩
end Go.Proofs.Ytpomklkfedpkfaa
namespace Go.Proofs.Ytpomklkfedpkfaa
set_option maxRecDepth 100000
open Go.RowKit H
set_option linter.unusedVariables false
theorem light28 (f : Fis) (w : World) (hf : f.At w.heap.size w) : Calls Try.prog 15 #[f.val] w fun e w' => (∃ b, e = .returned (.bool b)) ∧ w = w' := by
  have hl := hf.l
  have hm := hf.m
  unfold maxLen at hm
  refine enter Try.func15 rfl (by kernel_rfl) ?_
  refine J.seq ?_
  refine J.region ?_
  refine L.va rfl (X.assign (by conv => lhs; whnf)) ?_
  refine L.nil ?_
  refine J.seq ?_
  refine J.seq ?_
  refine J.region ?_
  refine L.va rfl (X.move (by conv => lhs; whnf)) ?_
  refine L.va rfl (X.len rfl Try.underlying48) ?_
  refine L.va rfl (X.gtr rfl rfl) ?_
  refine L.nil ?_
  refine J.dec rfl (fun h1 => ?_) (fun h1 => ?_)
  · refine J.seq ?_
    refine J.region ?_
    refine L.va rfl (X.assign (by conv => lhs; whnf)) ?_
    refine L.nil ?_
    refine J.ret ?_
    refine thn_ret <| ?_
    refine fin1 ?_
    exact ⟨⟨_, rfl⟩, rfl⟩
  · refine J.skip ?_
    refine J.seq ?_
    refine J.seq ?_
    refine J.region ?_
    refine L.va rfl (X.assign (by conv => lhs; whnf)) ?_
    refine L.nil ?_
    refine J.block ?_
    refine J.loop (X := Nat) [2, 3, 7, 8, 9, 10, 11, 12, 13, 14, 15, 16, 17, 18, 19, 20, 21, 22, 23, 24, 25, 26, 27, 28, 29, 30, 31, 32, 33, 34, 35, 36, 37] (fun i => [(3, .int .i64 (i : Int))]) (fun i w' => w' = w ∧ i ≤ f.n) (fun i => f.n - i) (0) (At1 (by first | rfl | exact at_int rfl (by omega) | exact at_slice rfl (by omega) | exact at_int rfl (by simp))) ?_ ?_
    · exact ⟨rfl, Nat.zero_le _⟩
    · rintro i g w1 ⟨rfl, hi⟩
      refine J.seq ?_
      refine J.seq ?_
      refine J.region ?_
      refine L.va rfl (X.move (by conv => lhs; whnf)) ?_
      refine L.va rfl (X.move (by conv => lhs; whnf)) ?_
      refine L.va rfl (X.len rfl Try.underlying48) ?_
      refine L.va rfl (X.lss rfl rfl) ?_
      refine L.nil ?_
      refine J.dec rfl (fun hlt => ?_) (fun hlt => ?_)
      · have hA := hf.r.some_ (by omega)
        obtain ⟨x, hx⟩ : ∃ x, x = f.l.getD i fi0 := ⟨_, rfl⟩
        have hgt := gtF (l := f.l) (i := i) (by omega)
        rw [← hx] at hgt
        refine J.skip ?_
        refine J.seq ?_
        refine J.block ?_
        refine J.seq ?_
        refine J.region ?_
        refine L.va rfl (X.move (by conv => lhs; whnf)) ?_
        refine L.va rfl (X.move (by conv => lhs; whnf)) ?_
        refine L.va rfl ((by first | exact X.indexAddrn rfl rfl Try.underlying48 sz_76 (by first | exact Option.some_ne_none _ | exact hA) (by omega) | exact X.indexAddr rfl rfl Try.underlying48 sz_76 (by first | exact Option.some_ne_none _ | exact hA) (by omega))) ?_
        refine L.va rfl (X.fieldP rfl Try.underlying76 rfl sz_74 (by decide) (by first | exact Option.some_ne_none _ | exact hA)) ?_
        refine L.va rfl (X.load rfl sc_74 (by first | exact hA | exact Ld.flat2 fi_len hf.r hgt (r := 1) rfl)) ?_
        refine L.va rfl (X.len rfl Try.underlying74) ?_
        refine L.va rfl (X.gtr rfl rfl) ?_
        refine L.va rfl (X.move (by conv => lhs; whnf)) ?_
        refine L.caseDec (k := 20) rfl (fun h2 => ?_) (fun h2 => ?_)
        · refine L.va rfl (X.move (by conv => lhs; whnf)) ?_
          refine L.va rfl (X.move (by conv => lhs; whnf)) ?_
          refine L.va rfl ((by first | exact X.indexAddrn rfl rfl Try.underlying48 sz_76 (by first | exact Option.some_ne_none _ | exact hA) (by omega) | exact X.indexAddr rfl rfl Try.underlying48 sz_76 (by first | exact Option.some_ne_none _ | exact hA) (by omega))) ?_
          refine L.va rfl (X.fieldP rfl Try.underlying76 rfl sz_74 (by decide) (by first | exact Option.some_ne_none _ | exact hA)) ?_
          refine L.va rfl (X.load rfl sc_74 (by first | exact hA | exact Ld.flat2 fi_len hf.r hgt (r := 1) rfl)) ?_
          refine L.va rfl (X.len rfl Try.underlying74) ?_
          refine L.va rfl (X.leq rfl rfl) ?_
          refine L.va rfl (X.pickT rfl (by conv => lhs; whnf)) ?_
          refine L.va rfl (X.move (by conv => lhs; whnf)) ?_
          refine L.caseDec (k := 29) rfl (fun h3 => ?_) (fun h3 => ?_)
          · refine L.no rfl ?_
            refine L.no rfl ?_
            refine L.no rfl ?_
            refine L.no rfl ?_
            refine L.no rfl ?_
            refine L.no rfl ?_
            refine L.no rfl ?_
            refine L.va rfl (X.pickT rfl (by conv => lhs; whnf)) ?_
            refine L.nil ?_
            refine J.iteT rfl ?_
            refine J.seq ?_
            refine J.region ?_
            refine L.va rfl (X.assign (by conv => lhs; whnf)) ?_
            refine L.nil ?_
            refine J.ret ?_
            refine inB_ret <|  thn_ret <|  thn_ret <|  inB_ret <|  thn_ret <| ?_
            refine fin1 ?_
            exact ⟨⟨_, rfl⟩, rfl⟩
          · refine L.va rfl (X.move (by conv => lhs; whnf)) ?_
            refine L.va rfl (X.move (by conv => lhs; whnf)) ?_
            refine L.va rfl ((by first | exact X.indexAddrn rfl rfl Try.underlying48 sz_76 (by first | exact Option.some_ne_none _ | exact hA) (by omega) | exact X.indexAddr rfl rfl Try.underlying48 sz_76 (by first | exact Option.some_ne_none _ | exact hA) (by omega))) ?_
            refine L.va rfl (X.fieldP rfl Try.underlying76 rfl sz_74 (by decide) (by first | exact Option.some_ne_none _ | exact hA)) ?_
            refine L.va rfl (X.load rfl sc_74 (by first | exact hA | exact Ld.flat2 fi_len hf.r hgt (r := 1) rfl)) ?_
            refine L.va rfl (X.len rfl Try.underlying74) ?_
            refine L.va rfl (X.gtr rfl rfl) ?_
            refine L.va rfl (X.pickF rfl (by conv => lhs; whnf)) ?_
            refine L.nil ?_
            refine J.dec rfl (fun h4 => ?_) (fun h4 => ?_)
            · refine J.seq ?_
              refine J.region ?_
              refine L.va rfl (X.assign (by conv => lhs; whnf)) ?_
              refine L.nil ?_
              refine J.ret ?_
              refine inB_ret <|  thn_ret <|  thn_ret <|  inB_ret <|  thn_ret <| ?_
              refine fin1 ?_
              exact ⟨⟨_, rfl⟩, rfl⟩
            · refine J.skip ?_
              refine J.region ?_
              refine L.va rfl (X.move (by conv => lhs; whnf)) ?_
              refine L.va rfl (X.add rfl rfl (by omega)) ?_
              refine L.va rfl (X.assign (by conv => lhs; whnf)) ?_
              refine L.nil ?_
              refine ⟨i + 1, At1 (by first | rfl | exact at_int rfl (by omega) | exact at_slice rfl (by omega) | exact at_int rfl (by simp)), (by (iterate 34 refine Agr.lk rfl ?_); exact Agr.lk rfl (Agr.hav rfl Agr.rfl')), ?_⟩
              exact ⟨⟨rfl, by omega⟩, by omega⟩
        · refine L.no rfl ?_
          refine L.no rfl ?_
          refine L.no rfl ?_
          refine L.no rfl ?_
          refine L.no rfl ?_
          refine L.no rfl ?_
          refine L.no rfl ?_
          refine L.va rfl (X.pickF rfl (by conv => lhs; whnf)) ?_
          refine L.va rfl (X.move (by conv => lhs; whnf)) ?_
          refine L.va rfl (X.move (by conv => lhs; whnf)) ?_
          refine L.va rfl (X.move (by conv => lhs; whnf)) ?_
          refine L.va rfl ((by first | exact X.indexAddrn rfl rfl Try.underlying48 sz_76 (by first | exact Option.some_ne_none _ | exact hA) (by omega) | exact X.indexAddr rfl rfl Try.underlying48 sz_76 (by first | exact Option.some_ne_none _ | exact hA) (by omega))) ?_
          refine L.va rfl (X.fieldP rfl Try.underlying76 rfl sz_74 (by decide) (by first | exact Option.some_ne_none _ | exact hA)) ?_
          refine L.va rfl (X.load rfl sc_74 (by first | exact hA | exact Ld.flat2 fi_len hf.r hgt (r := 1) rfl)) ?_
          refine L.va rfl (X.len rfl Try.underlying74) ?_
          refine L.va rfl (X.gtr rfl rfl) ?_
          refine L.va rfl (X.pickF rfl (by conv => lhs; whnf)) ?_
          refine L.nil ?_
          refine J.dec rfl (fun h4 => ?_) (fun h4 => ?_)
          · refine J.seq ?_
            refine J.region ?_
            refine L.va rfl (X.assign (by conv => lhs; whnf)) ?_
            refine L.nil ?_
            refine J.ret ?_
            refine inB_ret <|  thn_ret <|  thn_ret <|  inB_ret <|  thn_ret <| ?_
            refine fin1 ?_
            exact ⟨⟨_, rfl⟩, rfl⟩
          · refine J.skip ?_
            refine J.region ?_
            refine L.va rfl (X.move (by conv => lhs; whnf)) ?_
            refine L.va rfl (X.add rfl rfl (by omega)) ?_
            refine L.va rfl (X.assign (by conv => lhs; whnf)) ?_
            refine L.nil ?_
            refine ⟨i + 1, At1 (by first | rfl | exact at_int rfl (by omega) | exact at_slice rfl (by omega) | exact at_int rfl (by simp)), (by (iterate 33 refine Agr.lk rfl ?_); exact Agr.lk rfl (Agr.hav rfl Agr.rfl')), ?_⟩
            exact ⟨⟨rfl, by omega⟩, by omega⟩
      · refine J.exit ?_
        refine J.seq ?_
        refine J.region ?_
        refine L.va rfl (X.assign (by conv => lhs; whnf)) ?_
        refine L.nil ?_
        refine J.ret ?_
        refine fin1 ?_
        exact ⟨⟨_, rfl⟩, rfl⟩
end Go.Proofs.Ytpomklkfedpkfaa
namespace Go.Proofs.Ytpomklkfedpkfaa
set_option maxRecDepth 100000
open Go.RowKit H
set_option linter.unusedVariables false
theorem zsOf_u32b (xs : List (Nm .u32)) : InB 4294967296 (zsOf xs) := by
  intro z hz
  unfold zsOf at hz
  obtain ⟨a, _, rfl⟩ := List.mem_map.1 hz
  exact a.u32
theorem zsOf_u8b (xs : List (Nm .u8)) : InB 256 (zsOf xs) := zsOf_u8 xs
theorem flB (x : Fl) : x.b < 18446744073709551616 := of_decide_eq_true x.ok
abbrev WhT := (Nm .i64) × (Nm .i64) × (List (Nm .u32)) × (Nm .i64) × (Nm .i64)
abbrev ReT := (List (Nm .u8)) × (Fl) × (Fl)
abbrev CeT := (Nm .u64) × (Nm .i64) × (List WhT) × (List ReT)
theorem whs_of {w : World} {B n : Nat} {A : Option Addr} {xs : List WhT} (h : LiesSlice w B A n xs) : ∃ l : List Wh, l.length = n ∧ Reads w B 5 A n (l.flatMap Wh.vs) ∧ ∀ x ∈ l, x.At B w := by
  obtain ⟨l, h1, h2, h3⟩ := h.rows (X := Wh) (f := Wh.vs) (g := fun v => v.At B w) (fun _ => rfl) (fun us a hl => by
    obtain ⟨u1, u2, rfl, k1, ⟨v1, v2, rfl, k2, ⟨x1, x2, rfl, ⟨A, n, c, rfl, hn, hc, _, hl⟩, ⟨y1, y2, rfl, k3, k4⟩⟩⟩⟩ := hl
    refine ⟨⟨a.1.z, a.2.1.z, A, n, c, zsOf a.2.2.1, a.2.2.2.1.z, a.2.2.2.2.z⟩, ?_, hl.reads, Nat.le_trans hn hc, ⟨a.1.i64, a.2.1.i64, zsOf_u32b _, a.2.2.2.1.i64, a.2.2.2.2.i64⟩, hn⟩
    rw [show u1 = [.int .i64 a.1.z] from k1, show v1 = [.int .i64 a.2.1.z] from k2, show y1 = [.int .i64 a.2.2.2.1.z] from k3, show y2 = [.int .i64 a.2.2.2.2.z] from k4]
    rfl)
  exact ⟨l, h1, h2, h3⟩
theorem res_of {w : World} {B n : Nat} {A : Option Addr} {xs : List ReT} (h : LiesSlice w B A n xs) : ∃ l : List Re, l.length = n ∧ Reads w B 3 A n (l.flatMap Re.vs) ∧ ∀ x ∈ l, x.At B w := by
  obtain ⟨l, h1, h2, h3⟩ := h.rows (X := Re) (f := Re.vs) (g := fun v => v.At B w) (fun _ => rfl) (fun us a hl => by
    obtain ⟨u1, u2, rfl, ⟨A, n, c, rfl, hn, hc, _, hl⟩, ⟨v1, v2, rfl, k2, k3⟩⟩ := hl
    refine ⟨⟨A, n, c, zsOf a.1, a.2.1.b, a.2.2.b⟩, ?_, hl.reads, Nat.le_trans hn hc, zsOf_u8b _, flB _, flB _⟩
    rw [show v1 = [.float .f64 a.2.1.b] from k2, show v2 = [.float .f64 a.2.2.b] from k3]
    rfl)
  exact ⟨l, h1, h2, h3⟩
theorem ce_of {w : World} {B : Nat} {us : List Value} {x : CeT} (h : Lay.lies w B us x) : ∃ r : Ce, us = r.vs ∧ r.At B w := by
  obtain ⟨u1, u2, rfl, k1, ⟨v1, v2, rfl, k2, ⟨x1, x2, rfl, ⟨A, n, c, rfl, hn, hc, _, hl⟩, ⟨A', n', c', rfl, hn', hc', _, hl'⟩⟩⟩⟩ := h
  obtain ⟨li, h1, h2, h3⟩ := whs_of hl
  obtain ⟨lr, h4, h5, h6⟩ := res_of hl'
  obtain ⟨m, hm⟩ := Int.eq_ofNat_of_zero_le x.1.u64.1
  refine ⟨⟨m, x.2.1.z, A, n, c, li, A', n', c', lr⟩, ?_, (by show m < 18446744073709551616; have := x.1.u64.2; omega), x.2.1.i64, h2, h3, h1, Nat.le_trans hn hc, h5, h6, h4, Nat.le_trans hn' hc'⟩
  rw [show u1 = [.int .u64 x.1.z] from k1, show v1 = [.int .i64 x.2.1.z] from k2, hm]
  rfl
theorem ces_of {w : World} {B n c : Nat} {A : Option Addr} {xs : List CeT} (h : LiesSlice w B A n xs) (hm : n ≤ maxLen) : ∃ l : List Ce, (Ces.mk A n c l).At B w := by
  obtain ⟨l, h1, h2, h3⟩ := h.rows (X := Ce) (f := Ce.vs) (g := fun r => r.At B w) (fun _ => rfl) (fun us a hl => ce_of hl)
  exact ⟨l, h2, h3, h1, hm⟩
end Go.Proofs.Ytpomklkfedpkfaa
namespace Go.Proofs.Ytpomklkfedpkfaa
set_option maxRecDepth 100000
open Go.RowKit H
open Dfp
open Nrm (pk)
set_option linter.unusedVariables false
theorem rtwo_some (n : Nat) (w : World) (hn : n ≤ 1000) :
    Calls Try.prog 35 #[.int .i64 (n : Int)] w fun e w' => w = w' ∧ ∃ r : Int, e = .returned (.int .u32 r) := by
  refine enter Try.func35 rfl (by kernel_rfl) ?_
  refine J.seq ?_
  refine J.region ?_
  refine L.va rfl (X.assign (by conv => lhs; whnf)) ?_
  refine L.nil ?_
  refine J.seq ?_
  refine J.region ?_
  refine L.va rfl (X.assign (by conv => lhs; whnf)) ?_
  refine L.nil ?_
  refine J.seq ?_
  refine J.seq ?_
  refine J.region ?_
  refine L.va rfl (X.assign (by conv => lhs; whnf)) ?_
  refine L.nil ?_
  refine J.block ?_
  refine J.loop (X := Nat × Int) [3, 4, 5, 6, 7, 8, 9, 10, 11] (fun (i, p) => [(4, .int .i64 (i : Int)), (3, .int .u32 p)]) (fun (i, p) w' => i ≤ n ∧ w = w') (fun (i, _) => n - i) ((0, 1)) (At2 (by first | rfl | exact at_int rfl (by omega) | exact at_slice rfl (by omega) | exact at_int rfl (by simp)) (by first | rfl | exact at_int rfl (by omega) | exact at_slice rfl (by omega) | exact at_int rfl (by simp))) ?_ ?_
  · exact ⟨Nat.zero_le _, rfl⟩
  · rintro ⟨i, p⟩ g w1 ⟨hi, rfl⟩
    refine J.seq ?_
    refine J.seq ?_
    refine J.region ?_
    refine L.va rfl (X.move (by conv => lhs; whnf)) ?_
    refine L.va rfl (X.move (by conv => lhs; whnf)) ?_
    refine L.va rfl (X.lss rfl rfl) ?_
    refine L.nil ?_
    refine J.dec rfl (fun hlt => ?_) (fun hlt => ?_)
    · refine J.skip ?_
      refine J.seq ?_
      refine J.block ?_
      refine J.region ?_
      refine L.va rfl (X.move (by conv => lhs; whnf)) ?_
      refine L.va rfl (X.mulw rfl rfl) ?_
      refine L.va rfl (X.assign (by conv => lhs; whnf)) ?_
      refine L.nil ?_
      refine J.region ?_
      refine L.va rfl (X.move (by conv => lhs; whnf)) ?_
      refine L.va rfl (X.add rfl rfl (by omega)) ?_
      refine L.va rfl (X.assign (by conv => lhs; whnf)) ?_
      refine L.nil ?_
      refine ⟨(i + 1, IntKind.u32.wrap (2 * p)), At2 (by first | rfl | exact at_int rfl (by omega) | exact at_slice rfl (by omega) | exact at_int rfl (by simp)) (by first | rfl | exact at_int rfl (by omega) | exact at_slice rfl (by omega) | exact at_int rfl (by simp)), (by (iterate 9 refine Agr.lk rfl ?_); exact Agr.lk rfl (Agr.hav rfl Agr.rfl')), ?_⟩
      exact ⟨⟨by omega, rfl⟩, by show n - (i + 1) < n - i; omega⟩
    · refine J.exit ?_
      refine J.seq ?_
      refine J.region ?_
      refine L.va rfl (X.move (by conv => lhs; whnf)) ?_
      refine L.va rfl (X.assign (by conv => lhs; whnf)) ?_
      refine L.nil ?_
      refine J.ret ?_
      refine fin1 ?_
      exact ⟨rfl, _, rfl⟩
theorem wrap32_b (z : Int) : 0 ≤ IntKind.u32.wrap z ∧ IntKind.u32.wrap z < 4294967296 := by simp [IntKind.wrap, IntKind.bits, IntKind.signed]; omega
theorem rfull_some (Ad : Option Addr) (nd cd : Nat) (v1 v2 v3 : Value) (w : World) (hnd : nd ≤ 1000) :
    Calls Try.prog 17 #[.agg #[.slice Ad nd cd, v1, v2, v3]] w fun e w' => Ext w w' ∧ ∃ m : Nat, m < 4294967296 ∧ e = .returned (.int .u32 (m : Int)) := by
  refine enter Try.func17 rfl (by kernel_rfl) ?_
  refine J.seq ?_
  refine J.region ?_
  refine L.boxA (l := [_, _, _, _]) rfl rfl ?_
  intro b1 w1 hb1 hs1 hk1 he1
  have c1 := rtwo_some nd w1 hnd
  refine L.va rfl (X.assign (by conv => lhs; whnf)) ?_
  refine L.nil ?_
  refine J.seq ?_
  refine J.region ?_
  refine L.va rfl (X.fieldAddr rfl Try.underlying47 rfl sz_43 (by decide)) ?_
  refine L.va rfl (X.load rfl sc_43 (by first | exact Ld.blk hk1 rfl)) ?_
  refine L.va rfl (X.len rfl Try.underlying43) ?_
  refine L.call rfl en_35 rfl (c1) ?_
  rintro e _ ⟨rfl, r, rfl⟩
  refine ⟨_, rfl, ?_⟩
  refine L.va rfl (X.subw rfl rfl) ?_
  refine L.va rfl (X.assign (by conv => lhs; whnf)) ?_
  refine L.nil ?_
  refine J.ret ?_
  refine fin1 ?_
  have hb := wrap32_b (r - 1)
  exact ⟨he1, (IntKind.u32.wrap (r - 1)).toNat, by omega, by rw [Int.toNat_of_nonneg hb.1]; rfl⟩
section
variable {s : Sch} {m : Nat} {f g h : Fis} {l : List Con}
theorem cellsE_ok (hE : cellsE s m f l = 0) : fcode s f = 0 ∧ rightK s m l = true ∧ bits .andNot .u32 ((fneed f.l : Nat) : Int) (m : Int) = 0 := by
  unfold cellsE at hE
  by_cases h1 : fcode s f = 0
  · rw [if_neg (fun k => k h1)] at hE
    cases hr : rightK s m l
    · rw [if_pos hr] at hE; cases hE
    · rw [if_neg (by simp [hr])] at hE
      refine ⟨h1, rfl, ?_⟩
      apply Decidable.byContradiction
      intro h2
      rw [if_pos h2] at hE
      cases hE
  · rw [if_pos h1] at hE
    exact absurd hE h1
theorem cellsE_mk (h1 : fcode s f = 0) (h2 : rightK s m l = true) (h3 : bits .andNot .u32 ((fneed f.l : Nat) : Int) (m : Int) = 0) : cellsE s m f l = 0 := by
  unfold cellsE
  rw [if_neg (fun k => k h1), if_neg (by simp [h2]), if_neg (fun k => k h3)]
theorem fcode_ok' (hl : f.l.length = f.n) (hc : fcode s f = 0) : s.code = 0 ∧ ∀ x ∈ f.l, fE s x = 0 := by
  unfold fcode at hc
  by_cases h1 : s.code = 0
  · rw [if_neg (fun k => k h1)] at hc
    by_cases h2 : 20 < f.n
    · rw [if_pos h2] at hc; cases hc
    · rw [if_neg h2] at hc
      refine ⟨h1, fun x hx => ?_⟩
      obtain ⟨i, hi, rfl⟩ := List.getElem_of_mem hx
      have := fst_ok (d := fi0) hc i hi
      rwa [List.getD, List.getElem?_eq_getElem hi] at this
  · rw [if_pos h1] at hc; cases hc
theorem fcode_both (hf : f.l.length = f.n) (hg : g.l.length = g.n) (h1 : fcode s f = 0) (h2 : fcode s g = 0) (hl : h.l = f.l ++ g.l) (hn : h.n ≤ 20) : fcode s h = 0 := by
  obtain ⟨a1, a2⟩ := fcode_ok' hf h1
  obtain ⟨_, b2⟩ := fcode_ok' hg h2
  refine fcode_ok a1 hn fun x hx => ?_
  rw [hl] at hx
  rcases List.mem_append.1 hx with hx | hx
  · exact a2 x hx
  · exact b2 x hx
theorem fcode_n {s : Sch} {f : Fis} (hc : fcode s f = 0) : f.n ≤ 20 := by
  unfold fcode at hc
  by_cases h1 : s.code = 0
  · rw [if_neg (fun k => k h1)] at hc
    by_cases h2 : 20 < f.n
    · rw [if_pos h2] at hc; cases hc
    · omega
  · rw [if_pos h1] at hc; cases hc
theorem fi_ones (l : List Fi) : (l.flatMap Fi.vs).all (·.oneCell') = true := by
  rw [List.all_eq_true]
  intro v hv
  obtain ⟨x, _, hx⟩ := List.mem_flatMap.1 hv
  simp only [Fi.vs, List.mem_cons, List.not_mem_nil, or_false] at hx
  rcases hx with rfl | rfl <;> rfl
theorem fneed_app (a b : List Fi) : fneed (a ++ b) = fneed a ||| fneed b := by
  induction a with
  | nil => simp [fneed]
  | cons x t ih => simp only [List.cons_append, fneed, ih, Nat.or_assoc]
theorem need_both (hm : m < 4294967296) (h1 : bits .andNot .u32 ((fneed f.l : Nat) : Int) (m : Int) = 0) (h2 : bits .andNot .u32 ((fneed g.l : Nat) : Int) (m : Int) = 0) (hl : h.l = f.l ++ g.l) : bits .andNot .u32 ((fneed h.l : Nat) : Int) (m : Int) = 0 := by
  rw [u32_andNot_nat _ _ (fneed_lt _) hm] at *
  rw [hl, fneed_app, Nat.and_or_distrib_right]
  have e1 : fneed f.l &&& (4294967295 - m) = 0 := by omega
  have e2 : fneed g.l &&& (4294967295 - m) = 0 := by omega
  rw [e1, e2]
  rfl
theorem pass_both (hl : h.l = f.l ++ g.l) (x : Con) : passC s m h x = (passC s m f x && passC s m g x) := by
  unfold passC
  rw [hl, List.map_append]
  unfold Nrm.pk
  rw [List.all_append]
end
theorem filter_two (p q : Con → Bool) (l : List Con) : (l.filter p).filter q = l.filter (fun x => p x && q x) := by
  rw [List.filter_filter]
  congr 1
  funext x
  rw [Bool.and_comm]
abbrev AskT := (List ((Nm .i64) × (List (Nm .i64)))) × (List CeT)
theorem ask_of {w : World} {vs : List Value} {x : AskT} (h : Lay.lies w w.heap.size vs x) : ∃ (f : Fis) (t : Ces), vs = [f.val, t.val] ∧ f.At w.heap.size w ∧ t.At w.heap.size w := by
  obtain ⟨u1, u2, rfl, ⟨A, n, c, rfl, hn, hc, _, hl⟩, ⟨A', n', c', rfl, hn', hc', _, hl'⟩⟩ := h
  obtain ⟨l1, h1⟩ := fis_of (c := c) hl (Nat.le_trans hn hc)
  obtain ⟨l2, h2⟩ := ces_of (c := c') hl' (Nat.le_trans hn' hc')
  exact ⟨⟨A, n, c, l1⟩, ⟨A', n', c', l2⟩, rfl, h1, h2⟩
theorem law_FilterTwice (w : World) (vs0 : List Value) (a0 : (List ((Str) × (Nm .i64))) × (List (Str)) × (List (Str)) × (List (Nm .u32))) (hl0 : Lay.lies w w.heap.size vs0 a0) (vs1 : List Value) (a1 : AskT) (hl1 : Lay.lies w w.heap.size vs1 a1) (vs2 : List Value) (a2 : AskT) (hl2 : Lay.lies w w.heap.size vs2 a2) :
    Calls Try.prog 5 #[.agg vs0.toArray, .agg vs1.toArray, .agg vs2.toArray] w fun e w' => e = .returned (.bool true) ∧ Below w.heap.size w w' := by
  obtain ⟨s, rfl, hH⟩ := sch_of hl0
  obtain ⟨fa, ta, rfl, hfa, hta⟩ := ask_of hl1
  obtain ⟨fb, tb, rfl, hfb, htb⟩ := ask_of hl2
  have lfa := hfa.l
  have lfb := hfb.l
  have mfa := hfa.m
  have mfb := hfb.m
  unfold maxLen at mfa mfb
  refine enter Try.func5 rfl (by kernel_rfl) ?_
  refine J.seq ?_
  refine J.region ?_
  refine L.boxA (l := [_, _, _, _]) rfl rfl ?_
  intro b1 w1 hb1 hs1 hk1 he1
  refine L.boxA (l := [_, _]) rfl rfl ?_
  intro b2 w2 hb2 hs2 hk2 he2
  replace hk1 := hk1.ext he2
  have hk2 : Blk w2 b2 50 [fa.val, ta.val].toArray := hk2
  refine L.boxA (l := [_, _]) rfl rfl ?_
  intro b3 w3 hb3 hs3 hk3 he3
  replace hk1 := hk1.ext he3
  replace hk2 := hk2.ext he3
  have hk3 : Blk w3 b3 50 [fb.val, tb.val].toArray := hk3
  have he03 := (he1.trans he2).trans he3
  refine L.va rfl (X.assign (by conv => lhs; whnf)) ?_
  refine L.nil ?_
  refine J.seq ?_
  refine J.seq ?_
  refine J.region ?_
  refine L.va rfl ((by first | exact X.loadAgg rfl (range_l hk1) Try.underlying47 rfl (by kernel_rfl) | exact X.loadAgg rfl (range_blk hk1) Try.underlying47 rfl (by kernel_rfl) | exact X.loadAgg rfl (range_l hk2) Try.underlying47 rfl (by kernel_rfl) | exact X.loadAgg rfl (range_blk hk2) Try.underlying47 rfl (by kernel_rfl) | exact X.loadAgg rfl (range_l hk3) Try.underlying47 rfl (by kernel_rfl) | exact X.loadAgg rfl (range_blk hk3) Try.underlying47 rfl (by kernel_rfl))) ?_
  refine L.call rfl en_14 rfl ((hH.ext he03).light) ?_
  rintro e w4 ⟨l1, rfl, hl1', he4⟩
  refine ⟨_, rfl, ?_⟩
  have he4 : Ext w3 w4 := he4
  have he04 := he03.trans he4
  replace hk1 := hk1.ext he4
  replace hk2 := hk2.ext he4
  replace hk3 := hk3.ext he4
  refine L.va rfl (X.not rfl) ?_
  refine L.va rfl (X.move (by conv => lhs; whnf)) ?_
  cases l1
  · refine L.caseBT (k := 17) rfl (by rfl) ?_
    refine L.no rfl ?_
    refine L.no rfl ?_
    refine L.no rfl ?_
    refine L.no rfl ?_
    refine L.va rfl (X.pickT rfl (by conv => lhs; whnf)) ?_
    refine L.va rfl (X.move (by conv => lhs; whnf)) ?_
    refine L.no rfl ?_
    refine L.no rfl ?_
    refine L.no rfl ?_
    refine L.no rfl ?_
    refine L.va rfl (X.pickT rfl (by conv => lhs; whnf)) ?_
    refine L.va rfl (X.move (by conv => lhs; whnf)) ?_
    refine L.no rfl ?_
    refine L.no rfl ?_
    refine L.no rfl ?_
    refine L.no rfl ?_
    refine L.va rfl (X.pickT rfl (by conv => lhs; whnf)) ?_
    refine L.nil ?_
    refine J.iteT rfl ?_
    refine J.seq ?_
    refine J.region ?_
    refine L.call rfl en_16 rfl (awake28 _) ?_
    rintro e w5 ⟨rfl, he5⟩
    refine ⟨_, rfl, ?_⟩
    refine L.va rfl (X.assign (by conv => lhs; whnf)) ?_
    refine L.nil ?_
    refine J.ret ?_
    refine thn_ret <| ?_
    refine fin1 ?_
    exact ⟨rfl, he04.trans he5⟩
  · have H4 := (hH.ext he04).here (hl1' rfl)
    have hle := H4.hle
    refine L.caseBF (k := 17) rfl (by rfl) ?_
    refine L.va rfl (X.fieldAddr rfl Try.underlying50 rfl sz_48 (by decide)) ?_
    refine L.va rfl (X.load rfl sc_48 (by first | exact Ld.blk hk1 rfl | exact Ld.blk hk2 rfl | exact Ld.blk hk3 rfl)) ?_
    refine L.call rfl en_15 rfl (light28 fa w4 ((hfa.ext he04).more he04.le)) ?_
    rintro e _ ⟨⟨l2, rfl⟩, rfl⟩
    refine ⟨_, rfl, ?_⟩
    refine L.va rfl (X.not rfl) ?_
    refine L.va rfl (X.pickF rfl (by conv => lhs; whnf)) ?_
    refine L.va rfl (X.move (by conv => lhs; whnf)) ?_
    cases l2
    · refine L.caseBT (k := 23) rfl (by rfl) ?_
      refine L.no rfl ?_
      refine L.no rfl ?_
      refine L.no rfl ?_
      refine L.no rfl ?_
      refine L.va rfl (X.pickT rfl (by conv => lhs; whnf)) ?_
      refine L.va rfl (X.move (by conv => lhs; whnf)) ?_
      refine L.no rfl ?_
      refine L.no rfl ?_
      refine L.no rfl ?_
      refine L.no rfl ?_
      refine L.va rfl (X.pickT rfl (by conv => lhs; whnf)) ?_
      refine L.nil ?_
      refine J.iteT rfl ?_
      refine J.seq ?_
      refine J.region ?_
      refine L.call rfl en_16 rfl (awake28 _) ?_
      rintro e w5 ⟨rfl, he5⟩
      refine ⟨_, rfl, ?_⟩
      refine L.va rfl (X.assign (by conv => lhs; whnf)) ?_
      refine L.nil ?_
      refine J.ret ?_
      refine thn_ret <| ?_
      refine fin1 ?_
      exact ⟨rfl, he04.trans he5⟩
    · refine L.caseBF (k := 23) rfl (by rfl) ?_
      refine L.va rfl (X.fieldAddr rfl Try.underlying50 rfl sz_48 (by decide)) ?_
      refine L.va rfl (X.load rfl sc_48 (by first | exact Ld.blk hk1 rfl | exact Ld.blk hk2 rfl | exact Ld.blk hk3 rfl)) ?_
      refine L.call rfl en_15 rfl (light28 fb w4 ((hfb.ext he04).more he04.le)) ?_
      rintro e _ ⟨⟨l3, rfl⟩, rfl⟩
      refine ⟨_, rfl, ?_⟩
      refine L.va rfl (X.not rfl) ?_
      refine L.va rfl (X.pickF rfl (by conv => lhs; whnf)) ?_
      refine L.va rfl (X.move (by conv => lhs; whnf)) ?_
      cases l3
      · refine L.caseBT (k := 29) rfl (by rfl) ?_
        refine L.no rfl ?_
        refine L.no rfl ?_
        refine L.no rfl ?_
        refine L.no rfl ?_
        refine L.va rfl (X.pickT rfl (by conv => lhs; whnf)) ?_
        refine L.nil ?_
        refine J.iteT rfl ?_
        refine J.seq ?_
        refine J.region ?_
        refine L.call rfl en_16 rfl (awake28 _) ?_
        rintro e w5 ⟨rfl, he5⟩
        refine ⟨_, rfl, ?_⟩
        refine L.va rfl (X.assign (by conv => lhs; whnf)) ?_
        refine L.nil ?_
        refine J.ret ?_
        refine thn_ret <| ?_
        refine fin1 ?_
        exact ⟨rfl, he04.trans he5⟩
      · have K5 := rlight15 (s := ta) (hta.ext he04) he04.le
        refine L.caseBF (k := 29) rfl (by rfl) ?_
        refine L.va rfl (X.fieldAddr rfl Try.underlying50 rfl sz_22 (by decide)) ?_
        refine L.va rfl (X.load rfl sc_22 (by first | exact Ld.blk hk1 rfl | exact Ld.blk hk2 rfl | exact Ld.blk hk3 rfl)) ?_
        refine L.call rfl en_6 rfl (K5) ?_
        rintro e w5 ⟨he5, l4, rfl, hl4⟩
        refine ⟨_, rfl, ?_⟩
        have he5 : Ext w4 w5 := he5
        have he05 := he04.trans he5
        replace hk1 := hk1.ext he5
        replace hk2 := hk2.ext he5
        replace hk3 := hk3.ext he5
        refine L.va rfl (X.not rfl) ?_
        refine L.va rfl (X.pickF rfl (by conv => lhs; whnf)) ?_
        refine L.nil ?_
        cases l4
        · refine J.iteT rfl ?_
          refine J.seq ?_
          refine J.region ?_
          refine L.call rfl en_16 rfl (awake28 _) ?_
          rintro e w6 ⟨rfl, he6⟩
          refine ⟨_, rfl, ?_⟩
          refine L.va rfl (X.assign (by conv => lhs; whnf)) ?_
          refine L.nil ?_
          refine J.ret ?_
          refine thn_ret <| ?_
          refine fin1 ?_
          exact ⟨rfl, he05.trans he6⟩
        · obtain ⟨tn, tL⟩ := hl4 rfl
          have K6 := rfull_some s.Ad s.nd s.cd (.slice s.A1 s.n1 s.c1) (.slice s.A2 s.n2 s.c2) (.slice s.Av s.nv s.cv) w5 (by omega)
          refine J.iteF rfl ?_
          refine J.skip ?_
          refine J.seq ?_
          refine J.region ?_
          refine L.va rfl ((by first | exact X.loadAgg rfl (range_l hk1) Try.underlying47 rfl (by kernel_rfl) | exact X.loadAgg rfl (range_blk hk1) Try.underlying47 rfl (by kernel_rfl) | exact X.loadAgg rfl (range_l hk2) Try.underlying47 rfl (by kernel_rfl) | exact X.loadAgg rfl (range_blk hk2) Try.underlying47 rfl (by kernel_rfl) | exact X.loadAgg rfl (range_l hk3) Try.underlying47 rfl (by kernel_rfl) | exact X.loadAgg rfl (range_blk hk3) Try.underlying47 rfl (by kernel_rfl))) ?_
          refine L.call rfl en_17 rfl (K6) ?_
          rintro e w6 ⟨he6, m, hm, rfl⟩
          refine ⟨_, rfl, ?_⟩
          have he6 : Ext w5 w6 := he6
          have he06 := he05.trans he6
          have H6 := ((H4.ext he5).ext he6)
          replace hk1 := hk1.ext he6
          replace hk2 := hk2.ext he6
          replace hk3 := hk3.ext he6
          have K7 := fcells (s := s) (m := m) (f := fa) (t := ta) (w := w6) H6 hm ((hfa.ext he06).more he06.le) ((hta.ext he06).more he06.le) (by omega) tL
          refine L.va rfl (X.assign (by conv => lhs; whnf)) ?_
          refine L.nil ?_
          refine J.seq ?_
          refine J.region ?_
          refine L.va rfl ((by first | exact X.loadAgg rfl (range_l hk1) Try.underlying47 rfl (by kernel_rfl) | exact X.loadAgg rfl (range_blk hk1) Try.underlying47 rfl (by kernel_rfl) | exact X.loadAgg rfl (range_l hk2) Try.underlying47 rfl (by kernel_rfl) | exact X.loadAgg rfl (range_blk hk2) Try.underlying47 rfl (by kernel_rfl) | exact X.loadAgg rfl (range_l hk3) Try.underlying47 rfl (by kernel_rfl) | exact X.loadAgg rfl (range_blk hk3) Try.underlying47 rfl (by kernel_rfl))) ?_
          refine L.va rfl (X.move (by conv => lhs; whnf)) ?_
          refine L.va rfl (X.fieldAddr rfl Try.underlying50 rfl sz_48 (by decide)) ?_
          refine L.va rfl (X.load rfl sc_48 (by first | exact Ld.blk hk1 rfl | exact Ld.blk hk2 rfl | exact Ld.blk hk3 rfl)) ?_
          refine L.va rfl (X.fieldAddr rfl Try.underlying50 rfl sz_22 (by decide)) ?_
          refine L.va rfl (X.load rfl sc_22 (by first | exact Ld.blk hk1 rfl | exact Ld.blk hk2 rfl | exact Ld.blk hk3 rfl)) ?_
          refine L.call rfl en_18 rfl (K7) ?_
          rintro e w7 ⟨x, rfl, xat, xc, xn, xL, _, xE, he7⟩
          refine ⟨_, rfl, ?_⟩
          have he7 : Ext w6 w7 := he7
          have he07 := he06.trans he7
          have H7 := H6.ext he7
          replace hk1 := hk1.ext he7
          replace hk2 := hk2.ext he7
          replace hk3 := hk3.ext he7
          have K8 := fcells (s := s) (m := m) (f := fb) (t := ta) (w := w7) H7 hm ((hfb.ext he07).more he07.le) ((hta.ext he07).more he07.le) (by omega) tL
          refine L.va rfl (X.move (by conv => lhs; whnf)) ?_
          refine L.va rfl (X.extract rfl rfl) ?_
          refine L.va rfl (X.extract rfl rfl) ?_
          refine L.va rfl (X.assign (by conv => lhs; whnf)) ?_
          refine L.va rfl (X.assign (by conv => lhs; whnf)) ?_
          refine L.nil ?_
          refine J.seq ?_
          refine J.region ?_
          refine L.va rfl ((by first | exact X.loadAgg rfl (range_l hk1) Try.underlying47 rfl (by kernel_rfl) | exact X.loadAgg rfl (range_blk hk1) Try.underlying47 rfl (by kernel_rfl) | exact X.loadAgg rfl (range_l hk2) Try.underlying47 rfl (by kernel_rfl) | exact X.loadAgg rfl (range_blk hk2) Try.underlying47 rfl (by kernel_rfl) | exact X.loadAgg rfl (range_l hk3) Try.underlying47 rfl (by kernel_rfl) | exact X.loadAgg rfl (range_blk hk3) Try.underlying47 rfl (by kernel_rfl))) ?_
          refine L.va rfl (X.move (by conv => lhs; whnf)) ?_
          refine L.va rfl (X.fieldAddr rfl Try.underlying50 rfl sz_48 (by decide)) ?_
          refine L.va rfl (X.load rfl sc_48 (by first | exact Ld.blk hk1 rfl | exact Ld.blk hk2 rfl | exact Ld.blk hk3 rfl)) ?_
          refine L.va rfl (X.fieldAddr rfl Try.underlying50 rfl sz_22 (by decide)) ?_
          refine L.va rfl (X.load rfl sc_22 (by first | exact Ld.blk hk1 rfl | exact Ld.blk hk2 rfl | exact Ld.blk hk3 rfl)) ?_
          refine L.call rfl en_18 rfl (K8) ?_
          rintro e w8 ⟨y, rfl, yat, yc, yn, yL, _, yE, he8⟩
          refine ⟨_, rfl, ?_⟩
          have he8 : Ext w7 w8 := he8
          have he08 := he07.trans he8
          have H8 := H7.ext he8
          replace hk1 := hk1.ext he8
          replace hk2 := hk2.ext he8
          replace hk3 := hk3.ext he8
          refine L.va rfl (X.move (by conv => lhs; whnf)) ?_
          refine L.va rfl (X.extract rfl rfl) ?_
          refine L.va rfl (X.extract rfl rfl) ?_
          refine L.va rfl (X.assign (by conv => lhs; whnf)) ?_
          refine L.va rfl (X.assign (by conv => lhs; whnf)) ?_
          refine L.nil ?_
          refine J.seq ?_
          refine J.seq ?_
          refine J.region ?_
          refine L.va rfl (X.move (by conv => lhs; whnf)) ?_
          refine L.va rfl (X.neq rfl rfl) ?_
          refine L.va rfl (X.move (by conv => lhs; whnf)) ?_
          refine L.caseNdec (k := 60) rfl (fun h1 => ?_) (fun h1 => ?_)
          · refine L.no rfl ?_
            refine L.no rfl ?_
            refine L.va rfl (X.pickT rfl (by conv => lhs; whnf)) ?_
            refine L.va rfl (X.move (by conv => lhs; whnf)) ?_
            refine L.no rfl ?_
            refine L.no rfl ?_
            refine L.no rfl ?_
            refine L.no rfl ?_
            refine L.no rfl ?_
            refine L.no rfl ?_
            refine L.no rfl ?_
            refine L.no rfl ?_
            refine L.va rfl (X.pickT rfl (by conv => lhs; whnf)) ?_
            refine L.nil ?_
            refine J.iteT rfl ?_
            refine J.seq ?_
            refine J.region ?_
            refine L.call rfl en_16 rfl (awake28 _) ?_
            rintro e w9 ⟨rfl, he9⟩
            refine ⟨_, rfl, ?_⟩
            refine L.va rfl (X.assign (by conv => lhs; whnf)) ?_
            refine L.nil ?_
            refine J.ret ?_
            refine thn_ret <| ?_
            refine fin1 ?_
            exact ⟨rfl, he08.trans he9⟩
          · have h1 : cellsE s m fa ta.con = 0 := by omega
            obtain ⟨a1, a2, a3⟩ := cellsE_ok h1
            refine L.va rfl (X.move (by conv => lhs; whnf)) ?_
            refine L.va rfl (X.neq rfl rfl) ?_
            refine L.va rfl (X.pickF rfl (by conv => lhs; whnf)) ?_
            refine L.va rfl (X.move (by conv => lhs; whnf)) ?_
            refine L.caseNdec (k := 64) rfl (fun h2 => ?_) (fun h2 => ?_)
            · refine L.no rfl ?_
              refine L.no rfl ?_
              refine L.no rfl ?_
              refine L.no rfl ?_
              refine L.no rfl ?_
              refine L.no rfl ?_
              refine L.no rfl ?_
              refine L.no rfl ?_
              refine L.va rfl (X.pickT rfl (by conv => lhs; whnf)) ?_
              refine L.nil ?_
              refine J.iteT rfl ?_
              refine J.seq ?_
              refine J.region ?_
              refine L.call rfl en_16 rfl (awake28 _) ?_
              rintro e w9 ⟨rfl, he9⟩
              refine ⟨_, rfl, ?_⟩
              refine L.va rfl (X.assign (by conv => lhs; whnf)) ?_
              refine L.nil ?_
              refine J.ret ?_
              refine thn_ret <| ?_
              refine fin1 ?_
              exact ⟨rfl, he08.trans he9⟩
            · have h2 : cellsE s m fb ta.con = 0 := by omega
              obtain ⟨b1', _, b3'⟩ := cellsE_ok h2
              have na := fcode_n a1
              have nb := fcode_n b1'
              refine L.va rfl (X.fieldAddr rfl Try.underlying50 rfl sz_48 (by decide)) ?_
              refine L.va rfl (X.load rfl sc_48 (by first | exact Ld.blk hk1 rfl | exact Ld.blk hk2 rfl | exact Ld.blk hk3 rfl)) ?_
              refine L.va rfl (X.len rfl Try.underlying48) ?_
              refine L.va rfl (X.fieldAddr rfl Try.underlying50 rfl sz_48 (by decide)) ?_
              refine L.va rfl (X.load rfl sc_48 (by first | exact Ld.blk hk1 rfl | exact Ld.blk hk2 rfl | exact Ld.blk hk3 rfl)) ?_
              refine L.va rfl (X.len rfl Try.underlying48) ?_
              refine L.va rfl (X.add rfl rfl (by omega)) ?_
              refine L.va rfl (X.gtr rfl rfl) ?_
              refine L.va rfl (X.pickF rfl (by conv => lhs; whnf)) ?_
              refine L.nil ?_
              refine J.dec rfl (fun h3 => ?_) (fun h3 => ?_)
              · refine J.seq ?_
                refine J.region ?_
                refine L.call rfl en_16 rfl (awake28 _) ?_
                rintro e w9 ⟨rfl, he9⟩
                refine ⟨_, rfl, ?_⟩
                refine L.va rfl (X.assign (by conv => lhs; whnf)) ?_
                refine L.nil ?_
                refine J.ret ?_
                refine thn_ret <| ?_
                refine fin1 ?_
                exact ⟨rfl, he08.trans he9⟩
              · have n20 : fa.n + fb.n ≤ 20 := by omega
                have oa := fi_ones fa.l
                have ob := fi_ones fb.l
                have fa8 := hfa.ext he08
                have fb8 := hfb.ext he08
                have z8 := he08.le
                refine J.skip ?_
                refine J.seq ?_
                refine J.draw (ℓ := 1000000) (S := Ext w8) mixed (fun w9 hS hS_h => ?_)
                have z9 := hS.le
                refine D.va 0 rfl (by kernel_rfl) (fun _ _ _ h => h) rfl (fun w' hw => (by first | exact X.loadAgg rfl (range_l (hk1.ext hw)) Try.underlying47 rfl (by kernel_rfl) | exact X.loadAgg rfl (range_blk (hk1.ext hw)) Try.underlying47 rfl (by kernel_rfl) | exact X.loadAgg rfl (range_l (hk2.ext hw)) Try.underlying47 rfl (by kernel_rfl) | exact X.loadAgg rfl (range_blk (hk2.ext hw)) Try.underlying47 rfl (by kernel_rfl) | exact X.loadAgg rfl (range_l (hk3.ext hw)) Try.underlying47 rfl (by kernel_rfl) | exact X.loadAgg rfl (range_blk (hk3.ext hw)) Try.underlying47 rfl (by kernel_rfl))) hS ?_
                refine D.va 1 rfl (by kernel_rfl) (fun _ _ _ h => h) rfl (fun w' hw => X.move (by conv => lhs; whnf)) hS ?_
                refine D.va 3 rfl (by kernel_rfl) (fun _ _ _ h => h) rfl (fun w' hw => X.fieldAddr rfl Try.underlying50 rfl sz_48 (by decide)) hS ?_
                refine D.va 4 rfl (by kernel_rfl) (fun _ _ _ h => h) rfl (fun w' hw => X.load rfl sc_48 (by first | exact Ld.blk (hk1.ext hw) rfl | exact Ld.blk (hk2.ext hw) rfl | exact Ld.blk (hk3.ext hw) rfl)) hS ?_
                refine D.va 6 rfl (by kernel_rfl) (fun _ _ _ h => h) rfl (fun w' hw => X.fieldAddr rfl Try.underlying50 rfl sz_48 (by decide)) hS ?_
                refine D.va 7 rfl (by kernel_rfl) (fun _ _ _ h => h) rfl (fun w' hw => X.load rfl sc_48 (by first | exact Ld.blk (hk1.ext hw) rfl | exact Ld.blk (hk2.ext hw) rfl | exact Ld.blk (hk3.ext hw) rfl)) hS ?_
                refine D.va 9 rfl (by kernel_rfl) (fun _ _ _ h => h) rfl (fun w' hw => X.fieldAddr rfl Try.underlying50 rfl sz_22 (by decide)) hS ?_
                refine D.va 10 rfl (by kernel_rfl) (fun _ _ _ h => h) rfl (fun w' hw => X.load rfl sc_22 (by first | exact Ld.blk (hk1.ext hw) rfl | exact Ld.blk (hk2.ext hw) rfl | exact Ld.blk (hk3.ext hw) rfl)) hS ?_
                refine D.one 2 (by kernel_rfl) rfl ?_
                refine L.bsliceR (ls := []) rfl Evs.nil rfl rfl rfl rfl Try.underlying48 sz_76 zr_76 (by decide) ?_
                intro b10 w10 hb10 hs10 hk10 he10
                have hS1 := hS.trans he10
                refine L.nil ?_
                refine ⟨fun _ => hS1, ?_⟩
                have ho10 : w10.ownsRow w8.heap.size 76 2 (.slice (some ⟨b10, 0, none⟩) 0 0) 0 [] := blk_own (size := 2) (q := 0) (c := 0) (l := []) hk10 (by omega) (Nat.zero_le _) (Nat.zero_le _) rfl
                have z10 := hS1.le
                refine D.one 5 (by kernel_rfl) rfl ?_
                refine L.appendV (q := fa.n) (ys := fa.l.flatMap Fi.vs) rfl rfl rfl Try.underlying48 el_76 (ho10) ((fa8.ext hS1).r) (by first | rfl | exact strs_ones _ | assumption) (by omega) (by simp) (by unfold maxLen; omega) (by omega) ?_
                intro A11 c11 w11 ho11 hg11 hb11 hor11
                have hS2 := hS1.grw hg11 (fun g hg ↦ (ho10.lt g hg).1)
                refine L.nil ?_
                refine ⟨fun _ => hS2, ?_⟩
                have z11 := hS2.le
                refine D.one 8 (by kernel_rfl) rfl ?_
                refine L.appendV (q := fa.n + fb.n) (ys := (fa.l ++ fb.l).flatMap Fi.vs) rfl rfl rfl Try.underlying48 el_76 (ho11) ((fb8.ext hS2).r) (by first | rfl | exact strs_ones _ | assumption) (by omega) (by simp) (by unfold maxLen; omega) (by omega) ?_
                intro A12 c12 w12 ho12 hg12 hb12 hor12
                have hS3 := hS2.grw hg12 (fun g hg ↦ (ho11.lt g hg).1)
                refine L.nil ?_
                refine ⟨fun _ => hS3, ?_⟩
                have z12 := hS3.le
                obtain ⟨fc, hfc⟩ : ∃ fc, fc = Fis.mk A12 (fa.n + fb.n) c12 (fa.l ++ fb.l) := ⟨_, rfl⟩
                have fc12 : fc.At w12.heap.size w12 := by
                  rw [hfc]
                  refine ⟨Reads.of_own ho12, fun q hq => ?_, by rw [List.length_append, lfa, lfb], by show fa.n + fb.n ≤ maxLen; unfold maxLen; omega⟩
                  rcases List.mem_append.1 hq with hq | hq
                  · exact ((fa8.ext hS3).h q hq).more (by omega)
                  · exact ((fb8.ext hS3).h q hq).more (by omega)
                have cl : fc.l = fa.l ++ fb.l := by rw [hfc]
                have cn : fc.n ≤ 20 := by rw [hfc]; exact n20
                have h5 : cellsE s m fc ta.con = 0 := cellsE_mk (fcode_both lfa lfb a1 b1' cl cn) a2 (need_both hm a3 b3' cl)
                have K13 := fcells (s := s) (m := m) (f := fc) (t := ta) (w := w12) (H8.ext hS3) hm fc12 (((hta.ext he08).ext hS3).more (by omega)) (by omega) tL
                rw [show fc.val = .slice A12 (fa.n + fb.n) c12 by rw [hfc]] at K13
                refine D.one 11 (by kernel_rfl) rfl ?_
                refine L.call rfl en_18 rfl (K13) ?_
                rintro e w13 ⟨z, rfl, zat, zc, zn, zL, _, zE, he13⟩
                refine ⟨_, rfl, ?_⟩
                have hS4 := hS3.trans he13
                refine L.nil ?_
                refine ⟨fun _ => hS4, ?_⟩
                refine D.va 12 rfl (by kernel_rfl) (fun _ _ _ h => h) rfl (fun w' hw => X.move (by conv => lhs; whnf)) hS4 ?_
                refine D.va 13 rfl (by kernel_rfl) (fun _ _ _ h => h) rfl (fun w' hw => X.extract rfl rfl) hS4 ?_
                refine D.va 14 rfl (by kernel_rfl) (fun _ _ _ h => h) rfl (fun w' hw => X.extract rfl rfl) hS4 ?_
                refine D.va 15 rfl (by kernel_rfl) (fun _ _ _ h => h) rfl (fun w' hw => X.assign (by conv => lhs; whnf)) hS4 ?_
                refine D.va 16 rfl (by kernel_rfl) (fun _ _ _ h => h) rfl (fun w' hw => X.assign (by conv => lhs; whnf)) hS4 ?_
                refine D.done (by kernel_rfl) ?_
                replace hk1 := hk1.ext hS4
                replace hk2 := hk2.ext hS4
                replace hk3 := hk3.ext hS4
                refine J.seq ?_
                refine J.region ?_
                refine L.va rfl ((by first | exact X.loadAgg rfl (range_l hk1) Try.underlying47 rfl (by kernel_rfl) | exact X.loadAgg rfl (range_blk hk1) Try.underlying47 rfl (by kernel_rfl) | exact X.loadAgg rfl (range_l hk2) Try.underlying47 rfl (by kernel_rfl) | exact X.loadAgg rfl (range_blk hk2) Try.underlying47 rfl (by kernel_rfl) | exact X.loadAgg rfl (range_l hk3) Try.underlying47 rfl (by kernel_rfl) | exact X.loadAgg rfl (range_blk hk3) Try.underlying47 rfl (by kernel_rfl))) ?_
                refine L.va rfl (X.move (by conv => lhs; whnf)) ?_
                refine L.va rfl (X.fieldAddr rfl Try.underlying50 rfl sz_48 (by decide)) ?_
                refine L.va rfl (X.load rfl sc_48 (by first | exact Ld.blk hk1 rfl | exact Ld.blk hk2 rfl | exact Ld.blk hk3 rfl)) ?_
                refine L.va rfl (X.move (by conv => lhs; whnf)) ?_
                have he013 := he08.trans hS4
                have z13 := he013.le
                have H13 := H8.ext hS4
                have exK : rightK s m x.con = true := rightK_sub (l := ta.l) (l' := x.l) a2 (xE h1)
                have eyK : rightK s m y.con = true := rightK_sub (l := ta.l) (l' := y.l) a2 (yE h2)
                have h6 : cellsE s m fb x.con = 0 := cellsE_mk b1' exK b3'
                have h7 : cellsE s m fa y.con = 0 := cellsE_mk a1 eyK a3
                have hz8 := he8.le
                have K14 := fcells (s := s) (m := m) (f := fb) (t := x) (w := w13) H13 hm ((hfb.ext he013).more z13) (((xat.ext he8).ext hS4).more (by have := hS4.le; omega)) xn xL
                refine L.call rfl en_18 rfl (K14) ?_
                rintro e w14 ⟨x2, rfl, x2at, x2c, x2n, x2L, _, x2E, he14⟩
                refine ⟨_, rfl, ?_⟩
                have he14 : Ext w13 w14 := he14
                have he014 := he013.trans he14
                have H14 := H13.ext he14
                replace hk1 := hk1.ext he14
                replace hk2 := hk2.ext he14
                replace hk3 := hk3.ext he14
                have K15 := fcells (s := s) (m := m) (f := fa) (t := y) (w := w14) H14 hm ((hfa.ext he014).more he014.le) (((yat.ext hS4).ext he14).more (by have := hS4.le; have := he14.le; omega)) yn yL
                refine L.va rfl (X.move (by conv => lhs; whnf)) ?_
                refine L.va rfl (X.extract rfl rfl) ?_
                refine L.va rfl (X.extract rfl rfl) ?_
                refine L.va rfl (X.assign (by conv => lhs; whnf)) ?_
                refine L.va rfl (X.assign (by conv => lhs; whnf)) ?_
                refine L.nil ?_
                refine J.seq ?_
                refine J.region ?_
                refine L.va rfl ((by first | exact X.loadAgg rfl (range_l hk1) Try.underlying47 rfl (by kernel_rfl) | exact X.loadAgg rfl (range_blk hk1) Try.underlying47 rfl (by kernel_rfl) | exact X.loadAgg rfl (range_l hk2) Try.underlying47 rfl (by kernel_rfl) | exact X.loadAgg rfl (range_blk hk2) Try.underlying47 rfl (by kernel_rfl) | exact X.loadAgg rfl (range_l hk3) Try.underlying47 rfl (by kernel_rfl) | exact X.loadAgg rfl (range_blk hk3) Try.underlying47 rfl (by kernel_rfl))) ?_
                refine L.va rfl (X.move (by conv => lhs; whnf)) ?_
                refine L.va rfl (X.fieldAddr rfl Try.underlying50 rfl sz_48 (by decide)) ?_
                refine L.va rfl (X.load rfl sc_48 (by first | exact Ld.blk hk1 rfl | exact Ld.blk hk2 rfl | exact Ld.blk hk3 rfl)) ?_
                refine L.va rfl (X.move (by conv => lhs; whnf)) ?_
                refine L.call rfl en_18 rfl (K15) ?_
                rintro e w15 ⟨y2, rfl, y2at, y2c, y2n, y2L, _, y2E, he15⟩
                refine ⟨_, rfl, ?_⟩
                have he15 : Ext w14 w15 := he15
                have he015 := he014.trans he15
                have hz15 := he15.le
                have hz14 := he14.le
                have ex2 : x2.con = z.con := by
                  rw [x2E h6, zE h5, xE h1, filter_two]
                  congr 1
                  funext q
                  rw [pass_both cl]
                have ey2 : y2.con = z.con := by
                  rw [y2E h7, zE h5, yE h2, filter_two]
                  congr 1
                  funext q
                  rw [pass_both cl, Bool.and_comm]
                have z15 : z.At w15.heap.size w15 := ((zat.ext he14).ext he15).more (by omega)
                have K16 := rsame15 (a := x2) (b := z) (w := w15) ((x2at.ext he15).more hz15) z15 (Nat.le_refl _) (by omega) (fun q hq => by have := (x2L q hq).i; have := (x2L q hq).r; omega)
                rw [show sameL x2.con z.con = true by rw [ex2]; exact sameL_refl _] at K16
                refine L.va rfl (X.move (by conv => lhs; whnf)) ?_
                refine L.va rfl (X.extract rfl rfl) ?_
                refine L.va rfl (X.extract rfl rfl) ?_
                refine L.va rfl (X.assign (by conv => lhs; whnf)) ?_
                refine L.va rfl (X.assign (by conv => lhs; whnf)) ?_
                refine L.nil ?_
                refine J.seq ?_
                refine J.region ?_
                refine L.va rfl (X.move (by conv => lhs; whnf)) ?_
                refine L.va rfl (X.eql rfl rfl) ?_
                refine L.va rfl (X.move (by conv => lhs; whnf)) ?_
                refine L.caseDecT (k := 110) rfl (by exact h6) ?_
                refine L.va rfl (X.move (by conv => lhs; whnf)) ?_
                refine L.va rfl (X.eql rfl rfl) ?_
                refine L.va rfl (X.pickT rfl (by conv => lhs; whnf)) ?_
                refine L.va rfl (X.move (by conv => lhs; whnf)) ?_
                refine L.caseDecT (k := 114) rfl (by exact h7) ?_
                refine L.va rfl (X.move (by conv => lhs; whnf)) ?_
                refine L.va rfl (X.eql rfl rfl) ?_
                refine L.va rfl (X.pickT rfl (by conv => lhs; whnf)) ?_
                refine L.va rfl (X.move (by conv => lhs; whnf)) ?_
                refine L.caseDecT (k := 118) rfl (by exact h5) ?_
                refine L.va rfl (X.move (by conv => lhs; whnf)) ?_
                refine L.va rfl (X.move (by conv => lhs; whnf)) ?_
                refine L.call rfl en_12 rfl (K16) ?_
                rintro e w16 ⟨rfl, he16⟩
                refine ⟨_, rfl, ?_⟩
                have he016 := he015.trans he16
                have K17 := rsame15 (a := y2) (b := z) (w := w16) ((y2at.ext he16).more he16.le) ((z15.ext he16).more he16.le) (Nat.le_refl _) (by omega) (fun q hq => by have := (y2L q hq).i; have := (y2L q hq).r; omega)
                rw [show sameL y2.con z.con = true by rw [ey2]; exact sameL_refl _] at K17
                refine L.va rfl (X.pickT rfl (by conv => lhs; whnf)) ?_
                refine L.va rfl (X.move (by conv => lhs; whnf)) ?_
                refine L.caseBT (k := 123) rfl (by rfl) ?_
                refine L.va rfl (X.move (by conv => lhs; whnf)) ?_
                refine L.va rfl (X.move (by conv => lhs; whnf)) ?_
                refine L.call rfl en_12 rfl (K17) ?_
                rintro e w17 ⟨rfl, he17⟩
                refine ⟨_, rfl, ?_⟩
                refine L.va rfl (X.pickT rfl (by conv => lhs; whnf)) ?_
                refine L.va rfl (X.move (by conv => lhs; whnf)) ?_
                refine L.caseBT (k := 128) rfl (by rfl) ?_
                refine L.call rfl en_16 rfl (awake28 w17) ?_
                rintro e w18 ⟨rfl, he18⟩
                refine ⟨_, rfl, ?_⟩
                refine L.va rfl (X.pickT rfl (by conv => lhs; whnf)) ?_
                refine L.va rfl (X.assign (by conv => lhs; whnf)) ?_
                refine L.nil ?_
                refine J.ret ?_
                refine fin1 ?_
                exact ⟨rfl, (he016.trans he17).trans he18⟩
end Go.Proofs.Ytpomklkfedpkfaa
