import Derived.RangeFuncBox
import Derived.RangeFuncCalls
import Derived.RangeFuncLeaves
import Derived.RangeFuncOwn
import Derived.TacticsIn
import Derived.Test.YtjdimgigbgafbaaDoorZLogSurvives2
/-
  What the law leans on, part 3: WLogB, WLogC, WLogD, WLogE, Round, WFrA, WFrB, WLogF, LogAw, LogSurv, LogSurvB, Mark, WLogG, LogSurvC, LogSurvD, LogOk, WDiskJ, WDiskK, WDiskL.
-/
namespace Go.Proofs.YtjdimgigbgafbaaDoor
set_option maxRecDepth 100000
open Go.RowKit H
open Lo Byts Seal Fram
set_option linter.unusedVariables false
namespace H
theorem X.slice3L {P : Program} {f : Fr} {w : World} {d : Option Tmp} {ty : TypeId} {pos : String} {aft : Array Edge} {g : Option (Nat × Bool)} {x y z : Operand} {t e : TypeId} {A : Option Addr} {q c sz n : Nat} (hx : ev f x = .slice A q c) (hy : ev f y = .int .i64 (n : Int)) (hz : ev f z = .int .i64 (n : Int)) (ht : P.underlying t = some (.slice e)) (hs : Siz P e sz) (hij : n ≤ c) :
    (execOp (ev f) ⟨d, .slice t x none (some y) (some z), ty, pos, aft, g⟩).run P w = .ok (.value (.slice A n n)) w := by
  simp only [execOp, Instr.sliceAt, Instr.slice, Instr.sliceBounds, Instr.sliceBound, Option.map_some, Option.map_none, hx, hy, hz, Sem.run_bind, run_underlying ht, Result.andThen_ok, asIntOf, Sem.run_pure, hs.run]
  have h1 : 0 ≤ (n : Int) ∧ (n : Int) ≤ (c : Int) := by omega
  simp [h1]
  cases A <;> simp [Addr.add_zero']
end H
theorem ob_len (A : Option Addr) (n c n' c' : Nat) : Value.ownBlock (.slice A n c) = Value.ownBlock (.slice A n' c') := by cases A <;> rfl
namespace Lg
variable {G : Lg} {v : Dk} {N : Nat} {C : Nat → Prop} {w w' : World}
theorem At.put' (h : G.At v N C w) (hg : w.grownBy w' (some G.p)) {l : Ls} {sA tA : Option Addr} {sc tc : Nat} (hb : Blk w' G.p 83 (Lg.cs ⟨G.p, sA, sc, tA, tc, l⟩ v))
    (hs : Sm .u8 5 N w sA l.sm.length sc l.sm) (hsb : Value.ownBlock (.slice sA l.sm.length sc) = G.ss.ownBlock) (ht : w.ownsRow N 35 1 (.slice tA l.tm.length tc) l.tm.length (nums .u64 l.tm)) (htb : Value.ownBlock (.slice tA l.tm.length tc) = G.ts.ownBlock) :
    Lg.At ⟨G.p, sA, sc, tA, tc, l⟩ v N C w' ∧ Chg (G.LS v C w) w w' ∧ Lg.Gr G ⟨G.p, sA, sc, tA, tc, l⟩ w.heap.size := by
  obtain ⟨h1, _, _, h4⟩ := h.put hg
  have hT := h.hb.isT
  refine ⟨⟨h1, hb, hs.kept hg fun g hg2 e => ?_, ht.kept hg (.inr fun e => ?_), fun x hx g hg2 => ?_, h.hN, h.tab.low (h.below h4) h.tN, h.tN⟩, h4, ⟨rfl, fun g hg2 => .inl (hsb ▸ hg2), fun g hg2 => .inl (htb ▸ hg2)⟩⟩
  · injection e with e
    subst e
    exact absurd (hT.fun_ (hs.own hg2).1) (by decide)
  · exact absurd (hT.fun_ (own_isT ht e).1) (by decide)
  · show Value.ownBlock (.slice sA l.sm.length sc) ≠ some g
    rw [hsb]
    exact h.sep x hx g hg2
end Lg
section
variable {G : Lg} {v : Dk} {N : Nat} {C : Nat → Prop} {w : World}
theorem lfollows (h : G.At v N C w) (i : Nat) (hi : i ≤ 8192) (zs : List Int) (A : Option Addr) (c : Nat) (nx : Int) (ch : Bool) (htl : G.st.sm.length = i * 991 → G.st.tm.length = i) :
    Calls Tryd.prog 38 #[G.ptr, .int .i64 (i : Int), pcV true zs A c] w fun e w' => e = .returned (.bool (fol ⟨nx, ch, G.st.tm, G.st.sm⟩ i zs)) ∧ Ext w w' := by
  have hb := h.hb
  have ht := Reads.of_own h.ht
  refine enter Tryd.func38 rfl (by kernel_rfl) ?_
  refine J.seq ?_
  refine J.region ?_
  refine L.boxA (l := [_, _, _, _]) rfl rfl ?_
  intro b1 w1 hb1 hs1 hk1 he1
  have hk1 : Blk w1 b1 87 #[.int .i64 (pAt zs), .int .u64 (pPrev zs), .int .u64 (sB smZ zs), .slice A (pBy zs).length c] := hk1
  have hb1' := hb.ext he1
  have ht1 := ht.ext he1
  refine L.va rfl (X.assign (by conv => lhs; whnf)) ?_
  refine L.nil ?_
  refine J.seq ?_
  refine J.seq ?_
  refine J.region ?_
  refine L.va rfl (X.fieldAddr rfl Tryd.underlying87 rfl sz_3 (by decide)) ?_
  refine L.va rfl (X.load rfl sc_3 (by first | exact Ld.blk hk1 rfl | exact Ld.blk hb1' rfl)) ?_
  refine L.va rfl (X.move (by conv => lhs; whnf)) ?_
  refine L.va rfl (X.neq rfl rfl) ?_
  refine L.va rfl (X.move (by conv => lhs; whnf)) ?_
  refine L.caseNdec (k := 11) rfl (fun h1 => ?_) (fun h1 => ?_)
  · have e : fol ⟨nx, ch, G.st.tm, G.st.sm⟩ i zs = false := by unfold fol; rw [if_pos (.inl h1)]
    rw [e]
    refine L.no rfl ?_
    refine L.no rfl ?_
    refine L.no rfl ?_
    refine L.no rfl ?_
    refine L.no rfl ?_
    refine L.no rfl ?_
    refine L.no rfl ?_
    refine L.no rfl ?_
    refine L.va rfl (X.pickT rfl (by conv => lhs; whnf)) ?_
    refine L.nil ?_
    refine J.iteT rfl ?_
    refine J.seq ?_
    refine J.region ?_
    refine L.va rfl (X.assign (by conv => lhs; whnf)) ?_
    refine L.nil ?_
    refine J.ret ?_
    refine thn_ret <| ?_
    refine fin1 ?_
    exact ⟨rfl, he1⟩
  · refine L.va rfl (X.move (by conv => lhs; whnf)) ?_
    refine L.va rfl (X.nilCheck rfl) ?_
    refine L.va rfl (X.fieldAddr rfl Tryd.underlying83 rfl sz_39 (by decide)) ?_
    refine L.va rfl (X.load rfl sc_39 (by first | exact Ld.blk hk1 rfl | exact Ld.blk hb1' rfl)) ?_
    refine L.va rfl (X.len rfl Tryd.underlying39) ?_
    refine L.va rfl (X.move (by conv => lhs; whnf)) ?_
    refine L.va rfl (X.mul rfl rfl (by omega)) ?_
    refine L.va rfl (X.neq rfl rfl) ?_
    refine L.va rfl (X.pickF rfl (by conv => lhs; whnf)) ?_
    refine L.nil ?_
    refine J.ndec rfl (fun h2 => ?_) (fun h2 => ?_)
    · have e : fol ⟨nx, ch, G.st.tm, G.st.sm⟩ i zs = false := by unfold fol; rw [if_pos (.inr (by show G.st.sm.length ≠ i * 991; omega))]
      rw [e]
      refine J.seq ?_
      refine J.region ?_
      refine L.va rfl (X.assign (by conv => lhs; whnf)) ?_
      refine L.nil ?_
      refine J.ret ?_
      refine thn_ret <| ?_
      refine fin1 ?_
      exact ⟨rfl, he1⟩
    · have h2' : G.st.sm.length = i * 991 := by omega
      have e : fol ⟨nx, ch, G.st.tm, G.st.sm⟩ i zs = if i = 0 then decide (pPrev zs = 0) else decide (pPrev zs = G.st.tm.getD (i - 1) 0) := by unfold fol; rw [if_neg (by rintro (h | h); exact h h1; exact h h2')]
      rw [e]
      have htl' := htl h2'
      refine J.skip ?_
      refine J.seq ?_
      refine J.seq ?_
      refine J.region ?_
      refine L.va rfl (X.move (by conv => lhs; whnf)) ?_
      refine L.va rfl (X.eql rfl rfl) ?_
      refine L.nil ?_
      refine J.dec rfl (fun h3 => ?_) (fun h3 => ?_)
      · rw [if_pos (by omega)]
        refine J.seq ?_
        refine J.region ?_
        refine L.va rfl (X.fieldAddr rfl Tryd.underlying87 rfl sz_35 (by decide)) ?_
        refine L.va rfl (X.load rfl sc_35 (by first | exact Ld.blk hk1 rfl | exact Ld.blk hb1' rfl)) ?_
        refine L.va rfl (X.eql rfl rfl) ?_
        refine L.va rfl (X.assign (by conv => lhs; whnf)) ?_
        refine L.nil ?_
        refine J.ret ?_
        refine thn_ret <| ?_
        refine fin1 ?_
        exact ⟨rfl, he1⟩
      · rw [if_neg (by omega)]
        have hA := ht1.some_ (by omega)
        obtain ⟨k, rfl⟩ : ∃ k, i = k + 1 := ⟨i - 1, by omega⟩
        refine J.skip ?_
        refine J.seq ?_
        refine J.quiet mixed (by kernel_rfl) ?_
        refine Qt.va rfl (fun w' hw => X.fieldAddr rfl Tryd.underlying87 rfl sz_35 (by decide)) ?_
        refine Qt.va rfl (fun w' hw => X.load rfl sc_35 (by first | exact Ld.blk (hk1.ext hw) rfl | exact Ld.blk (hb1'.ext hw) rfl | exact Ld.num (ht1.ext hw) (by omega) | exact hA)) ?_
        refine Qt.va rfl (fun w' hw => X.move (by conv => lhs; whnf)) ?_
        refine Qt.va rfl (fun w' hw => X.nilCheck rfl) ?_
        refine Qt.va rfl (fun w' hw => X.fieldAddr rfl Tryd.underlying83 rfl sz_40 (by decide)) ?_
        refine Qt.va rfl (fun w' hw => X.load rfl sc_40 (by first | exact Ld.blk (hk1.ext hw) rfl | exact Ld.blk (hb1'.ext hw) rfl | exact Ld.num (ht1.ext hw) (by omega) | exact hA)) ?_
        refine Qt.va rfl (fun w' hw => X.move (by conv => lhs; whnf)) ?_
        refine Qt.va rfl (fun w' hw => X.sub rfl rfl (by omega)) ?_
        refine Qt.va rfl (fun w' hw => (by first | exact X.index1n rfl rfl Tryd.underlying40 sz_35 (by first | exact Option.some_ne_none _ | exact ht1.some_ (by omega) | exact hA) (by omega) | exact X.index1 rfl rfl Tryd.underlying40 sz_35 (by first | exact Option.some_ne_none _ | exact ht1.some_ (by omega) | exact hA) (by omega))) ?_
        refine Qt.va rfl (fun w' hw => X.load rfl sc_35 (by first | exact Ld.blk (hk1.ext hw) rfl | exact Ld.blk (hb1'.ext hw) rfl | exact Ld.num (ht1.ext hw) (by omega) | exact hA)) ?_
        refine Qt.va rfl (fun w' hw => X.eql rfl rfl) ?_
        refine Qt.va rfl (fun w' hw => X.assign (by conv => lhs; whnf)) ?_
        refine Qt.nil (fun w2 hq => ?_)
        replace hk1 := hk1.ext hq
        replace hb1' := hb1'.ext hq
        replace ht1 := ht1.ext hq
        refine J.ret ?_
        refine fin1 ?_
        refine ⟨?_, he1.trans hq⟩
        show Ending.returned (.bool (decide (pPrev zs = G.st.tm.getD (((k + 1 : Nat) : Int) - 1).toNat 0))) = _
        rw [show (((k + 1 : Nat) : Int) - 1).toNat = k by omega]
        rfl
theorem lcut (h : G.At v N C w) (u : Nat) (hu : u ≤ G.st.sm.length) (ht : (u + 990) / 991 ≤ G.st.tm.length) (hm : u ≤ 9000000) :
    Calls Tryd.prog 40 #[G.ptr, .int .i64 (u : Int)] w fun e w' => e = .returned (.tuple #[]) ∧ ∃ G' : Lg, G'.At v N C w' ∧ G'.st = { G.st with sm := G.st.sm.take u, tm := G.st.tm.take ((u + 990) / 991) } ∧ Chg (G.LS v C w) w w' ∧ Lg.Gr G G' w.heap.size := by
  have hb := h.hb
  have hsb := h.hs.bd
  have htb := own_bd h.ht
  refine enter Tryd.func40 rfl (by kernel_rfl) ?_
  refine J.seq ?_
  refine J.region ?_
  refine L.va rfl (X.move (by conv => lhs; whnf)) ?_
  refine L.va rfl (X.move (by conv => lhs; whnf)) ?_
  refine L.va rfl (X.nilCheck rfl) ?_
  refine L.va rfl (X.fieldAddr rfl Tryd.underlying83 rfl sz_39 (by decide)) ?_
  refine L.va rfl (X.load rfl sc_39 (by first | exact Ld.blk hb rfl)) ?_
  refine L.va rfl (X.move (by conv => lhs; whnf)) ?_
  refine L.va rfl (X.move (by conv => lhs; whnf)) ?_
  refine L.va rfl (X.slice3L rfl rfl rfl Tryd.underlying39 sz_5 (by omega)) ?_
  refine L.va rfl (X.nilCheck rfl) ?_
  refine L.va rfl (X.fieldAddr rfl Tryd.underlying83 rfl sz_39 (by decide)) ?_
  refine L.store rfl rfl (by conv => lhs; whnf) rfl sz_39 (hb) (by first | decide | exact Nat.le_of_ble_eq_true rfl) ?_
  intro w1 hb1 hg1 hs1
  have e1 : (G.st.sm.take u).length = u := by rw [List.length_take]; omega
  obtain ⟨H1, c1, g1⟩ := h.put' (l := { G.st with sm := G.st.sm.take u }) (sA := G.sA) (sc := u) (tA := G.tA) (tc := G.tc) hg1 (by unfold Lg.cs Lg.ss; rw [e1]; exact hb1) (by rw [e1]; exact h.hs.cut hu) (ob_len _ _ _ _ _) h.ht rfl
  refine L.nil ?_
  refine J.region ?_
  refine L.va rfl (X.move (by conv => lhs; whnf)) ?_
  refine L.va rfl (X.move (by conv => lhs; whnf)) ?_
  refine L.va rfl (X.nilCheck rfl) ?_
  refine L.va rfl (X.fieldAddr rfl Tryd.underlying83 rfl sz_40 (by decide)) ?_
  refine L.va rfl (X.load rfl sc_40 (by first | exact Ld.blk hb1 rfl)) ?_
  refine L.va rfl (X.move (by conv => lhs; whnf)) ?_
  refine L.va rfl (X.add rfl rfl (by omega)) ?_
  refine L.va rfl (X.sub rfl rfl (by omega)) ?_
  refine L.va rfl (X.quo rfl rfl (by omega)) ?_
  refine L.va rfl ((by first | exact X.sliceTon rfl rfl Tryd.underlying40 sz_35 (by omega) | exact X.sliceTo rfl rfl Tryd.underlying40 sz_35 (by omega))) ?_
  refine L.va rfl (X.nilCheck rfl) ?_
  refine L.va rfl (X.fieldAddr rfl Tryd.underlying83 rfl sz_40 (by decide)) ?_
  obtain ⟨q, hq⟩ : ∃ q, q = (u + 990) / 991 := ⟨_, rfl⟩
  have e2 : (((u : Int) + 991 - 1) / 991) = (q : Int) := by omega
  rw [e2]
  rw [← hq] at ht
  refine L.store rfl rfl (by conv => lhs; whnf) rfl sz_40 (hb1) (by first | decide | exact Nat.le_of_ble_eq_true rfl) ?_
  intro w2 hb2 hg2 hs2
  have e3 : (G.st.tm.take q).length = q := by rw [List.length_take]; omega
  obtain ⟨H2, c2, g2⟩ := H1.put' (l := { G.st with sm := G.st.sm.take u, tm := G.st.tm.take q }) (sA := G.sA) (sc := u) (tA := G.tA) (tc := G.tc) hg2 (by unfold Lg.cs Lg.ss Lg.ts; dsimp only; rw [e1, e3]; exact hb2) H1.hs rfl (by rw [e3]; exact own_cutN H1.ht ht) (ob_len _ _ _ _ _)
  refine L.nil ?_
  refine fin0 (.inr rfl) ?_
  exact ⟨rfl, _, H2, by rw [← hq], Lg.chg_trans c1 rfl rfl g1 c2, g1.trans g2 c1.size⟩
theorem lfine (h : G.At v N C w) : Calls Tryd.prog 45 #[G.ptr] w fun e w' => e = .returned (.int .i64 G.st.bad) ∧ w = w' := by
  have hb := h.hb
  refine enter Tryd.func45 rfl (by kernel_rfl) ?_
  refine J.seq ?_
  refine J.region ?_
  refine L.va rfl (X.assign (by conv => lhs; whnf)) ?_
  refine L.nil ?_
  refine J.seq ?_
  refine J.seq ?_
  refine J.region ?_
  refine L.va rfl (X.move (by conv => lhs; whnf)) ?_
  refine L.va rfl (X.eqlPn rfl rfl (by kernel_rfl)) ?_
  refine L.va rfl (X.move (by conv => lhs; whnf)) ?_
  refine L.caseBF (k := 5) rfl (by rfl) ?_
  refine L.va rfl (X.move (by conv => lhs; whnf)) ?_
  refine L.va rfl (X.nilCheck rfl) ?_
  refine L.va rfl (X.fieldAddr rfl Tryd.underlying83 rfl sz_4 (by decide)) ?_
  refine L.va rfl (X.load rfl sc_4 (by first | exact Ld.blk hb rfl)) ?_
  refine L.va rfl (X.not rfl) ?_
  refine L.va rfl (X.pickF rfl (by conv => lhs; whnf)) ?_
  refine L.nil ?_
  refine J.iteF rfl ?_
  refine J.skip ?_
  refine J.seq ?_
  refine J.region ?_
  refine L.va rfl (X.move (by conv => lhs; whnf)) ?_
  refine L.va rfl (X.nilCheck rfl) ?_
  refine L.va rfl (X.fieldAddr rfl Tryd.underlying83 rfl sz_27 (by decide)) ?_
  refine L.va rfl (X.load rfl sc_27 (by first | exact Ld.blk hb rfl)) ?_
  refine L.va rfl (X.assign (by conv => lhs; whnf)) ?_
  refine L.nil ?_
  refine J.ret ?_
  refine fin1 ?_
  exact ⟨rfl, rfl⟩
def NoLog (p : Value) (w : World) : Prop := p = .pointer none ∨ ∃ d, p = .pointer (some ⟨d, 0, none⟩) ∧ Blk w d 83 #[.bool false, .pointer none, .int .i64 0, .int .i64 0, .int .u64 0, .int .u64 0, .slice none 0 0, .slice none 0 0, .int .i64 0]
theorem NoLog.ext {p : Value} {w w' : World} (h : NoLog p w) (he : Ext w w') : NoLog p w' := h.imp id fun ⟨d, e, hb⟩ => ⟨d, e, hb.ext he⟩
theorem lused (h : G.At v N C w) : Calls Tryd.prog 23 #[G.ptr] w fun e w' => e = .returned (.int .i64 (G.st.sm.length : Int)) ∧ w = w' := by
  have hb := h.hb
  refine enter Tryd.func23 rfl (by kernel_rfl) ?_
  refine J.seq ?_
  refine J.region ?_
  refine L.va rfl (X.assign (by conv => lhs; whnf)) ?_
  refine L.nil ?_
  refine J.seq ?_
  refine J.seq ?_
  refine J.region ?_
  refine L.va rfl (X.move (by conv => lhs; whnf)) ?_
  refine L.va rfl (X.eqlPn rfl rfl (by kernel_rfl)) ?_
  refine L.nil ?_
  refine J.iteF rfl ?_
  refine J.skip ?_
  refine J.seq ?_
  refine J.region ?_
  refine L.va rfl (X.move (by conv => lhs; whnf)) ?_
  refine L.va rfl (X.nilCheck rfl) ?_
  refine L.va rfl (X.fieldAddr rfl Tryd.underlying83 rfl sz_39 (by decide)) ?_
  refine L.va rfl (X.load rfl sc_39 (by first | exact Ld.blk hb rfl)) ?_
  refine L.va rfl (X.len rfl Tryd.underlying39) ?_
  refine L.va rfl (X.assign (by conv => lhs; whnf)) ?_
  refine L.nil ?_
  refine J.ret ?_
  refine fin1 ?_
  exact ⟨rfl, rfl⟩
theorem lroom (h : G.At v N C w) (hct : G.st.ct ≤ 8192) : Calls Tryd.prog 24 #[G.ptr] w fun e w' => e = .returned (.int .i64 ((G.st.ct : Int) * 991 - (G.st.sm.length : Int))) ∧ Ext w w' := by
  have hb := h.hb
  have hsb := h.hs.bd
  unfold maxLen at hsb
  refine enter Tryd.func24 rfl (by kernel_rfl) ?_
  refine J.seq ?_
  refine J.region ?_
  refine L.va rfl (X.assign (by conv => lhs; whnf)) ?_
  refine L.nil ?_
  refine J.seq ?_
  refine J.seq ?_
  refine J.region ?_
  refine L.va rfl (X.move (by conv => lhs; whnf)) ?_
  refine L.va rfl (X.eqlPn rfl rfl (by kernel_rfl)) ?_
  refine L.nil ?_
  refine J.iteF rfl ?_
  refine J.skip ?_
  refine J.seq ?_
  refine J.quiet mixed (by kernel_rfl) ?_
  refine Qt.va rfl (fun w' hw => X.move (by conv => lhs; whnf)) ?_
  refine Qt.va rfl (fun w' hw => X.nilCheck rfl) ?_
  refine Qt.va rfl (fun w' hw => X.fieldAddr rfl Tryd.underlying83 rfl sz_3 (by decide)) ?_
  refine Qt.va rfl (fun w' hw => X.load rfl sc_3 (by first | exact Ld.blk (hb.ext hw) rfl)) ?_
  refine Qt.va rfl (fun w' hw => X.mul rfl rfl (by omega)) ?_
  refine Qt.va rfl (fun w' hw => X.move (by conv => lhs; whnf)) ?_
  refine Qt.va rfl (fun w' hw => X.nilCheck rfl) ?_
  refine Qt.va rfl (fun w' hw => X.fieldAddr rfl Tryd.underlying83 rfl sz_39 (by decide)) ?_
  refine Qt.va rfl (fun w' hw => X.load rfl sc_39 (by first | exact Ld.blk (hb.ext hw) rfl)) ?_
  refine Qt.va rfl (fun w' hw => X.len rfl Tryd.underlying39) ?_
  refine Qt.va rfl (fun w' hw => X.sub rfl rfl (by omega)) ?_
  refine Qt.va rfl (fun w' hw => X.assign (by conv => lhs; whnf)) ?_
  refine Qt.nil (fun w2 hq => ?_)
  replace hb := hb.ext hq
  refine J.ret ?_
  refine fin1 ?_
  exact ⟨rfl, hq⟩
end
end Go.Proofs.YtjdimgigbgafbaaDoor
namespace Go.Proofs.YtjdimgigbgafbaaDoor
set_option maxRecDepth 100000
open Go.RowKit H
open Lo Byts Seal Fram
set_option linter.unusedVariables false
section
variable {G : Lg} {v : Dk} {N : Nat} {C : Nat → Prop} {w w' : World}
theorem Dk.At.off {r : Option Nat} (h : v.At N C w) (hg : w.grownBy w' r) (hr : ∀ g, r = some g → ∃ t, IsT w g t ∧ t ≠ 39 ∧ t ≠ 105 ∧ t ≠ 107 ∧ (t ≠ 5 ∨ ∀ x, v.Cl x → sblk x ≠ some g)) : v.At N C w' := by
  have n1 : some v.kb ≠ r := fun e => by obtain ⟨t, ht, h1, _⟩ := hr _ e.symm; exact h1 (ht.fun_ h.kT.1)
  have n2 : some v.d ≠ r := fun e => by obtain ⟨t, ht, _, h1, _⟩ := hr _ e.symm; exact h1 (ht.fun_ h.dT)
  have dat : ∀ {x : Value} {zs : List Int}, v.Cl x → Dat w x zs → Dat w' x zs := by
    rintro x zs hx ⟨b, off, c, cs, rfl, hl, hb, hc⟩
    refine ⟨b, off, c, cs, rfl, hl, hb.grown hg (fun e => ?_), hc⟩
    obtain ⟨t, ht, _, _, _, h4⟩ := hr _ e.symm
    rcases h4 with h4 | h4
    · exact h4 (ht.fun_ hb.isT)
    · exact h4 _ hx rfl
  refine ⟨h.hb.grown hg n2, h.hk.kept hg (.inr n1), h.hp.kept hg ?_, h.hC, fun b hb => Nat.lt_of_lt_of_le (h.hL b hb) hg.size, h.hCN, fun x hx => dat (.inl ⟨x, hx, rfl⟩) (h.kd x hx), fun x hx => ⟨(h.pd x hx).1, dat (.inr ⟨x, hx, rfl⟩) (h.pd x hx).2⟩, h.hN, h.h1, h.hl⟩
  cases ho : v.pend.ownBlock with
  | none => exact .inl rfl
  | some g => exact .inr (fun e => by obtain ⟨t, ht, _, _, h3, _⟩ := hr g e.symm; exact h3 (ht.fun_ (own_isT h.hp ho).1))
namespace Lg
theorem At.tput {w1 w2 : World} {tA : Option Addr} {tc : Nat} {l : Ls} (h : G.At v N C w) (hg1 : w.grownBy w1 G.ts.ownBlock) (ho : w1.ownsRow N 35 1 (.slice tA l.tm.length tc) l.tm.length (nums .u64 l.tm))
    (hor : ∀ g, Value.ownBlock (.slice tA l.tm.length tc) = some g → G.ts.ownBlock = some g ∨ w.heap.size ≤ g) (hg2 : w1.grownBy w2 (some G.p)) (hb : Blk w2 G.p 83 (Lg.cs ⟨G.p, G.sA, G.sc, tA, tc, l⟩ v)) (hl : l.sm = G.st.sm) :
    Lg.At ⟨G.p, G.sA, G.sc, tA, tc, l⟩ v N C w2 ∧ Chg (G.LS v C w) w w2 ∧ Gr G ⟨G.p, G.sA, G.sc, tA, tc, l⟩ w.heap.size := by
  have hd1 : v.At N C w1 := h.hd.off hg1 fun g hg => ⟨_, (own_isT h.ht hg).1, by decide, by decide, by decide, .inl (by decide)⟩
  have hb1 : Blk w1 G.p 83 (G.cs v) := h.hb.grown hg1 (fun e => own_blk_ne h.ht h.hb (by decide) e.symm)
  have hs1 := h.hs.kept hg1 fun g hg e => absurd ((own_isT h.ht e).1.fun_ (h.hs.own hg).1) (by decide)
  have c1 : Chg (G.LS v C w) w w1 := Chg.of_grown hg1 fun g hg => .inr (.inr (.inr (.inr (.inr hg))))
  have c12 : Chg (fun g => g = G.p) w1 w2 := Chg.of_grown hg2 fun g hg => by injection hg with hg; exact hg.symm
  have c2 : Chg (G.LS v C w) w w2 := c1.trans c12 fun g _ e => .inr (.inr (.inr (.inl e)))
  have hT := hb1.isT
  refine ⟨⟨hd1.off hg2 fun g hg => ⟨_, by injection hg with hg; subst hg; exact hT, by decide, by decide, by decide, .inl (by decide)⟩, hb, ?_, ho.kept hg2 (.inr fun e => absurd (hT.fun_ (own_isT ho e).1) (by decide)), ?_, h.hN, h.tab.low (h.below c2) h.tN, h.tN⟩, c2, ⟨rfl, fun g hg => .inl ?_, hor⟩⟩
  · show Sm .u8 5 N w2 G.sA l.sm.length G.sc l.sm
    rw [hl]
    exact hs1.kept hg2 fun g hg e => by injection e with e; subst e; exact absurd (hT.fun_ (hs1.own hg).1) (by decide)
  · show ∀ x, v.Cl x → ∀ g, sblk x = some g → Value.ownBlock (.slice G.sA l.sm.length G.sc) ≠ some g
    rw [hl]
    exact h.sep
  · have hg : Value.ownBlock (.slice G.sA l.sm.length G.sc) = some g := hg
    rwa [hl] at hg
theorem At.sput {w1 w2 : World} {sA : Option Addr} {sc : Nat} {l : Ls} (h : G.At v N C w) (hg1 : w.grownBy w1 G.ss.ownBlock) (ho : w1.ownsRow N 5 1 (.slice sA l.sm.length sc) l.sm.length (nums .u8 l.sm))
    (hor : ∀ g, Value.ownBlock (.slice sA l.sm.length sc) = some g → G.ss.ownBlock = some g ∨ w.heap.size ≤ g) (hg2 : w1.grownBy w2 (some G.p)) (hb : Blk w2 G.p 83 (Lg.cs ⟨G.p, sA, sc, G.tA, G.tc, l⟩ v)) (hl : l.tm = G.st.tm) :
    Lg.At ⟨G.p, sA, sc, G.tA, G.tc, l⟩ v N C w2 ∧ Chg (G.LS v C w) w w2 ∧ Gr G ⟨G.p, sA, sc, G.tA, G.tc, l⟩ w.heap.size := by
  have hd1 : v.At N C w1 := h.hd.off hg1 fun g hg => ⟨_, (h.hs.own hg).1, by decide, by decide, by decide, .inr fun x hx e => h.sep x hx g e hg⟩
  have hb1 : Blk w1 G.p 83 (G.cs v) := h.hb.grown hg1 (fun e => absurd ((h.hs.own e.symm).1.fun_ h.hb.isT) (by decide))
  have ht1 : w1.ownsRow N 35 1 G.ts G.st.tm.length (nums .u64 G.st.tm) := h.ht.kept hg1 (by
    cases e : G.ts.ownBlock with
    | none => exact .inl rfl
    | some g => exact .inr fun e2 => absurd ((own_isT h.ht e).1.fun_ (h.hs.own e2.symm).1) (by decide))
  have c1 : Chg (G.LS v C w) w w1 := Chg.of_grown hg1 fun g hg => .inr (.inr (.inr (.inr (.inl hg))))
  have c12 : Chg (fun g => g = G.p) w1 w2 := Chg.of_grown hg2 fun g hg => by injection hg with hg; exact hg.symm
  have c2 : Chg (G.LS v C w) w w2 := c1.trans c12 fun g _ e => .inr (.inr (.inr (.inl e)))
  have hT := hb1.isT
  refine ⟨⟨hd1.off hg2 fun g hg => ⟨_, by injection hg with hg; subst hg; exact hT, by decide, by decide, by decide, .inl (by decide)⟩, hb, .inl (ho.kept hg2 (.inr fun e => absurd (hT.fun_ (own_isT ho e).1) (by decide))), ?_, fun x hx g hg e => ?_, h.hN, h.tab.low (h.below c2) h.tN, h.tN⟩, c2, ⟨rfl, hor, fun g hg => .inl ?_⟩⟩
  · show w2.ownsRow N 35 1 (.slice G.tA l.tm.length G.tc) l.tm.length (nums .u64 l.tm)
    rw [hl]
    exact ht1.kept hg2 (.inr fun e => absurd (hT.fun_ (own_isT ht1 e).1) (by decide))
  · rcases hor g e with h1 | h1
    · exact h.sep x hx g hg h1
    · have : Dat w x [] → False := fun hd => by have := hd.len; simp at this
      have hdat : ∃ zs, Dat w x zs := by
        rcases hx with ⟨y, hy, rfl⟩ | ⟨y, hy, rfl⟩
        · exact ⟨_, h.hd.kd y hy⟩
        · exact ⟨_, (h.hd.pd y hy).2⟩
      obtain ⟨zs, b, off, c, cs, rfl, _, hbk, _⟩ := hdat
      have e2 : b = g := by injection hg
      have := hbk.lt
      omega
  · have hg : Value.ownBlock (.slice G.tA l.tm.length G.tc) = some g := hg
    rwa [hl] at hg
theorem At.toL (h : G.At v N C w) : G.To v N C v.abs G.st w w := ⟨G, v, h, rfl, rfl, rfl, rfl, Chg.of_ext (Ext.refl _), Gr.refl _ _⟩
end Lg
theorem lsync (h : G.At v N C w) {m : Nat} (hok : v.abs.Ok m) (hm : m ≤ 1000000) : Calls Tryd.prog 15 #[G.ptr] w fun e w' => e = .returned (.int .i64 (syncL v.abs G.st).2.2) ∧ G.To v N C (syncL v.abs G.st).1 (syncL v.abs G.st).2.1 w w' := by
  have hb := h.hb
  refine enter Tryd.func15 rfl (by kernel_rfl) ?_
  refine J.seq ?_
  refine J.region ?_
  refine L.va rfl (X.assign (by conv => lhs; whnf)) ?_
  refine L.nil ?_
  refine J.seq ?_
  refine J.seq ?_
  refine J.region ?_
  refine L.va rfl (X.move (by conv => lhs; whnf)) ?_
  refine L.call rfl en_45 rfl (lfine h) ?_
  rintro e _ ⟨rfl, rfl⟩
  refine ⟨_, rfl, ?_⟩
  refine L.va rfl (X.assign (by conv => lhs; whnf)) ?_
  refine L.nil ?_
  refine J.seq ?_
  refine J.region ?_
  refine L.va rfl (X.move (by conv => lhs; whnf)) ?_
  refine L.va rfl (X.neq rfl rfl) ?_
  refine L.nil ?_
  refine J.ndec rfl (fun h1 => ?_) (fun h1 => ?_)
  · have e : syncL v.abs G.st = (v.abs, G.st, G.st.bad) := if_pos h1
    rw [e]
    refine J.seq ?_
    refine J.region ?_
    refine L.va rfl (X.move (by conv => lhs; whnf)) ?_
    refine L.va rfl (X.assign (by conv => lhs; whnf)) ?_
    refine L.nil ?_
    refine J.ret ?_
    refine thn_ret <| ?_
    refine fin1 ?_
    exact ⟨rfl, h.toL⟩
  · have e : syncL v.abs G.st = ((v.abs.do_ ⟨2, 0, [], true, []⟩).1, { G.st with bad := (v.abs.do_ ⟨2, 0, [], true, []⟩).2.2 }, (v.abs.do_ ⟨2, 0, [], true, []⟩).2.2) := if_neg (by omega)
    rw [e]
    obtain ⟨r, hr⟩ : ∃ r, r = v.abs.do_ ⟨2, 0, [], true, []⟩ := ⟨_, rfl⟩
    have K := h.hd.flush_anyF hok hm ⟨2, 0, [], true, []⟩ rfl
    rw [← hr] at K ⊢
    refine J.skip ?_
    refine J.seq ?_
    refine J.region ?_
    refine L.va rfl (X.move (by conv => lhs; whnf)) ?_
    refine L.va rfl (X.move (by conv => lhs; whnf)) ?_
    refine L.va rfl (X.nilCheck rfl) ?_
    refine L.va rfl (X.fieldAddr rfl Tryd.underlying83 rfl sz_26 (by decide)) ?_
    refine L.va rfl (X.load rfl sc_26 (by first | exact Ld.blk hb rfl)) ?_
    refine L.call rfl en_32 rfl (K) ?_
    rintro e w1 ⟨rfl, ⟨v1, p1, p2, p3, p4, p5, p6⟩, _⟩
    refine ⟨_, rfl, ?_⟩
    have H1 := h.disk p1 p2 p5 p6
    have hb1 := H1.hb
    have c1 : Chg (G.LS v C w) w w1 := Lg.chg_kq (Chg.of_ext (Ext.refl _)) rfl rfl (Lg.Gr.refl _ _) p5
    refine L.va rfl (X.nilCheck rfl) ?_
    refine L.va rfl (X.fieldAddr rfl Tryd.underlying83 rfl sz_27 (by decide)) ?_
    refine L.store rfl rfl (by conv => lhs; whnf) rfl sz_27 (hb1) (by first | decide | exact Nat.le_of_ble_eq_true rfl) ?_
    intro w2 hb2 hg2 hs2
    obtain ⟨H2, c2, g2⟩ := H1.put' (l := { G.st with bad := r.2.2 }) (sA := G.sA) (sc := G.sc) (tA := G.tA) (tc := G.tc) hg2 hb2 H1.hs rfl H1.ht rfl
    refine L.nil ?_
    refine J.seq ?_
    refine J.region ?_
    refine L.va rfl (X.move (by conv => lhs; whnf)) ?_
    refine L.va rfl (X.nilCheck rfl) ?_
    refine L.va rfl (X.fieldAddr rfl Tryd.underlying83 rfl sz_27 (by decide)) ?_
    refine L.va rfl (X.load rfl sc_27 (by first | exact Ld.blk hb2 rfl)) ?_
    refine L.va rfl (X.assign (by conv => lhs; whnf)) ?_
    refine L.nil ?_
    refine J.ret ?_
    refine fin1 ?_
    exact ⟨rfl, _, v1, H2, p2, p3, p4, rfl, Lg.chg_trans c1 p2 p3 (Lg.Gr.refl _ _) c2, (Lg.Gr.refl G _).trans g2 c1.size⟩
end
end Go.Proofs.YtjdimgigbgafbaaDoor
namespace Go.Proofs.YtjdimgigbgafbaaDoor
set_option maxRecDepth 100000
open Go.RowKit H
open Lo Byts Seal Fram
set_option linter.unusedVariables false
theorem secL_len (ep nx : Int) (body : List Int) (h : body.length ≤ 1001) : (secL ep nx body).length = 1024 := by
  unfold secL sec
  rw [List.length_append, hd_length _ _ _ _ h]
  rfl
theorem be2_is (i : Nat) : be 2 (i : Int) = [IntKind.u8.wrap ((i : Int) / 2 ^ min (8 : Int).toNat IntKind.i64.bits), IntKind.u8.wrap (i : Int)] := by
  have e : be 2 (i : Int) = [(i : Int) / 256 % 256, (i : Int) / 1 % 256] := rfl
  rw [e, Int.ediv_one]
  rfl
theorem shB_bytes {i : Nat} {p : Int} {ch : List Int} (h : Bytes ch) : Bytes (shB i p ch) := by
  intro z hz
  unfold shB at hz
  rcases List.mem_append.1 hz with hz | hz
  · exact be_bytes _ _ z hz
  · rcases List.mem_append.1 hz with hz | hz
    · exact be_bytes _ _ z hz
    · exact h z hz
theorem chunk_le (l : Ls) (i : Nat) : (chunk l i).length ≤ 991 := by unfold chunk; rw [List.length_take]; omega
theorem chunk_bytes {l : Ls} (h : Bytes l.sm) (i : Nat) : Bytes (chunk l i) := fun z hz => h z (List.mem_of_mem_drop (List.mem_of_mem_take hz))
theorem Lg.At.cskeep {G : Lg} {v v' : Dk} {N : Nat} {C : Nat → Prop} {w w' : World} (h : G.At v N C w) (hv : v'.At N C w') (hd : v'.d = v.d) (k : Kq v.kb v.d C w w') (hF : v.Fr v' w.heap.size) : Blk w' G.p 83 (G.cs v) := by
  have := (h.disk hv hd k hF).hb
  rwa [show G.cs v' = G.cs v by unfold Lg.cs Dk.ptr; rw [hd]] at this
section
variable {G : Lg} {v : Dk} {N : Nat} {C : Nat → Prop} {w w' : World}
theorem lwrite (h : G.At v N C w) {m : Nat} (hok : v.abs.Ok m) (hm : m ≤ 1000000) (i : Nat) (hi : i ≤ G.st.tm.length) (hi2 : i * 991 ≤ G.st.sm.length) (h8 : i ≤ 8192) (hfr : G.st.fr ≤ 8192) (hn : 0 ≤ G.st.nx ∧ G.st.nx ≤ 4611686018427387904) (hep : 0 ≤ G.st.ep ∧ G.st.ep ≤ 18446744073709551615) (hby : Bytes G.st.sm) (hsl : G.st.sm.length ≤ 9000000) (htt : ∀ t ∈ G.st.tm, 0 ≤ t ∧ t ≤ 4611686018427387904) :
    Calls Tryd.prog 47 #[G.ptr, .int .i64 (i : Int)] w fun e w' => e = .returned (.int .i64 (wrL v.abs G.st i).2.2) ∧ G.To v N C (wrL v.abs G.st i).1 (wrL v.abs G.st i).2.1 w w' := by
  have hb := h.hb
  have ht := Reads.of_own h.ht
  have htl : G.st.tm.length = G.st.tm.length := rfl
  have hsb := h.hs.bd
  have htb := own_bd h.ht
  have hNw := h.hd.nsz
  obtain ⟨p, hp⟩ : ∃ p, p = prevL G.st i := ⟨_, rfl⟩
  have hpb : 0 ≤ p ∧ p ≤ 18446744073709551615 := by
    rw [hp]
    unfold prevL
    split
    · omega
    · have : i - 1 < G.st.tm.length := by omega
      rw [List.getD, List.getElem?_eq_getElem this]
      have := htt _ (List.getElem_mem this)
      show 0 ≤ G.st.tm[i - 1] ∧ G.st.tm[i - 1] ≤ 18446744073709551615
      omega
  refine enter Tryd.func47 rfl (by kernel_rfl) ?_
  refine J.seq ?_
  refine J.region ?_
  refine L.va rfl (X.assign (by conv => lhs; whnf)) ?_
  refine L.nil ?_
  refine J.seq ?_
  refine J.region ?_
  refine L.va rfl (X.assign (by conv => lhs; whnf)) ?_
  refine L.nil ?_
  refine J.cut (X := Unit) [5, 11, 12, 13, 14, 15, 16, 17, 18, 19, 20] (fun _ => [(5, .int .u64 p)]) (fun _ w' => w' = w) ?_ ?_
  · refine J.seq ?_
    refine J.region ?_
    refine L.va rfl (X.move (by conv => lhs; whnf)) ?_
    refine L.va rfl (X.gtr rfl rfl) ?_
    refine L.nil ?_
    refine J.dec rfl (fun h0 => ?_) (fun h0 => ?_)
    · have hA := ht.some_ (by omega)
      obtain ⟨k, rfl⟩ : ∃ k, i = k + 1 := ⟨i - 1, by omega⟩
      have ep : p = G.st.tm.getD (((k + 1 : Nat) : Int) - 1).toNat 0 := by
        rw [hp, prevL, if_neg (by omega), show (((k + 1 : Nat) : Int) - 1).toNat = k by omega]
        rfl
      rw [ep]
      refine J.region ?_
      refine L.va rfl (X.move (by conv => lhs; whnf)) ?_
      refine L.va rfl (X.nilCheck rfl) ?_
      refine L.va rfl (X.fieldAddr rfl Tryd.underlying83 rfl sz_40 (by decide)) ?_
      refine L.va rfl (X.load rfl sc_40 (by first | exact Ld.blk hb rfl | exact Ld.num ht (by omega) | exact hA)) ?_
      refine L.va rfl (X.move (by conv => lhs; whnf)) ?_
      refine L.va rfl (X.sub rfl rfl (by omega)) ?_
      refine L.va rfl ((by first | exact X.index1n rfl rfl Tryd.underlying40 sz_35 (by first | exact Option.some_ne_none _ | exact ht.some_ (by omega) | exact hA) (by omega) | exact X.index1 rfl rfl Tryd.underlying40 sz_35 (by first | exact Option.some_ne_none _ | exact ht.some_ (by omega) | exact hA) (by omega))) ?_
      refine L.va rfl (X.load rfl sc_35 (by first | exact Ld.blk hb rfl | exact Ld.num ht (by omega) | exact hA)) ?_
      refine L.va rfl (X.assign (by conv => lhs; whnf)) ?_
      refine L.nil ?_
      refine ⟨(), At1 (by first | rfl | exact at_int rfl (by omega) | exact at_slice rfl (by omega) | exact at_int rfl (by simp)), (by (iterate 11 refine Agr.lk rfl ?_); exact Agr.rfl'), ?_⟩
      rfl
    · have e0 : p = 0 := by rw [hp, prevL, if_pos (by omega)]
      rw [e0]
      refine J.skip ?_
      refine ⟨(), At1 (by first | rfl | exact at_int rfl (by omega) | exact at_slice rfl (by omega) | exact at_int rfl (by simp)), (by (iterate 2 refine Agr.lk rfl ?_); exact Agr.rfl'), ?_⟩
      rfl
  · rintro _ g w1 rfl
    refine J.seq ?_
    refine J.region ?_
    refine L.va rfl (X.move (by conv => lhs; whnf)) ?_
    refine L.va rfl (X.shr rfl rfl (by omega)) ?_
    refine L.va rfl ((by first | exact X.conv8 rfl is_3 Tryd.underlying5 (by omega) | exact X.convw rfl is_3 Tryd.underlying5)) ?_
    refine L.va rfl (X.move (by conv => lhs; whnf)) ?_
    refine L.va rfl ((by first | exact X.conv8 rfl is_3 Tryd.underlying5 (by omega) | exact X.convw rfl is_3 Tryd.underlying5)) ?_
    refine L.bslice (vs := [_, _]) rfl (Evs.cons (by conv => lhs; whnf) (Evs.cons (by conv => lhs; whnf) Evs.nil)) rfl rfl rfl rfl Tryd.underlying39 sz_5 zr_5 (by decide) ?_
    intro b2 w2 hb2 hs2 hk2 he2
    have hk2 : Blk w2 b2 5 (nums .u8 (be 2 (i : Int))).toArray := by rw [be2_is]; exact hk2
    have ho2 : w2.ownsRow w1.heap.size 5 1 (.slice (some ⟨b2, 0, none⟩) 2 2) 2 (nums .u8 (be 2 (i : Int))) := blk_own1 (q := 2) hk2 (by omega) (by decide) (by simp [nums, be_length])
    have e08 : be 2 (i : Int) ++ (be 8 p).take 0 = be 2 (i : Int) := by simp
    refine L.va rfl (X.assign (by conv => lhs; whnf)) ?_
    refine L.nil ?_
    refine J.seq ?_
    refine J.seq ?_
    refine J.region ?_
    refine L.va rfl (X.move (by conv => lhs; whnf)) ?_
    refine L.nil ?_
    refine J.block ?_
    refine J.loop (X := Nat × Option Addr × Nat) [6, 7, 27, 28, 29, 30, 31, 32, 33, 34, 35, 36, 37, 38, 39] (fun (k, B, d) => [(27, .int .i64 (k : Int)), (6, .slice B (2 + k) d)]) (fun (k, B, d) w' => k ≤ 8 ∧ w'.ownsRow w1.heap.size 5 1 (.slice B (2 + k) d) (2 + k) (nums .u8 (be 2 (i : Int) ++ (be 8 p).take k)) ∧ Ext w1 w') (fun (k, _) => 8 - k) ((0, some ⟨b2, 0, none⟩, 2)) (At2 (by first | rfl | exact at_int rfl (by omega) | exact at_slice rfl (by omega) | exact at_int rfl (by simp)) (by first | rfl | exact at_int rfl (by omega) | exact at_slice rfl (by omega) | exact at_int rfl (by simp))) ?_ ?_
    · exact ⟨by omega, by rw [e08]; exact ho2, he2⟩
    · rintro ⟨k, B, d⟩ g w3 ⟨hk, ho3, he3⟩
      have z3 := he3.le
      refine J.seq ?_
      refine J.region ?_
      refine L.va rfl (X.lss rfl rfl) ?_
      refine L.nil ?_
      refine J.seq ?_
      refine J.dec rfl (fun hlt => ?_) (fun hlt => ?_)
      · have hk8 : k < 8 := by omega
        have hbx := byte_at p (7 - k) hpb.1 (by omega) (z := 56 - 8 * (k : Int)) (by omega)
        have hgd := be_getD 8 p k hk8
        refine J.skip ?_
        refine J.seq ?_
        refine J.block ?_
        refine J.seq ?_
        refine J.region ?_
        refine L.va rfl (X.move (by conv => lhs; whnf)) ?_
        refine L.va rfl (X.assign (by conv => lhs; whnf)) ?_
        refine L.nil ?_
        refine J.region ?_
        refine L.va rfl (X.move (by conv => lhs; whnf)) ?_
        refine L.va rfl (X.move (by conv => lhs; whnf)) ?_
        refine L.va rfl (X.move (by conv => lhs; whnf)) ?_
        refine L.va rfl (X.mul rfl rfl (by omega)) ?_
        refine L.va rfl (X.sub rfl rfl (by omega)) ?_
        refine L.va rfl (X.shr rfl rfl (by omega)) ?_
        refine L.va rfl ((by first | exact X.conv8 rfl is_35 Tryd.underlying5 (by omega) | exact X.convw rfl is_35 Tryd.underlying5)) ?_
        refine L.bslice (vs := [_]) rfl (Evs.cons (by conv => lhs; whnf) Evs.nil) rfl rfl rfl rfl Tryd.underlying39 sz_5 zr_5 (by decide) ?_
        intro b4 w4 hb4 hs4 hk4 he4
        rw [hbx] at hk4
        have e4 : (be 2 (i : Int) ++ (be 8 p).take k) ++ [p / 256 ^ (7 - k) % 256] = be 2 (i : Int) ++ (be 8 p).take (k + 1) := by
          rw [List.append_assoc]
          congr 1
          have hl : k < (be 8 p).length := by rw [be_length]; exact hk8
          rw [List.take_succ_eq_append_getElem hl]
          congr 2
          have := be_getD 8 p k hk8
          rw [show 7 - k = 8 - 1 - k by omega, ← this]
          simp [List.getD, hl]
        refine L.appendQ (q := 2 + (k + 1)) (ys := (be 2 (i : Int) ++ (be 8 p).take k) ++ [p / 256 ^ (7 - k) % 256]) rfl rfl rfl Tryd.underlying39 el_5 (ho3.ext he4) ((blk_reads (q := 1) (l := nums .u8 [p / 256 ^ (7 - k) % 256]) hk4 (by omega : b4 < w4.heap.size) rfl)) (by omega) (by simp) (by unfold maxLen; omega) (by omega) ?_
        intro A5 c5 w5 ho5 hg5 hb5 hor5
        rw [e4] at ho5
        refine L.va rfl (X.assign (by conv => lhs; whnf)) ?_
        refine L.nil ?_
        refine J.region ?_
        refine L.va rfl (X.add rfl rfl (by omega)) ?_
        refine L.va rfl (X.move (by conv => lhs; whnf)) ?_
        refine L.nil ?_
        refine ⟨(k + 1, A5, c5), At2 (by first | rfl | exact at_int rfl (by omega) | exact at_slice rfl (by omega) | exact at_int rfl (by simp)) (by first | rfl | exact at_int rfl (by omega) | exact at_slice rfl (by omega) | exact at_int rfl (by simp)), (by (iterate 15 refine Agr.lk rfl ?_); exact Agr.lk rfl (Agr.hav rfl Agr.rfl')), ?_⟩
        exact ⟨⟨by omega, ho5, (he3.trans he4).low hb5 (Nat.le_refl _)⟩, by show 8 - (k + 1) < 8 - k; omega⟩
      · obtain rfl : k = 8 := by omega
        have eB : be 2 (i : Int) ++ (be 8 p).take 8 = be 2 (i : Int) ++ be 8 p := by rw [List.take_of_length_le (by rw [be_length]; omega)]
        rw [eB] at ho3
        have hb3 := hb.ext he3
        have hcl := chunk_le G.st i
        refine J.exit ?_
        refine J.cut (X := Option Addr × Nat) [6, 40, 41, 42, 43, 44, 45, 46, 47, 48, 49, 50, 51, 52, 53, 54, 55, 56, 57] (fun (B, d) => [(6, .slice B (shB i p (chunk G.st i)).length d)]) (fun (B, d) w' => w'.ownsRow w1.heap.size 5 1 (.slice B (shB i p (chunk G.st i)).length d) (shB i p (chunk G.st i)).length (nums .u8 (shB i p (chunk G.st i))) ∧ Ext w1 w') ?_ ?_
        · obtain ⟨a, ha⟩ : ∃ a, a = ((i : Int) * 991).toNat := ⟨_, rfl⟩
          obtain ⟨j, hj⟩ : ∃ j, j = (min (((i : Int) + 1) * 991) (G.st.sm.length : Int)).toNat := ⟨_, rfl⟩
          have ea : a = i * 991 := by omega
          have ej : j = min ((i + 1) * 991) G.st.sm.length := by omega
          have ec : (G.st.sm.drop a).take (j - a) = chunk G.st i := by
            unfold chunk
            rw [ea, List.take_eq_take_iff, List.length_drop]
            omega
          have hcl2 : (chunk G.st i).length = j - a := by rw [← ec, List.length_take, List.length_drop]; omega
          have esh : (be 2 (i : Int) ++ be 8 p) ++ chunk G.st i = shB i p (chunk G.st i) := by unfold shB; rw [List.append_assoc]
          have el : (shB i p (chunk G.st i)).length = 2 + 8 + (j - a) := by rw [← esh, List.length_append, List.length_append, be_length, be_length, hcl2]
          have hrd := part_nums (i := a) (j := j) h.hs.reads (by omega) (by omega) hsb.1
          rw [ec] at hrd
          refine J.draw (ℓ := 1000000) (S := (fun w' => Ext w1 w')) mixed (fun w4 hSE hS_h => ?_)
          have hS : ((fun w' => Ext w1 w')) w4 := he3.trans hSE
          have z4 := hS.le
          refine D.va 0 rfl (by kernel_rfl) (fun _ _ _ h => h) rfl (fun w' hw => X.move (by conv => lhs; whnf)) hS ?_
          refine D.va 1 rfl (by kernel_rfl) (fun _ _ _ h => h) rfl (fun w' hw => X.move (by conv => lhs; whnf)) hS ?_
          refine D.va 2 rfl (by kernel_rfl) (fun _ _ _ h => h) rfl (fun w' hw => X.nilCheck rfl) hS ?_
          refine D.va 3 rfl (by kernel_rfl) (fun _ _ _ h => h) rfl (fun w' hw => X.fieldAddr rfl Tryd.underlying83 rfl sz_39 (by decide)) hS ?_
          refine D.va 4 rfl (by kernel_rfl) (fun _ _ _ h => h) rfl (fun w' hw => X.load rfl sc_39 (by first | exact Ld.blk (hb.ext hw) rfl)) hS ?_
          refine D.va 5 rfl (by kernel_rfl) (fun _ _ _ h => h) rfl (fun w' hw => X.move (by conv => lhs; whnf)) hS ?_
          refine D.va 6 rfl (by kernel_rfl) (fun _ _ _ h => h) rfl (fun w' hw => X.mul rfl rfl (by omega)) hS ?_
          refine D.va 7 rfl (by kernel_rfl) (fun _ _ _ h => h) rfl (fun w' hw => X.move (by conv => lhs; whnf)) hS ?_
          refine D.va 8 rfl (by kernel_rfl) (fun _ _ _ h => h) rfl (fun w' hw => X.add rfl rfl (by omega)) hS ?_
          refine D.va 9 rfl (by kernel_rfl) (fun _ _ _ h => h) rfl (fun w' hw => X.mul rfl rfl (by omega)) hS ?_
          refine D.va 10 rfl (by kernel_rfl) (fun _ _ _ h => h) rfl (fun w' hw => X.move (by conv => lhs; whnf)) hS ?_
          refine D.va 11 rfl (by kernel_rfl) (fun _ _ _ h => h) rfl (fun w' hw => X.nilCheck rfl) hS ?_
          refine D.va 12 rfl (by kernel_rfl) (fun _ _ _ h => h) rfl (fun w' hw => X.fieldAddr rfl Tryd.underlying83 rfl sz_39 (by decide)) hS ?_
          refine D.va 13 rfl (by kernel_rfl) (fun _ _ _ h => h) rfl (fun w' hw => X.load rfl sc_39 (by first | exact Ld.blk (hb.ext hw) rfl)) hS ?_
          refine D.va 14 rfl (by kernel_rfl) (fun _ _ _ h => h) rfl (fun w' hw => X.len rfl Tryd.underlying39) hS ?_
          refine D.va 15 rfl (by kernel_rfl) (fun _ _ _ h => h) rfl (fun w' hw => X.min2 rfl rfl) hS ?_
          refine D.va 16 rfl (by kernel_rfl) (fun _ _ _ h => h) rfl (fun w' hw => (by first | exact X.slicen rfl rfl rfl Tryd.underlying39 sz_5 (by omega) | exact X.slice rfl rfl rfl Tryd.underlying39 sz_5 (by omega))) hS ?_
          rw [← ha, ← hj]
          refine D.one 17 (by kernel_rfl) rfl ?_
          refine L.appendQ (q := 2 + 8 + (j - a)) (ys := (be 2 (i : Int) ++ be 8 p) ++ chunk G.st i) rfl rfl rfl Tryd.underlying39 el_5 (ho3.ext hSE) ((hrd.ext hS)) (by omega) (by simp) (by unfold maxLen; omega) (by omega) ?_
          intro A5 c5 w5 ho5 hg5 hb5 hor5
          have hS1 := hS.low hb5 (Nat.le_refl _)
          refine L.nil ?_
          refine ⟨fun _ => hS1, ?_⟩
          rw [esh] at ho5
          refine D.va 18 rfl (by kernel_rfl) (fun _ _ _ h => h) rfl (fun w' hw => X.assign (by conv => lhs; whnf)) hS1 ?_
          refine D.done (by kernel_rfl) ?_
          replace hb := hb.ext hS1
          refine ⟨(A5, c5), At1 (by rw [el]; rfl), (by (iterate 19 refine Agr.lk rfl ?_); exact Agr.rfl'), ?_⟩
          rw [el]
          exact ⟨ho5, hS1⟩
        · rintro ⟨B5, d5⟩ g w5 ⟨ho5, he5⟩
          obtain ⟨bd, hbd⟩ : ∃ bd, bd = shB i p (chunk G.st i) := ⟨_, rfl⟩
          have hbl : bd.length ≤ 1001 := by
            rw [hbd]
            unfold shB
            rw [List.length_append, List.length_append, be_length, be_length]
            omega
          have hbb : Bytes bd := by rw [hbd]; exact shB_bytes (chunk_bytes hby i)
          rw [← hbd] at ho5 ⊢
          have hb5 := hb.ext he5
          have z5 := he5.le
          have H5 := h.ext he5
          have wr : wrL v.abs G.st i = ((v.abs.do_ ⟨1, ((G.st.fr + i : Nat) : Int), secL G.st.ep G.st.nx bd, true, []⟩).1, if (v.abs.do_ ⟨1, ((G.st.fr + i : Nat) : Int), secL G.st.ep G.st.nx bd, true, []⟩).2.2 = 0 then { G.st with tm := G.st.tm.take i ++ [G.st.nx], nx := G.st.nx + 1 } else G.st, (v.abs.do_ ⟨1, ((G.st.fr + i : Nat) : Int), secL G.st.ep G.st.nx bd, true, []⟩).2.2) := by rw [hbd, hp]; rfl
          rw [wr]
          refine J.cut (X := Nat) [8, 9, 58, 59, 60, 61, 62, 63, 64, 65, 66, 67, 68, 69, 70, 71] (fun b => [(8, .slice (some ⟨b, 0, none⟩) 1024 1024), (9, .int .i64 0)]) (fun b w' => Blk w' b 5 (nums .u8 (secL G.st.ep G.st.nx bd)).toArray ∧ w5.heap.size ≤ b ∧ Ext w5 w') ?_ ?_
          · refine J.draw (ℓ := 1000000) (S := Ext w5) mixed (fun w6 hS hS_h => ?_)
            refine D.va 0 rfl (by kernel_rfl) (fun _ _ _ h => h) rfl (fun w' hw => X.move (by conv => lhs; whnf)) hS ?_
            refine D.va 1 rfl (by kernel_rfl) (fun _ _ _ h => h) rfl (fun w' hw => X.nilCheck rfl) hS ?_
            refine D.va 2 rfl (by kernel_rfl) (fun _ _ _ h => h) rfl (fun w' hw => X.fieldAddr rfl Tryd.underlying83 rfl sz_35 (by decide)) hS ?_
            refine D.va 3 rfl (by kernel_rfl) (fun _ _ _ h => h) rfl (fun w' hw => X.load rfl sc_35 (by first | exact Ld.blk (hb5.ext hw) rfl)) hS ?_
            refine D.va 4 rfl (by kernel_rfl) (fun _ _ _ h => h) rfl (fun w' hw => X.move (by conv => lhs; whnf)) hS ?_
            refine D.va 5 rfl (by kernel_rfl) (fun _ _ _ h => h) rfl (fun w' hw => X.nilCheck rfl) hS ?_
            refine D.va 6 rfl (by kernel_rfl) (fun _ _ _ h => h) rfl (fun w' hw => X.fieldAddr rfl Tryd.underlying83 rfl sz_35 (by decide)) hS ?_
            refine D.va 7 rfl (by kernel_rfl) (fun _ _ _ h => h) rfl (fun w' hw => X.load rfl sc_35 (by first | exact Ld.blk (hb5.ext hw) rfl)) hS ?_
            refine D.va 8 rfl (by kernel_rfl) (fun _ _ _ h => h) rfl (fun w' hw => X.move (by conv => lhs; whnf)) hS ?_
            refine D.va 9 rfl (by kernel_rfl) (fun _ _ _ h => h) rfl (fun w' hw => X.build (l := [_, _, _, _]) (Evs.cons (by conv => lhs; whnf) (Evs.cons (by conv => lhs; whnf) (Evs.cons (by conv => lhs; whnf) (Evs.cons (by conv => lhs; whnf) Evs.nil)))) (bld_run Tryd.underlying75 (bp_75 Tryd.underlying75) zr_75 rfl)) hS ?_
            refine D.one 10 (by kernel_rfl) rfl ?_
            refine L.call rfl en_63 rfl (put_ok 1 G.st.ep G.st.nx B5 bd.length d5 bd w6 (tabx H5.tab hS) (by omega) (by omega) hep.1 hep.2 hn.1 (by omega) hbl (Reads.of_own (ho5.ext hS)) hbb) ?_
            rintro e w7 ⟨rfl, hk7, he7⟩
            refine ⟨_, rfl, ?_⟩
            have hS1 := hS.trans he7
            refine L.nil ?_
            refine ⟨fun _ => hS1, ?_⟩
            have q6 := hS.le
            refine D.va 11 rfl (by kernel_rfl) (fun _ _ _ h => h) rfl (fun w' hw => X.move (by conv => lhs; whnf)) hS1 ?_
            refine D.va 12 rfl (by kernel_rfl) (fun _ _ _ h => h) rfl (fun w' hw => X.extract rfl rfl) hS1 ?_
            refine D.va 13 rfl (by kernel_rfl) (fun _ _ _ h => h) rfl (fun w' hw => X.extract rfl rfl) hS1 ?_
            refine D.va 14 rfl (by kernel_rfl) (fun _ _ _ h => h) rfl (fun w' hw => X.assign (by conv => lhs; whnf)) hS1 ?_
            refine D.va 15 rfl (by kernel_rfl) (fun _ _ _ h => h) rfl (fun w' hw => X.assign (by conv => lhs; whnf)) hS1 ?_
            refine D.done (by kernel_rfl) ?_
            replace hb5 := hb5.ext hS1
            refine ⟨w6.heap.size + 1, At2 (by first | rfl | exact at_int rfl (by omega) | exact at_slice rfl (by omega) | exact at_int rfl (by simp)) (by first | rfl | exact at_int rfl (by omega) | exact at_slice rfl (by omega) | exact at_int rfl (by simp)), (by (iterate 16 refine Agr.lk rfl ?_); exact Agr.rfl'), ?_⟩
            exact ⟨hk7, by omega, hS1⟩
          · rintro b8 g w6 ⟨hk6, hb6, he6⟩
            have he06 := he5.trans he6
            have H6 := h.ext he06
            have hb6' := hb.ext he06
            have hsl : (secL G.st.ep G.st.nx bd).length = 1024 := secL_len _ _ _ hbl
            have ho6 : w6.ownsRow w1.heap.size 5 1 (.slice (some ⟨b8, 0, none⟩) 1024 1024) 1024 (nums .u8 (secL G.st.ep G.st.nx bd)) := blk_own1 hk6 (by omega) (by decide) (by simp [nums, hsl])
            refine J.seq ?_
            refine J.seq ?_
            refine J.region ?_
            refine L.va rfl (X.move (by conv => lhs; whnf)) ?_
            refine L.va rfl (X.neq rfl rfl) ?_
            refine L.nil ?_
            refine J.iteF rfl ?_
            refine J.skip ?_
            refine J.seq ?_
            obtain ⟨x, hx⟩ : ∃ x : Dd, x = ⟨1, ((G.st.fr + i : Nat) : Int), secL G.st.ep G.st.nx bd, true, []⟩ := ⟨_, rfl⟩
            rw [← hx]
            refine J.cut (X := Unit) [10, 75, 76, 77, 78, 79, 80, 81, 82, 83, 84, 85, 86] (fun _ => [(10, .int .i64 (v.abs.do_ x).2.2)]) (fun _ w' => v.ToF N C (v.abs.do_ x).1 w6 w') ?_ ?_
            · skip
              refine J.draw (ℓ := 1000000) (S := (fun w' => Blk w' G.p 83 (G.cs v))) mixed (fun w7 hSE hS_h => ?_)
              have hS : ((fun w' => Blk w' G.p 83 (G.cs v))) w7 := hb6'.ext hSE
              have H7 := H6.ext hSE
              have K := H7.hd.write_anyF hok hm x (by rw [hx]) (Nat.le_refl N) (some ⟨b8, 0, none⟩) 1024 (fun _ => .inl (by rw [hx]; exact Dat.of_own (ho6.ext hSE)))
              rw [show x.bytes.length = 1024 by rw [hx]; exact hsl, show x.n = (G.st.fr : Int) + (i : Int) by rw [hx]; show ((G.st.fr + i : Nat) : Int) = _; omega] at K
              refine D.va 0 rfl (by kernel_rfl) (fun _ _ _ h => h) rfl (fun w' hw => X.move (by conv => lhs; whnf)) hS ?_
              refine D.va 1 rfl (by kernel_rfl) (fun _ _ _ h => h) rfl (fun w' hw => X.nilCheck rfl) hS ?_
              refine D.va 2 rfl (by kernel_rfl) (fun _ _ _ h => h) rfl (fun w' hw => X.fieldAddr rfl Tryd.underlying83 rfl sz_26 (by decide)) hS ?_
              refine D.va 3 rfl (by kernel_rfl) (fun _ _ _ h => h) rfl (fun w' hw => X.load rfl sc_26 (by first | exact Ld.blk hw rfl)) hS ?_
              refine D.va 4 rfl (by kernel_rfl) (fun _ _ _ h => h) rfl (fun w' hw => X.move (by conv => lhs; whnf)) hS ?_
              refine D.va 5 rfl (by kernel_rfl) (fun _ _ _ h => h) rfl (fun w' hw => X.nilCheck rfl) hS ?_
              refine D.va 6 rfl (by kernel_rfl) (fun _ _ _ h => h) rfl (fun w' hw => X.fieldAddr rfl Tryd.underlying83 rfl sz_3 (by decide)) hS ?_
              refine D.va 7 rfl (by kernel_rfl) (fun _ _ _ h => h) rfl (fun w' hw => X.load rfl sc_3 (by first | exact Ld.blk hw rfl)) hS ?_
              refine D.va 8 rfl (by kernel_rfl) (fun _ _ _ h => h) rfl (fun w' hw => X.move (by conv => lhs; whnf)) hS ?_
              refine D.va 9 rfl (by kernel_rfl) (fun _ _ _ h => h) rfl (fun w' hw => X.add rfl rfl (by omega)) hS ?_
              refine D.va 10 rfl (by kernel_rfl) (fun _ _ _ h => h) rfl (fun w' hw => X.move (by conv => lhs; whnf)) hS ?_
              refine D.one 11 (by kernel_rfl) rfl ?_
              refine L.call rfl en_31 rfl (K) ?_
              rintro e w8 ⟨rfl, ⟨v1, p1, p2, p3, p4, p5, p6⟩, _⟩
              refine ⟨_, rfl, ?_⟩
              have hS1 := (H7.cskeep p1 p2 p5 p6)
              refine L.nil ?_
              refine ⟨fun _ => hS1, ?_⟩
              refine D.va 12 rfl (by kernel_rfl) (fun _ _ _ h => h) rfl (fun w' hw => X.assign (by conv => lhs; whnf)) hS1 ?_
              refine D.done (by kernel_rfl) ?_
              refine ⟨(), At1 (by first | rfl | exact at_int rfl (by omega) | exact at_slice rfl (by omega) | exact at_int rfl (by simp)), (by (iterate 13 refine Agr.lk rfl ?_); exact Agr.rfl'), ?_⟩
              exact ⟨v1, p1, p2, p3, p4, (Kq.of_ext hSE).trans p5, fun y hy => (p6 y hy).imp id fun h2 g hg => Nat.le_trans hSE.le (h2 g hg)⟩
            · rintro _ g w7 ⟨v1, p1, p2, p3, p4, p5, p6⟩
              have H7 := H6.disk p1 p2 p5 p6
              have hb7 := H7.hb
              have c7 : Chg (G.LS v C w1) w1 w7 := Lg.chg_kq (Chg.of_ext he06) rfl rfl (Lg.Gr.refl _ _) p5
              refine J.seq ?_
              refine J.region ?_
              refine L.va rfl (X.move (by conv => lhs; whnf)) ?_
              refine L.va rfl (X.neq rfl rfl) ?_
              refine L.nil ?_
              refine J.ndec rfl (fun h0 => ?_) (fun h0 => ?_)
              · rw [if_neg (by omega)]
                refine J.seq ?_
                refine J.region ?_
                refine L.va rfl (X.move (by conv => lhs; whnf)) ?_
                refine L.va rfl (X.assign (by conv => lhs; whnf)) ?_
                refine L.nil ?_
                refine J.ret ?_
                refine thn_ret <| ?_
                refine fin1 ?_
                exact ⟨rfl, G, v1, H7, p2, p3, p4, rfl, c7, Lg.Gr.refl _ _⟩
              · have h00 : (v.abs.do_ x).2.2 = 0 := by omega
                rw [if_pos h00, h00]
                have htl7 : (G.st.tm.take i ++ [G.st.nx]).length = i + 1 := by rw [List.length_append, List.length_take]; simp; omega
                refine J.skip ?_
                refine J.seq ?_
                refine J.draw (ℓ := 15) (S := (fun w' => Blk w' G.p 83 (G.cs v1))) mixed (fun w8 hSE hS_h => ?_)
                have hS : ((fun w' => Blk w' G.p 83 (G.cs v1))) w8 := hb7.ext hSE
                have H8 := H7.ext hSE
                have z8 := hSE.le
                refine D.va 0 rfl (by kernel_rfl) (fun _ _ _ h => h) rfl (fun w' hw => X.move (by conv => lhs; whnf)) hS ?_
                refine D.va 1 rfl (by kernel_rfl) (fun _ _ _ h => h) rfl (fun w' hw => X.move (by conv => lhs; whnf)) hS ?_
                refine D.va 2 rfl (by kernel_rfl) (fun _ _ _ h => h) rfl (fun w' hw => X.nilCheck rfl) hS ?_
                refine D.va 3 rfl (by kernel_rfl) (fun _ _ _ h => h) rfl (fun w' hw => X.fieldAddr rfl Tryd.underlying83 rfl sz_40 (by decide)) hS ?_
                refine D.va 4 rfl (by kernel_rfl) (fun _ _ _ h => h) rfl (fun w' hw => X.load rfl sc_40 (by first | exact Ld.blk hw rfl)) hS ?_
                refine D.va 5 rfl (by kernel_rfl) (fun _ _ _ h => h) rfl (fun w' hw => X.move (by conv => lhs; whnf)) hS ?_
                refine D.va 6 rfl (by kernel_rfl) (fun _ _ _ h => h) rfl (fun w' hw => (by first | exact X.sliceTon rfl rfl Tryd.underlying40 sz_35 (by omega) | exact X.sliceTo rfl rfl Tryd.underlying40 sz_35 (by omega))) hS ?_
                refine D.va 7 rfl (by kernel_rfl) (fun _ _ _ h => h) rfl (fun w' hw => X.move (by conv => lhs; whnf)) hS ?_
                refine D.va 8 rfl (by kernel_rfl) (fun _ _ _ h => h) rfl (fun w' hw => X.nilCheck rfl) hS ?_
                refine D.va 9 rfl (by kernel_rfl) (fun _ _ _ h => h) rfl (fun w' hw => X.fieldAddr rfl Tryd.underlying83 rfl sz_35 (by decide)) hS ?_
                refine D.va 10 rfl (by kernel_rfl) (fun _ _ _ h => h) rfl (fun w' hw => X.load rfl sc_35 (by first | exact Ld.blk hw rfl)) hS ?_
                refine D.one 11 (by kernel_rfl) rfl ?_
                refine L.bslice (vs := [_]) rfl (Evs.cons (by conv => lhs; whnf) Evs.nil) rfl rfl rfl rfl Tryd.underlying40 sz_35 zr_35 (by decide) ?_
                intro b9 w9 hb9 hs9 hk9 he9
                have hS1 := hS.ext he9
                refine L.nil ?_
                refine ⟨fun _ => hS1, ?_⟩
                have H9 := H8.ext he9
                have hoT := own_cutN H9.ht hi
                have hne9 : some G.p ≠ Value.ownBlock (.slice G.tA i G.tc) := fun e => own_blk_ne hoT H9.hb (by decide) e.symm
                have hz9 := H9.hd.nsz
                refine D.one 12 (by kernel_rfl) rfl ?_
                refine L.appendQ (q := i + 1) (ys := G.st.tm.take i ++ [G.st.nx]) rfl rfl rfl Tryd.underlying40 el_35 (hoT) ((blk_reads (q := 1) (l := nums .u64 [G.st.nx]) hk9 hk9.lt rfl)) (by omega) (by simp) (by unfold maxLen; omega) (by omega) ?_
                intro A10 c10 w10 ho10 hg10 hb10 hor10
                have hS2 := hS1.grown hg10 hne9
                refine L.nil ?_
                refine ⟨fun _ => hS2, ?_⟩
                refine D.va 13 rfl (by kernel_rfl) (fun _ _ _ h => h) rfl (fun w' hw => X.nilCheck rfl) hS2 ?_
                refine D.va 14 rfl (by kernel_rfl) (fun _ _ _ h => h) rfl (fun w' hw => X.fieldAddr rfl Tryd.underlying83 rfl sz_40 (by decide)) hS2 ?_
                refine D.one 15 (by kernel_rfl) rfl ?_
                refine L.store rfl rfl (by conv => lhs; whnf) rfl sz_40 (hS2) (by first | decide | exact Nat.le_of_ble_eq_true rfl) ?_
                intro w11 hk11 hg11 hs11
                refine L.nil ?_
                refine ⟨fun h => absurd rfl h, ?_⟩
                refine D.done (by kernel_rfl) ?_
                obtain ⟨H11, c11, g11⟩ := H9.tput (l := { G.st with tm := G.st.tm.take i ++ [G.st.nx] }) (tA := A10) (tc := c10) (by rw [show G.ts.ownBlock = Value.ownBlock (.slice G.tA i G.tc) from ob_len _ _ _ _ _]; exact hg10) (by show w10.ownsRow N 35 1 (.slice A10 (G.st.tm.take i ++ [G.st.nx]).length c10) (G.st.tm.take i ++ [G.st.nx]).length _; rw [htl7]; exact ho10) (fun b hb => by
                  rw [show Value.ownBlock (.slice A10 (G.st.tm.take i ++ [G.st.nx]).length c10) = Value.ownBlock (.slice A10 (i + 1) c10) from ob_len _ _ _ _ _] at hb
                  rcases hor10 with e | e
                  · exact .inl (by rw [← hb, e]; exact ob_len _ _ _ _ _)
                  · rw [e] at hb
                    injection hb with hb
                    exact .inr (by omega)) hg11 (by unfold Lg.cs Lg.ts; dsimp only; rw [htl7]; exact hk11) rfl
                have hb11 : Blk w11 G.p 83 #[.bool true, v1.ptr, .int .i64 (G.st.fr : Int), .int .i64 (G.st.ct : Int), .int .u64 G.st.ep, .int .u64 G.st.nx, G.ss, .slice A10 (G.st.tm.take i ++ [G.st.nx]).length c10, .int .i64 G.st.bad] := H11.hb
                have c12 := Lg.chg_trans (Lg.chg_ext (Lg.chg_ext c7 hSE) he9) p2 p3 (Lg.Gr.refl G _) c11
                have g12 := (Lg.Gr.refl G w1.heap.size).trans g11 (Nat.le_trans c7.size (Nat.le_trans hSE.le he9.le))
                refine J.seq ?_
                refine J.region ?_
                refine L.va rfl (X.move (by conv => lhs; whnf)) ?_
                refine L.va rfl (X.nilCheck rfl) ?_
                refine L.va rfl (X.fieldAddr rfl Tryd.underlying83 rfl sz_35 (by decide)) ?_
                refine L.va rfl (X.load rfl sc_35 (by first | exact Ld.blk hb11 rfl | exact hn)) ?_
                refine L.va rfl (X.addU rfl rfl (by omega)) ?_
                refine L.va rfl (X.nilCheck rfl) ?_
                refine L.va rfl (X.fieldAddr rfl Tryd.underlying83 rfl sz_35 (by decide)) ?_
                refine L.store rfl rfl (by conv => lhs; whnf) rfl sz_35 (hb11) (by first | decide | exact Nat.le_of_ble_eq_true rfl) ?_
                intro w12 hb12 hg12 hs12
                obtain ⟨H12, c13, g13⟩ := H11.put' (l := { G.st with tm := G.st.tm.take i ++ [G.st.nx], nx := G.st.nx + 1 }) (sA := G.sA) (sc := G.sc) (tA := A10) (tc := c10) hg12 hb12 H11.hs rfl H11.ht rfl
                refine L.nil ?_
                refine J.seq ?_
                refine J.region ?_
                refine L.va rfl (X.assign (by conv => lhs; whnf)) ?_
                refine L.nil ?_
                refine J.ret ?_
                refine fin1 ?_
                exact ⟨rfl, _, v1, H12, p2, p3, p4, rfl, Lg.chg_trans c12 p2 p3 g12 c13, g12.trans g13 c12.size⟩
end
end Go.Proofs.YtjdimgigbgafbaaDoor
namespace Go.Proofs.YtjdimgigbgafbaaDoor
set_option maxRecDepth 100000
open Go.RowKit H
open Lo Byts Seal Fram
set_option linter.unusedVariables false
theorem wrL_good {s : Ds} {l : Ls} {i : Nat} (h : (wrL s l i).2.2 = 0) : (wrL s l i).2.1 = { l with tm := l.tm.take i ++ [l.nx], nx := l.nx + 1 } := if_pos h
theorem wrL_Ok {s : Ds} {l : Ls} {i m : Nat} (hs : s.Ok m) (h : l.fr + i ≤ 20000) : (wrL s l i).1.Ok (m + 1) := hs.do_ _ (show ((l.fr + i : Nat) : Int) ≤ 9223372036854775807 by omega)
structure Wr (l1 l : Ls) (first j : Nat) : Prop where
  fr : l.fr = l1.fr
  ct : l.ct = l1.ct
  ep : l.ep = l1.ep
  nx : l.nx = l1.nx + j
  sm : l.sm = l1.sm
  bad : l.bad = l1.bad
  tl : first + j ≤ l.tm.length
  tt : ∀ t ∈ l.tm, 0 ≤ t ∧ t ≤ 4611686018427387904
theorem Wr.next {l1 l : Ls} {first j : Nat} (h : Wr l1 l first j) (h0 : 0 ≤ l1.nx) (hn : l1.nx + j ≤ 4611686018427387904) : Wr l1 { l with tm := l.tm.take (first + j) ++ [l.nx], nx := l.nx + 1 } first (j + 1) := by
  have hx := h.nx
  have ht := h.tl
  refine ⟨h.fr, h.ct, h.ep, by show l.nx + 1 = l1.nx + ((j + 1 : Nat) : Int); omega, h.sm, h.bad, ?_, ?_⟩
  · show first + (j + 1) ≤ (l.tm.take (first + j) ++ [l.nx]).length
    rw [List.length_append, List.length_take]
    simp
    omega
  · intro t ht'
    rcases List.mem_append.1 ht' with h1 | h1
    · exact h.tt t (List.mem_of_mem_take h1)
    · obtain rfl : t = l.nx := by simpa using h1
      omega
section
variable {G : Lg} {v : Dk} {N : Nat} {C : Nat → Prop} {w w' : World}
theorem lappend (h : G.At v N C w) {m : Nat} (hok : v.abs.Ok m) (hm : m + 8192 ≤ 1000000) (hL : Lo.Ok G.st v.kp.length) (A : Option Addr) (n c : Nat) (zs : List Int) (hr : Reads w w.heap.size 1 A n (nums .u8 zs)) (hz : Bytes zs) (hn : n ≤ 1000000) :
    Calls Tryd.prog 12 #[G.ptr, .slice A n c] w fun e w' => e = .returned (.int .i64 (appL v.abs G.st zs).2.2) ∧ G.To v N C (appL v.abs G.st zs).1 (appL v.abs G.st zs).2.1 w w' := by
  have hb := h.hb
  have hzl : zs.length = n := by have := hr.1; simpa [nums] using this
  obtain ⟨f1, f2, hep, n1, n2, hsb, hsl, htl, htt, htc⟩ := hL
  have hkl := h.hd.h1
  have hsb2 := h.hs.bd
  have hNw := h.hd.nsz
  refine enter Tryd.func12 rfl (by kernel_rfl) ?_
  refine J.seq ?_
  refine J.region ?_
  refine L.va rfl (X.assign (by conv => lhs; whnf)) ?_
  refine L.nil ?_
  refine J.seq ?_
  refine J.seq ?_
  refine J.region ?_
  refine L.va rfl (X.move (by conv => lhs; whnf)) ?_
  refine L.call rfl en_45 rfl (lfine h) ?_
  rintro e _ ⟨rfl, rfl⟩
  refine ⟨_, rfl, ?_⟩
  refine L.va rfl (X.assign (by conv => lhs; whnf)) ?_
  refine L.nil ?_
  refine J.seq ?_
  refine J.region ?_
  refine L.va rfl (X.move (by conv => lhs; whnf)) ?_
  refine L.va rfl (X.neq rfl rfl) ?_
  refine L.nil ?_
  refine J.ndec rfl (fun h1 => ?_) (fun h1 => ?_)
  · have e : appL v.abs G.st zs = (v.abs, G.st, G.st.bad) := if_pos h1
    rw [e]
    refine J.seq ?_
    refine J.region ?_
    refine L.va rfl (X.move (by conv => lhs; whnf)) ?_
    refine L.va rfl (X.assign (by conv => lhs; whnf)) ?_
    refine L.nil ?_
    refine J.ret ?_
    refine thn_ret <| ?_
    refine fin1 ?_
    exact ⟨rfl, h.toL⟩
  · have h1' : G.st.bad = 0 := by omega
    have htl := htl h1'
    by_cases hlong : 60000 < n
    · have e : appL v.abs G.st zs = (v.abs, G.st, 4) := by unfold appL; rw [if_neg (by omega), if_pos (by omega)]
      rw [e]
      refine J.skip ?_
      refine J.seq ?_
      refine J.region ?_
      refine L.va rfl (X.move (by conv => lhs; whnf)) ?_
      refine L.call rfl en_46 rfl (fput_long A n c w hlong (by omega)) ?_
      rintro e _ ⟨rfl, rfl⟩
      refine ⟨_, rfl, ?_⟩
      refine L.va rfl (X.move (by conv => lhs; whnf)) ?_
      refine L.va rfl (X.extract rfl rfl) ?_
      refine L.va rfl (X.extract rfl rfl) ?_
      refine L.va rfl (X.assign (by conv => lhs; whnf)) ?_
      refine L.va rfl (X.assign (by conv => lhs; whnf)) ?_
      refine L.nil ?_
      refine J.seq ?_
      refine J.seq ?_
      refine J.region ?_
      refine L.va rfl (X.move (by conv => lhs; whnf)) ?_
      refine L.va rfl (X.neq rfl rfl) ?_
      refine L.nil ?_
      refine J.iteT rfl ?_
      refine J.seq ?_
      refine J.region ?_
      refine L.va rfl (X.move (by conv => lhs; whnf)) ?_
      refine L.va rfl (X.assign (by conv => lhs; whnf)) ?_
      refine L.nil ?_
      refine J.ret ?_
      refine thn_ret <| ?_
      refine fin1 ?_
      exact ⟨rfl, h.toL⟩
    · obtain ⟨f, hf⟩ : ∃ f, f = frm smZ zs := ⟨_, rfl⟩
      have hfl : f.length = 8 + n := by rw [hf, frm_length smZ (fun _ => rfl), hzl]
      obtain ⟨first, hfi⟩ : ∃ q, q = G.st.sm.length / 991 := ⟨_, rfl⟩
      obtain ⟨last, hla⟩ : ∃ q, q = (G.st.sm.length + (8 + n) - 1) / 991 := ⟨_, rfl⟩
      have e : appL v.abs G.st zs = if G.st.ct * 991 < G.st.sm.length + (8 + n) ∨ 4611686018427387904 ≤ G.st.nx + ((last - first : Nat) : Int) then (v.abs, G.st, 12) else wrN v.abs { G.st with sm := G.st.sm ++ f } first (last + 1 - first) := by
        unfold appL
        rw [if_neg (by omega), if_neg (by omega), ← hf]
        dsimp only
        rw [hfl, ← hfi, ← hla]
      have ei : (G.st.sm.length : Int) / 991 = (first : Int) := by omega
      have el : ((G.st.sm.length : Int) + ((8 + n : Nat) : Int) - 1) / 991 = (last : Int) := by omega
      have hfb : Bytes f := by
        rw [hf]
        intro z hz'
        unfold frm at hz'
        rcases List.mem_append.1 hz' with h2 | h2
        · exact fhd_bytes zs hz z h2
        · exact smZ_bytes _ z h2
      refine J.skip ?_
      refine J.seq ?_
      refine J.region ?_
      refine L.va rfl (X.move (by conv => lhs; whnf)) ?_
      refine L.call rfl en_46 rfl (fput_ok A n c zs w h.tab (by omega) hr hz) ?_
      rintro e w1 ⟨A1, c1, rfl, hr1, he1, hc1, hc1'⟩
      refine ⟨_, rfl, ?_⟩
      have he1 : Ext w w1 := he1
      rw [← hf] at hr1
      rw [hzl] at hr1 hc1 ⊢
      have H1 := h.ext he1
      have hb1 := hb.ext he1
      refine L.va rfl (X.move (by conv => lhs; whnf)) ?_
      refine L.va rfl (X.extract rfl rfl) ?_
      refine L.va rfl (X.extract rfl rfl) ?_
      refine L.va rfl (X.assign (by conv => lhs; whnf)) ?_
      refine L.va rfl (X.assign (by conv => lhs; whnf)) ?_
      refine L.nil ?_
      refine J.seq ?_
      refine J.seq ?_
      refine J.region ?_
      refine L.va rfl (X.move (by conv => lhs; whnf)) ?_
      refine L.va rfl (X.neq rfl rfl) ?_
      refine L.nil ?_
      refine J.iteF rfl ?_
      refine J.skip ?_
      refine J.seq ?_
      refine J.region ?_
      refine L.va rfl (X.move (by conv => lhs; whnf)) ?_
      refine L.va rfl (X.nilCheck rfl) ?_
      refine L.va rfl (X.fieldAddr rfl Tryd.underlying83 rfl sz_39 (by decide)) ?_
      refine L.va rfl (X.load rfl sc_39 (by first | exact Ld.blk hb1 rfl)) ?_
      refine L.va rfl (X.len rfl Tryd.underlying39) ?_
      refine L.va rfl (X.quo rfl rfl (by omega)) ?_
      refine L.va rfl (X.assign (by conv => lhs; whnf)) ?_
      refine L.nil ?_
      rw [ei]
      refine J.seq ?_
      refine J.region ?_
      refine L.va rfl (X.move (by conv => lhs; whnf)) ?_
      refine L.va rfl (X.nilCheck rfl) ?_
      refine L.va rfl (X.fieldAddr rfl Tryd.underlying83 rfl sz_39 (by decide)) ?_
      refine L.va rfl (X.load rfl sc_39 (by first | exact Ld.blk hb1 rfl)) ?_
      refine L.va rfl (X.len rfl Tryd.underlying39) ?_
      refine L.va rfl (X.move (by conv => lhs; whnf)) ?_
      refine L.va rfl (X.len rfl Tryd.underlying39) ?_
      refine L.va rfl (X.add rfl rfl (by omega)) ?_
      refine L.va rfl (X.sub rfl rfl (by omega)) ?_
      refine L.va rfl (X.quo rfl rfl (by omega)) ?_
      refine L.va rfl (X.assign (by conv => lhs; whnf)) ?_
      refine L.nil ?_
      rw [el]
      refine J.seq ?_
      refine J.seq ?_
      refine J.region ?_
      refine L.va rfl (X.move (by conv => lhs; whnf)) ?_
      refine L.va rfl (X.len rfl Tryd.underlying39) ?_
      refine L.va rfl (X.move (by conv => lhs; whnf)) ?_
      refine L.call rfl en_24 rfl (lroom H1 (by omega)) ?_
      rintro e w2 ⟨rfl, he2⟩
      refine ⟨_, rfl, ?_⟩
      have he2 : Ext w1 w2 := he2
      have he02 := he1.trans he2
      have H2 := h.ext he02
      have hb2 := hb1.ext he2
      refine L.va rfl (X.gtr rfl rfl) ?_
      refine L.va rfl (X.move (by conv => lhs; whnf)) ?_
      refine L.caseDec (k := 46) rfl (fun h3 => ?_) (fun h3 => ?_)
      · rw [e, if_pos (.inl (by omega))]
        refine L.no rfl ?_
        refine L.no rfl ?_
        refine L.no rfl ?_
        refine L.no rfl ?_
        refine L.no rfl ?_
        refine L.no rfl ?_
        refine L.no rfl ?_
        refine L.no rfl ?_
        refine L.no rfl ?_
        refine L.no rfl ?_
        refine L.va rfl (X.pickT rfl (by conv => lhs; whnf)) ?_
        refine L.nil ?_
        refine J.iteT rfl ?_
        refine J.seq ?_
        refine J.region ?_
        refine L.va rfl (X.assign (by conv => lhs; whnf)) ?_
        refine L.nil ?_
        refine J.ret ?_
        refine thn_ret <| ?_
        refine fin1 ?_
        exact ⟨rfl, G, v, H2, rfl, rfl, rfl, rfl, Chg.of_ext he02, Lg.Gr.refl _ _⟩
      · refine L.va rfl (X.move (by conv => lhs; whnf)) ?_
        refine L.va rfl (X.nilCheck rfl) ?_
        refine L.va rfl (X.fieldAddr rfl Tryd.underlying83 rfl sz_35 (by decide)) ?_
        refine L.va rfl (X.load rfl sc_35 (by first | exact Ld.blk hb2 rfl)) ?_
        refine L.va rfl (X.move (by conv => lhs; whnf)) ?_
        refine L.va rfl (X.move (by conv => lhs; whnf)) ?_
        refine L.va rfl (X.sub rfl rfl (by omega)) ?_
        refine L.va rfl ((by first | exact X.convU rfl is_3 Tryd.underlying35 (by omega) | exact X.convw rfl is_3 Tryd.underlying35)) ?_
        refine L.va rfl (X.addU rfl rfl (by omega)) ?_
        refine L.va rfl (X.geq rfl rfl) ?_
        refine L.va rfl (X.pickF rfl (by conv => lhs; whnf)) ?_
        refine L.nil ?_
        refine J.dec rfl (fun h4 => ?_) (fun h4 => ?_)
        · rw [e, if_pos (.inr (by omega))]
          refine J.seq ?_
          refine J.region ?_
          refine L.va rfl (X.assign (by conv => lhs; whnf)) ?_
          refine L.nil ?_
          refine J.ret ?_
          refine thn_ret <| ?_
          refine fin1 ?_
          exact ⟨rfl, G, v, H2, rfl, rfl, rfl, rfl, Chg.of_ext he02, Lg.Gr.refl _ _⟩
        · rw [e, if_neg (by omega)]
          obtain ⟨l1, hl1⟩ : ∃ l1 : Ls, l1 = { G.st with sm := G.st.sm ++ f } := ⟨_, rfl⟩
          have l1l : l1.sm.length = G.st.sm.length + (8 + n) := by rw [hl1]; show (G.st.sm ++ f).length = _; rw [List.length_append, hfl]
          rw [← hl1]
          have hr2 := (hr1.ext he2).more he2.le
          have z2 := he02.le
          refine J.skip ?_
          refine J.seq ?_
          refine J.region ?_
          refine L.va rfl (X.move (by conv => lhs; whnf)) ?_
          refine L.va rfl (X.move (by conv => lhs; whnf)) ?_
          refine L.va rfl (X.nilCheck rfl) ?_
          refine L.va rfl (X.fieldAddr rfl Tryd.underlying83 rfl sz_39 (by decide)) ?_
          refine L.va rfl (X.load rfl sc_39 (by first | exact Ld.blk hb2 rfl)) ?_
          refine L.va rfl (X.move (by conv => lhs; whnf)) ?_
          refine L.appendSm rfl rfl rfl Tryd.underlying39 el_5 H2.hs hr2 (by omega) (by unfold maxLen; omega) (by omega) ?_
          intro A3 c3 w3 ho3 hg3 hor3
          have hb3 : Blk w3 G.p 83 (G.cs v) := hb2.grown hg3 (fun e => absurd ((H2.hs.own e.symm).1.fun_ hb2.isT) (by decide))
          refine L.va rfl (X.nilCheck rfl) ?_
          refine L.va rfl (X.fieldAddr rfl Tryd.underlying83 rfl sz_39 (by decide)) ?_
          refine L.store rfl rfl (by conv => lhs; whnf) rfl sz_39 (hb3) (by first | decide | exact Nat.le_of_ble_eq_true rfl) ?_
          intro w4 hb4 hg4 hs4
          obtain ⟨H4, c4, g4⟩ := H2.sput (l := l1) (sA := A3) (sc := c3) hg3 (by rw [l1l, hl1]; exact ho3) (fun b hb => by rw [l1l] at hb; exact hor3 b hb) hg4 (by unfold Lg.cs Lg.ss; dsimp only; rw [l1l, hl1]; exact hb4) (by rw [hl1])
          have c04 : Chg (G.LS v C w) w w4 := Lg.chg_trans (Chg.of_ext he02) rfl rfl (Lg.Gr.refl G _) c4
          have g04 : Lg.Gr G ⟨G.p, A3, c3, G.tA, G.tc, l1⟩ w.heap.size := (Lg.Gr.refl G w.heap.size).trans g4 z2
          obtain ⟨k, hk⟩ : ∃ k, k = last + 1 - first := ⟨_, rfl⟩
          have hfl2 : first ≤ last := by omega
          have hW : Wr l1 l1 first 0 := by
            refine ⟨rfl, rfl, rfl, by simp, rfl, rfl, ?_, ?_⟩
            · rw [hl1]; show first + 0 ≤ G.st.tm.length; omega
            · rw [hl1]; exact htt
          have hl1b : Bytes l1.sm := by
            rw [hl1]
            intro z hz'
            rcases List.mem_append.1 (show z ∈ G.st.sm ++ f from hz') with h2 | h2
            · exact hsb z h2
            · exact hfb z h2
          have hl1x : l1.nx = G.st.nx := by rw [hl1]
          have hl1f : l1.fr = G.st.fr := by rw [hl1]
          have hl1e : l1.ep = G.st.ep := by rw [hl1]
          have hl1d : l1.bad = 0 := by rw [hl1]; exact h1'
          rw [← hk]
          refine L.nil ?_
          refine J.seq ?_
          refine J.seq ?_
          refine J.region ?_
          refine L.va rfl (X.move (by conv => lhs; whnf)) ?_
          refine L.va rfl (X.assign (by conv => lhs; whnf)) ?_
          refine L.nil ?_
          refine J.block ?_
          refine J.loop (X := Nat × Lg × Dk) [4, 10, 11, 68, 69, 70, 71, 72, 73, 74, 75, 76, 77, 78, 79, 80, 81, 82] (fun (j, _, _) => [(10, .int .i64 ((first : Int) + (j : Int)))]) (fun (j, G2, v2) w' => j ≤ k ∧ G2.At v2 N C w' ∧ v2.d = v.d ∧ v2.kb = v.kb ∧ v2.abs.Ok (m + j) ∧ Wr l1 G2.st first j ∧ wrN v.abs l1 first k = wrN v2.abs G2.st (first + j) (k - j) ∧ Chg (G.LS v C w) w w' ∧ Lg.Gr G G2 w.heap.size) (fun (j, _, _) => k - j) ((0, ⟨G.p, A3, c3, G.tA, G.tc, l1⟩, v)) (At1 (by first | rfl | exact at_int rfl (by omega) | exact at_slice rfl (by omega) | exact at_int rfl (by simp))) ?_ ?_
          · exact ⟨Nat.zero_le _, H4, rfl, rfl, hok, hW, rfl, c04, g04⟩
          · rintro ⟨j, G2, v2⟩ g w5 ⟨hj, H5, d5, k5, ok5, W5, e5, c5, g5⟩
            have hx5 := W5.nx
            have hb5 := H5.hb
            rw [g5.p] at hb5
            refine J.seq ?_
            refine J.seq ?_
            refine J.region ?_
            refine L.va rfl (X.move (by conv => lhs; whnf)) ?_
            refine L.va rfl (X.move (by conv => lhs; whnf)) ?_
            refine L.va rfl (X.leq rfl rfl) ?_
            refine L.nil ?_
            refine J.dec rfl (fun hlt => ?_) (fun hlt => ?_)
            · have hjk : j < k := by omega
              obtain ⟨k', hk'⟩ : ∃ k', k - j = k' + 1 := ⟨k - j - 1, by omega⟩
              have K := lwrite H5 ok5 (by omega) (first + j) W5.tl (by rw [W5.sm, l1l]; omega) (by omega) (by rw [W5.fr, hl1f]; omega) (by omega) (by rw [W5.ep, hl1e]; exact hep) (by rw [W5.sm]; exact hl1b) (by rw [W5.sm, l1l]; omega) W5.tt
              rw [show G2.ptr = G.ptr by unfold Lg.ptr; rw [g5.p], show ((first + j : Nat) : Int) = (first : Int) + (j : Int) by omega] at K
              rw [hk'] at e5
              have eN : wrN v2.abs G2.st (first + j) (k' + 1) = if (wrL v2.abs G2.st (first + j)).2.2 = 0 then wrN (wrL v2.abs G2.st (first + j)).1 (wrL v2.abs G2.st (first + j)).2.1 (first + j + 1) k' else ((wrL v2.abs G2.st (first + j)).1, { (wrL v2.abs G2.st (first + j)).2.1 with bad := (wrL v2.abs G2.st (first + j)).2.2 }, (wrL v2.abs G2.st (first + j)).2.2) := rfl
              rw [eN] at e5
              have hgood := wrL_good (s := v2.abs) (l := G2.st) (i := first + j)
              have hwok := wrL_Ok (l := G2.st) (i := first + j) ok5 (by rw [W5.fr, hl1f]; omega)
              obtain ⟨r, hr0⟩ : ∃ r, r = wrL v2.abs G2.st (first + j) := ⟨_, rfl⟩
              rw [← hr0] at K e5 hgood hwok
              refine J.skip ?_
              refine J.seq ?_
              refine J.block ?_
              refine J.seq ?_
              refine J.region ?_
              refine L.va rfl (X.move (by conv => lhs; whnf)) ?_
              refine L.va rfl (X.move (by conv => lhs; whnf)) ?_
              refine L.call rfl en_47 rfl (K) ?_
              rintro e w6 ⟨rfl, G6, v6, H6, d6, k6, a6, s6, c6, g6⟩
              refine ⟨_, rfl, ?_⟩
              have c06 := Lg.chg_trans c5 d5 k5 g5 c6
              have g06 := g5.trans g6 c5.size
              have hb6 := H6.hb
              rw [g06.p] at hb6
              refine L.va rfl (X.assign (by conv => lhs; whnf)) ?_
              refine L.nil ?_
              refine J.seq ?_
              refine J.region ?_
              refine L.va rfl (X.move (by conv => lhs; whnf)) ?_
              refine L.va rfl (X.neq rfl rfl) ?_
              refine L.nil ?_
              refine J.ndec rfl (fun h0 => ?_) (fun h0 => ?_)
              · rw [if_neg (by omega)] at e5
                rw [e5]
                refine J.seq ?_
                refine J.region ?_
                refine L.va rfl (X.move (by conv => lhs; whnf)) ?_
                refine L.va rfl (X.move (by conv => lhs; whnf)) ?_
                refine L.va rfl (X.nilCheck rfl) ?_
                refine L.va rfl (X.fieldAddr rfl Tryd.underlying83 rfl sz_27 (by decide)) ?_
                refine L.store rfl rfl (by conv => lhs; whnf) rfl sz_27 (hb6) (by first | decide | exact Nat.le_of_ble_eq_true rfl) ?_
                intro w7 hb7 hg7 hs7
                obtain ⟨H7, c7, g7⟩ := H6.put' (l := { r.2.1 with bad := r.2.2 }) (sA := G6.sA) (sc := G6.sc) (tA := G6.tA) (tc := G6.tc) (by rw [g06.p]; exact hg7) (by rw [g06.p]; unfold Lg.cs Lg.ss Lg.ts; dsimp only; rw [← s6]; exact hb7) (by show Sm _ _ _ _ _ r.2.1.sm.length _ r.2.1.sm; rw [← s6]; exact H6.hs) (by show Value.ownBlock (.slice G6.sA r.2.1.sm.length G6.sc) = _; rw [← s6]) (by show World.ownsRow _ _ _ _ (.slice G6.tA r.2.1.tm.length G6.tc) r.2.1.tm.length (nums .u64 r.2.1.tm); rw [← s6]; exact H6.ht) (by show Value.ownBlock (.slice G6.tA r.2.1.tm.length G6.tc) = _; rw [← s6])
                refine L.nil ?_
                refine J.seq ?_
                refine J.region ?_
                refine L.va rfl (X.move (by conv => lhs; whnf)) ?_
                refine L.va rfl (X.assign (by conv => lhs; whnf)) ?_
                refine L.nil ?_
                refine J.ret ?_
                refine inB_ret <|  thn_ret <|  thn_ret <|  inB_ret <|  thn_ret <| ?_
                refine fin1 ?_
                exact ⟨rfl, _, v6, H7, d6.trans d5, k6.trans k5, a6, rfl, Lg.chg_trans c06 (d6.trans d5) (k6.trans k5) g06 c7, g06.trans g7 c06.size⟩
              · have h00 : r.2.2 = 0 := by omega
                rw [if_pos h00] at e5
                have hgood := hgood h00
                refine J.skip ?_
                refine J.region ?_
                refine L.va rfl (X.move (by conv => lhs; whnf)) ?_
                refine L.va rfl (X.add rfl rfl (by omega)) ?_
                refine L.va rfl (X.assign (by conv => lhs; whnf)) ?_
                refine L.nil ?_
                refine ⟨(j + 1, G6, v6), At1 (by first | rfl | exact at_int rfl (by omega) | exact at_slice rfl (by omega) | exact at_int rfl (by simp)), (by (iterate 12 refine Agr.lk rfl ?_); exact Agr.lk rfl (Agr.hav rfl Agr.rfl')), ?_⟩
                refine ⟨⟨by omega, H6, d6.trans d5, k6.trans k5, by rw [a6]; exact hwok, ?_, ?_, c06, g06⟩, by show k - (j + 1) < k - j; omega⟩
                · rw [s6, hgood]
                  exact W5.next (by omega) (by omega)
                · rw [e5, a6, s6, show k' = k - (j + 1) by omega, Nat.add_assoc]
            · have hjk : j = k := by omega
              have e6 : wrN v2.abs G2.st (first + j) (k - j) = (v2.abs, G2.st, 0) := by rw [hjk, Nat.sub_self]; rfl
              rw [e5, e6]
              refine J.exit ?_
              refine J.seq ?_
              refine J.region ?_
              refine L.va rfl (X.assign (by conv => lhs; whnf)) ?_
              refine L.nil ?_
              refine J.ret ?_
              refine fin1 ?_
              exact ⟨rfl, G2, v2, H5, d5, k5, rfl, rfl, c5, g5⟩
end
end Go.Proofs.YtjdimgigbgafbaaDoor
namespace Go.Proofs.YtjdimgigbgafbaaDoor.H
open Go.RowKit Go.Proofs.YtjdimgigbgafbaaDoor
set_option linter.unusedVariables false
set_option linter.unusedSimpArgs false
section
variable {P : Program} {m n : Nat} {ops rest : List Oper} {Q : Exit → Fr → World → Prop} {f : Fr} {w w' : World} {o : Oper} {v : Value}
def LI (m : Nat) (P : Program) (n : Nat) (ops : List Oper) (Q : Exit → Fr → World → Prop) (l : List Oper) (f : Fr) (w : World) : Prop :=
  l.all (fitO n) = true → ∀ a, Rep n f a → wpListIn Fence.wide m P ops.toArray (lft n Q) l a w
theorem LI.nil (h : Q .normal f w) : LI m P n ops Q [] f w := fun _ _ hr => ⟨f, hr, h⟩
theorem J.listIn {id : Nat} {l : List Oper} (h : LI m P n l Q l f w) : J P n (.region id l.toArray false) Q f w := by
  intro hf a hr
  simp only [fitC] at hf
  exact wpIn_wide.1 (wpIn_region_lit (h hf a hr))
theorem LI.val (hg : wn ops f o.guard = true) (hx : (execOp (ev f) o).run P w = .ok (.value v) w') (h : LI m P n ops Q rest (putO f o.dst v) w') : LI m P n ops Q (o :: rest) f w := by
  intro hf a hr
  simp only [List.all_cons, Bool.and_eq_true] at hf
  refine wpListIn_step fun K hK => ?_
  rw [wanted_eq hr, hg, if_pos rfl]
  refine ⟨fun _ _ => trivial, ?_⟩
  rw [Fence.wide_round, Oper.semAt_none, hr.eval, hx]
  exact hK _ _ (h hf.2 _ (hr.put v hf.1))
theorem LI.va {k : Nat} {op : Op} {ty : TypeId} {pos : String} {aft : Array Edge} {g : Option (Nat × Bool)} (hg : wn ops f g = true) (hx : (execOp (ev f) ⟨some k, op, ty, pos, aft, g⟩).run P w = .ok (.value v) w') (h : LI m P n ops Q rest (lk [(k, v)] f) w') : LI m P n ops Q (⟨some k, op, ty, pos, aft, g⟩ :: rest) f w := LI.val hg hx h
theorem LI.yield {r fn : Nat} {tmps : Array Value} {assign body : Code} {R : Ending → World → Prop} (hg : wn ops f o.guard = true) (hx : (execOp (ev f) o).run P w = .ok (.round r fn tmps assign body) w') (hR : RoundIn Fence.wide (m - 1) P r fn tmps assign body w' R)
    (h : ∀ e w'', R e w'' → ∃ v, e = .returned v ∧ LI m P n ops Q rest (putO f o.dst v) w'') : LI m P n ops Q (o :: rest) f w := by
  intro hf a hr
  simp only [List.all_cons, Bool.and_eq_true] at hf
  refine wpListIn_step fun K hK => ?_
  rw [wanted_eq hr, hg, if_pos rfl]
  refine ⟨fun _ _ => trivial, ?_⟩
  rw [Fence.wide_round, Oper.semAt_none, hr.eval, hx]
  refine ⟨by simp [Fence.wide], hR.mono fun e w'' hq => ?_⟩
  obtain ⟨v, rfl, hl⟩ := h e w'' hq
  exact hK _ _ (hl hf.2 _ (hr.put v hf.1))
theorem X.yield {ρ : Operand → Value} {d : Option Tmp} {ty : TypeId} {pos : String} {aft : Array Edge} {g : Option (Nat × Bool)} {c : Operand} {l : List Operand} {ts : Array TypeId} {vs : List Value} {r fn : Nat} {tmps : Array Value} {assign body : Code} (hfn : ρ c = .func (.yield r) #[] #[]) (hv : l.map ρ = vs)
    (hy : (Instr.yield r vs.toArray).run P w = .ok (.round r fn tmps assign body) w') : (execOp ρ ⟨d, .call { callee := .value c, args := l.toArray, argTypes := ts }, ty, pos, aft, g⟩).run P w = .ok (.round r fn tmps assign body) w' := by
  subst hv
  simp only [execOp, resolve, hfn, Deferred.ofValue, Sem.run_bind, Sem.run_pure, Result.andThen_ok, invoke, List.map_toArray, Array.append_empty, Array.empty_append]
  simp only [Go.invoke, Array.append_empty]
  exact hy
theorem wpListIn_of {r m : Nat} {ops : Array Oper} {Q : Exit → Act → World → Prop} (hQ : ¬ LetsOut Q) : ∀ (l : List Oper) (a : Act) (w : World), (∀ o ∈ l, ∀ c, o.op ≠ .defer c) → wpList P ops Q l a w → wpListIn (Fence.wide.inRound r) m P ops Q l a w
  | [], a, w, _, h => h
  | o :: rest, a, w, hd, h => by
    have ih := fun a w => wpListIn_of (r := r) (m := m) (ops := ops) hQ rest a w (fun o' ho => hd o' (by simp [ho]))
    unfold wpList at h
    unfold wpListIn
    by_cases hw : Region.wanted o (yielded ops a.tmps) = true
    · rw [if_pos hw] at h ⊢
      rcases h with h | ⟨_, h⟩
      · refine ⟨fun _ _ => trivial, ?_⟩
        rw [Fence.inRound_round, Oper.semAt_some _ _ _ (hd o (by simp))]
        unfold Oper.wp at h
        revert h
        generalize (execOp a.eval o).run P w = x
        intro h
        cases x with
        | ok v w' =>
          cases v with
          | value v => exact ih _ _ h
          | skip => exact ih _ _ h
          | defer d => exact ih _ _ h
          | enter fn args =>
            refine ⟨by simp [Fence.wide], CallsIn.inRound r (callsIn_wide.2 (Calls.mono h fun e w'' hq => ?_))⟩
            cases e with
            | returned v => exact ih _ _ hq
            | panicked chain => exact hq
            | outgrown => exact hq
          | row row args =>
            refine ⟨by simp [Fence.wide], fun c cs _ => ?_⟩
            obtain ⟨v, w'', hq, hs⟩ := h c cs
            exact ⟨v, w'', ih _ _ hq, stepsIn_wide.2 hs⟩
          | _ => exact h.elim
        | halt x w' =>
          cases x with
          | panic v => exact h
          | _ => exact h.elim
      · exact absurd h hQ
    · rw [if_neg hw] at h ⊢
      exact ⟨fun _ _ => trivial, ih _ _ h⟩
theorem rep0 {l : List Value} (hle : l.length ≤ n) : Rep n (lk (args l 0) fun _ => undef) { tmps := l.toArray ++ Array.replicate (n - l.toArray.size) undef, defers := [] } := by
  refine ⟨by simp; omega, rfl, ?_⟩
  intro j
  have key : ∀ (l : List Value) (i j : Nat), lk ((List.range' i l.length).zip l) (fun _ => undef) j = if i ≤ j then l.getD (j - i) undef else undef := by
    intro l
    induction l with
    | nil => intro i j; simp [lk]
    | cons a l ih =>
      intro i j
      simp only [List.length_cons, List.range'_succ, List.zip_cons_cons, lk]
      rw [ih (i + 1) j]
      cases hb : Nat.beq j i with
      | true =>
        have := Nat.eq_of_beq_eq_true hb
        subst this
        simp
      | false =>
        have hne : j ≠ i := fun e => by subst e; rw [Nat.beq_refl] at hb; cases hb
        by_cases hij : i + 1 ≤ j
        · rw [if_pos hij, if_pos (by omega), show j - i = (j - (i + 1)) + 1 by omega]
          simp
        · rw [if_neg hij, if_neg (by omega)]
          rfl
  show (l.toArray ++ Array.replicate (n - l.toArray.size) undef).getD j undef = _
  unfold args
  rw [key l 0 j, if_pos (Nat.zero_le _), Nat.sub_zero, Array.getD_eq_getD_getElem?, Array.getElem?_append]
  by_cases hj : j < l.length
  · simp [hj, List.getD]
  · simp only [List.size_toArray, hj, if_false, List.getD, List.getElem?_eq_none (Nat.le_of_not_lt hj)]
    rw [Array.getElem?_replicate]
    split <;> rfl
def JX (P : Program) (n : Nat) (c : Code) (K : Exit → Act → World → Prop) (f : Fr) (w : World) : Prop := ∀ a, Rep n f a → c.wp P K a w
section
variable {c x y : Code} {K : Exit → Act → World → Prop}
theorem enterM {id : FuncId} {fn : Func} {l : List Value} {R : Ending → World → Prop} (hf : P.funcs[id]? = some fn) (hb : fn.body = some c) (hk : Nat.ble l.length fn.ntmps = true)
    (h : JX P fn.ntmps c (bodyPostM Fence.wide 1 P fn R) (lk (args l 0) fun _ => undef) w) : Calls P id l.toArray w R :=
  callsIn_wide.1 (callsIn_of_wp_marks hf hb trivial (wpIn_wide.2 (h _ (rep0 (Nat.le_of_ble_eq_true hk)))) rfl)
theorem JX.seq (hx : fitC n x = true) (h : J P n x (thn (JX P n y K) fun _ _ _ => False) f w) : JX P n (.seq x y) K f w := by
  intro a hr
  refine wp_seq (wp_mono (h hx a hr) ?_)
  rintro e a' w' ⟨f', hr', hq⟩
  cases e
  case normal => exact hq a' hr'
  all_goals exact hq.elim
theorem JX.seqX (h : JX P n x (fun e a w => e = .normal ∧ y.wp P K a w) f w) : JX P n (.seq x y) K f w := by
  intro a hr
  refine wp_seq (wp_mono (h a hr) ?_)
  rintro e a' w' ⟨rfl, hq⟩
  exact hq
theorem JX.block {id : Nat} (h : JX P n c (fun e a w => e = .normal ∧ K .normal a w) f w) : JX P n (.block id c) K f w := by
  intro a hr
  refine wp_block (wp_mono (h a hr) ?_)
  rintro e a' w' ⟨rfl, hq⟩
  exact hq
theorem JX.rangeF {o : Operand} {ps : Array Tmp} {assign body : Code} {gf : Nat} {cs : List Value} (hx : ev f o = .func (.func gf) #[] cs.toArray) (he : Ent P gf)
    (h : ∀ (fn : Nat) (a : Act), Rep n f a → ∀ rec : Loop, rec = { state := .ready, pending := none, fn, tmps := a.tmps, params := ps, assign, body, defers := w.heap.size } →
      Calls P gf (#[.func (.yield (w.heap.size + 1)) #[] #[]] ++ cs.toArray) ((w.alloc (.deferred (some []))).alloc (.loop rec)) fun e w3 => (∃ v, e = .returned v) ∧ w3.heap[w.heap.size + 1]? = some (.loop rec) ∧
        K .normal { a with defers := [{ target := .collected w.heap.size, args := #[] }] } (w3.putObj (w.heap.size + 1) (.loop { rec with state := .exhausted }))) :
    JX P n (.rangeFunc o ps assign body) K f w := by
  intro a hr
  refine wpIn_wide.1 (wpIn_rangeFunc (n := 1) ?_)
  intro fn _
  obtain ⟨rec, hrec⟩ : ∃ rec : Loop, rec = { state := .ready, pending := none, fn, tmps := a.tmps, params := ps, assign, body, defers := w.heap.size } := ⟨_, rfl⟩
  have h1 : (Instr.enterLoop fn a.tmps ps assign body Fence.wide.round).run P w = .ok (w.heap.size + 1, [{ target := .collected w.heap.size, args := #[] }]) ((w.alloc (.deferred (some []))).alloc (.loop rec)) := by
    rw [hrec, Fence.wide_round]
    exact run_enterLoop_outer _ _ _ _ _
  have h2 : ∀ W : World, (resolve a.eval (rangeCall o (w.heap.size + 1)) 0).run P W = .ok { target := .fn (.func gf) cs.toArray, args := #[.func (.yield (w.heap.size + 1)) #[] #[]] } W := fun W => by
    rw [hr.eval]
    simp only [resolve, hx]
    simp [go_sem, ev]
  have h3 : ∀ W : World, (Go.invoke (.fn (.func gf) cs.toArray) #[.func (.yield (w.heap.size + 1)) #[] #[]]).run P W = .ok (.enter gf (#[.func (.yield (w.heap.size + 1)) #[] #[]] ++ cs.toArray)) W := fun W => by
    simp only [Go.invoke, he.run]
  have h4 := h fn a hr rec hrec
  refine ⟨_, _, _, _, _, gf, _, _, h1, h2 _, fun _ _ => trivial, h3 _, fun h => by simp [Fence.wide] at h, callsIn_wide.2 (h4.mono ?_)⟩
  rintro e w3 ⟨⟨v, rfl⟩, hl, hk⟩
  have h5 := run_endLoop (P := P) hl (by rw [hrec]; simp)
  have h6 : rec.pending = none := by rw [hrec]
  refine ⟨none, w3.putObj (w.heap.size + 1) (.loop { rec with state := .exhausted }), h5.trans (congrArg (fun j => Result.ok j _) h6), ?_⟩
  show K .normal { tmps := a.tmps, defers := [{ target := .collected w.heap.size, args := #[] }] ++ a.defers } _
  rw [hr.defers]
  exact hk
theorem wpQuiet_dfr {C : World → Prop} {ops : Array Oper} {D : List Deferred} {Q : Act → Prop} : ∀ (l : List Oper) (a : Act), wpQuiet P ops C Q l a → wpQuiet P ops C (fun a' => ∃ a0, Q a0 ∧ a' = { a0 with defers := D }) l { a with defers := D }
  | [], a, h => ⟨a, h, rfl⟩
  | o :: rest, a, h => by
    have ev_ : Act.eval { a with defers := D } = a.eval := by
      funext x
      cases x <;> rfl
    have put_ : ∀ v, Act.put { a with defers := D } o.dst v = { a.put o.dst v with defers := D } := fun v => by
      cases o.dst <;> rfl
    unfold wpQuiet at h ⊢
    show if Region.wanted o (yielded ops a.tmps) then _ else _
    by_cases hw : Region.wanted o (yielded ops a.tmps) = true
    · rw [if_pos hw] at h ⊢
      obtain ⟨v, h1, h2⟩ := h
      refine ⟨v, fun w' hw' => ?_, ?_⟩
      · have := h1 w' hw'
        unfold Oper.quietAt at this ⊢
        rw [ev_]
        exact this
      · rw [put_]
        exact wpQuiet_dfr rest _ h2
    · rw [if_neg hw] at h ⊢
      rw [put_]
      exact wpQuiet_dfr rest _ h
theorem tailM {fn : Func} {R : Ending → World → Prop} {D id : Nat} {l : List Oper} {a : Act} (hr : Rep n f a) (hm : P.follows .mixedOrders = true) (hB : Region.lexB .any l.toArray = true) (hfit : l.all (fitO n) = true)
    (hD : w.heap[D]? = some (.deferred (some [])))
    (hq : Qt P n l (Ext w) (fun f' => ∀ w', Ext w w' → fin P fn.results R .ret f' (w'.putObj D (.deferred none))) l f) :
    (Code.seq (.region id l.toArray true) .ret).wp P (bodyPostM Fence.wide 1 P fn R) { a with defers := [{ target := .collected D, args := #[] }] } w := by
  refine wp_seq (wp_region_quiet (C := Ext w) hm hB (Ext.drew w) (wpQuiet_mono ?_ (wpQuiet_dfr l a (hq hfit a hr))))
  rintro a' ⟨a0, ⟨f', hr', hf⟩, rfl⟩ w' hw'
  refine wp_ret ?_
  obtain ⟨v, hv, hR⟩ := hf w' hw'
  have hD' : w'.heap[D]? = some (.deferred (some [])) := (hw'.block D (Array.getElem?_eq_some_iff.1 hD).1).trans hD
  refine ⟨by simp, .inl ⟨D, _, rfl, run_takeDeferred hD', ?_⟩⟩
  exact ⟨v, by rw [results_eq hr']; exact hv, hR⟩
end
def JI (r m : Nat) (P : Program) (n : Nat) (c : Code) (Q : Exit → Fr → World → Prop) (f : Fr) (w : World) : Prop :=
  fitC n c = true → ∀ a, Rep n f a → c.wpIn (Fence.wide.inRound r) m P (lft n Q) a w
section
variable {r : Nat} {c x y : Code}
theorem JI.seq (h : JI r m P n x (thn (JI r m P n y Q) Q) f w) : JI r m P n (.seq x y) Q f w := by
  intro hf a hr
  simp only [fitC, Bool.and_eq_true] at hf
  refine wpIn_seq (wpIn_mono (h hf.1 a hr) ?_)
  rintro e a' w' ⟨f', hr', hq⟩
  cases e
  case normal => exact hq hf.2 a' hr'
  all_goals exact ⟨f', hr', hq⟩
theorem JI.block {id : Nat} (h : JI r m P n c (fun e f w => e = .normal ∧ Q .normal f w) f w) : JI r m P n (.block id c) Q f w := by
  intro hf a hr
  simp only [fitC] at hf
  refine wpIn_block (wpIn_mono (h hf a hr) ?_)
  rintro e a' w' ⟨f', hr', rfl, hq⟩
  exact ⟨f', hr', hq⟩
def noDf (o : Oper) : Bool := match o.op with
  | .defer _ => false
  | _ => true
theorem JI.region {id : Nat} {l : List Oper} (hnd : l.all noDf = true) (hQ : ∀ f w, ¬ Q .outgrown f w) (h : L P n l Q l f w) : JI r m P n (.region id l.toArray false) Q f w := by
  intro hf a hr
  simp only [fitC] at hf
  refine wpIn_region_lit (wpListIn_of ?_ _ _ _ (fun o ho c e => ?_) (h hf a hr))
  · rintro ⟨a', w', f', _, hq⟩
    exact hQ f' w' hq
  · have := List.all_eq_true.1 hnd o ho
    unfold noDf at this
    rw [e] at this
    cases this
theorem round_of {assign body : Code} {a : Act} {fn : Nat} {R : Ending → World → Prop} (hr : Rep n f a) (hf1 : fitC n assign = true) (hf2 : fitC n body = true)
    (h : JI r m P n assign (fun e f' w' => e = .normal ∧ ∃ w2, (Instr.beginRound r).run P w' = .ok () w2 ∧ JI r m P n body (fun e f3 w3 => e = .normal ∧ ∃ v w4, (Instr.endRound r none).run P w3 = .ok v w4 ∧ R (.returned v) w4) f' w2) f w) :
    RoundIn Fence.wide m P r fn a.tmps assign body w R := by
  refine roundIn_of_wpIn trivial ?_
  have ha : ({ tmps := a.tmps, defers := [] } : Act) = a := by
    have := hr.defers
    cases a
    cases this
    rfl
  rw [ha]
  refine wpIn_mono (h hf1 a hr) ?_
  rintro e a' w' ⟨f', hr', rfl, w2, hb, hj⟩
  refine ⟨w2, hb, wpIn_mono (hj hf2 a' hr') ?_⟩
  rintro e a3 w3 ⟨f3, hr3, rfl, v, w4, he, hR⟩
  exact ⟨v, w4, he, hR⟩
end
end
end Go.Proofs.YtjdimgigbgafbaaDoor.H
namespace Go.Proofs.YtjdimgigbgafbaaDoor
set_option maxRecDepth 100000
open Go.RowKit H
open Byts Fram
set_option linter.unusedVariables false
structure Bo where
  A : Option Addr
  c : Nat
  l : List Int
def Bo.v (b : Bo) : Value := .slice b.A b.l.length b.c
theorem own_low {w : World} {base base' e sz n : Nat} {v : Value} {xs : List Value} (h : w.ownsRow base e sz v n xs) (hb : base' ≤ base) : w.ownsRow base' e sz v n xs := by
  refine ⟨h.1, ?_⟩
  rcases h.2 with h1 | ⟨b, cap, cur, h1, h2, h3⟩
  · exact .inl h1
  · exact .inr ⟨b, cap, cur, h1, Nat.le_trans hb h2, h3⟩
theorem frames_ (A : Option Addr) (n c : Nat) (y : Nat) (w : World) : Calls Tryd.prog 58 #[.slice A n c, .pointer (some ⟨y, 0, none⟩)] w fun e w' =>
    ∃ b1 b2, e = .returned (.func (.func 68) #[] #[.pointer (some ⟨b1, 0, none⟩), .pointer (some ⟨b2, 0, none⟩)]) ∧ w.heap.size ≤ b1 ∧ w.heap.size ≤ b2 ∧ Blk w' b1 39 #[.slice A n c] ∧ Blk w' b2 120 #[.pointer (some ⟨y, 0, none⟩)] ∧ Ext w w' := by
  refine enter Tryd.func58 rfl (by kernel_rfl) ?_
  refine J.seq ?_
  refine J.region ?_
  refine L.box rfl (by conv => lhs; whnf) ?_
  intro b1 w1 hb1 hs1 hk1 he1
  refine L.box rfl (by conv => lhs; whnf) ?_
  intro b2 w2 hb2 hs2 hk2 he2
  refine L.va rfl (X.assign (by conv => lhs; whnf)) ?_
  refine L.nil ?_
  refine J.seq ?_
  refine J.region ?_
  refine L.va rfl (X.makeFn rfl) ?_
  refine L.va rfl (X.assign (by conv => lhs; whnf)) ?_
  refine L.nil ?_
  refine J.ret ?_
  refine fin1 ?_
  exact ⟨b1, b2, rfl, by omega, by omega, hk1.ext he2, hk2, he1.trans he2⟩
theorem frames1 (l b1 b2 y : Nat) (A : Option Addr) (n c N : Nat) (zs : List Int) (w0 : World) (Inv : Nat → List Bo → World → Prop) (Fin : Nat → List Bo → Int → World → Prop)
    (ht : Tab w0) (hN : N = w0.heap.size) (hr : Reads w0 N 1 A n (nums .u8 zs)) (hz : ∀ z ∈ zs, 0 ≤ z ∧ z < 256) (hnc : n ≤ c) (hc0 : c ≤ 9223372036854775807)
    (hI : ∀ p bs W, Inv p bs W → Below N w0 W ∧ Blk W b1 39 #[.slice A n c] ∧ Blk W b2 120 #[.pointer (some ⟨y, 0, none⟩)] ∧ Blk W y 27 #[.int .i64 0])
    (hE : ∀ p bs W W', Inv p bs W → Ext W W' → Inv p bs W')
    (hY : ∀ p bs W b, Inv p bs W → W.ownsRow N 5 1 b.v b.l.length (nums .u8 b.l) → p < n → gE smZ (zs.drop p) = 0 → b.l = gB smZ (zs.drop p) →
      ∃ fn tmps assign body, (Instr.yield l #[.int .i64 ((p + gStep (zs.drop p) : Nat) : Int), b.v]).run Tryd.prog W = .ok (.round l fn tmps assign body) W ∧ RoundIn Fence.wide (1 - 1) Tryd.prog l fn tmps assign body W fun e W' => e = .returned (.bool true) ∧ Inv (p + gStep (zs.drop p)) (bs ++ [b]) W')
    (hS : ∀ p bs W W' e, Inv p bs W → Blk W' y 27 #[.int .i64 e] → W.grownBy W' (some y) → p < n → gE smZ (zs.drop p) = e → e ≠ 0 → Fin p bs e W')
    (hF : ∀ p bs W, Inv p bs W → n ≤ p → Fin p bs 0 W)
    (w : World) (h0 : Inv 0 [] w) :
    Calls Tryd.prog 68 #[.func (.yield l) #[] #[], .pointer (some ⟨b1, 0, none⟩), .pointer (some ⟨b2, 0, none⟩)] w fun e w' => e = .returned (.tuple #[]) ∧ ∃ p bs e', Fin p bs e' w' := by
  have hl : zs.length = n := by have := hr.1; simpa [nums] using this
  refine enter Tryd.func68 rfl (by kernel_rfl) ?_
  refine J.seq ?_
  refine J.region ?_
  refine L.va rfl (X.assign (by conv => lhs; whnf)) ?_
  refine L.nil ?_
  refine J.block ?_
  refine J.loop (X := Nat × List Bo) [4, 5, 6, 7, 8, 9, 10, 11, 12, 13, 14, 15, 16, 17, 18, 19, 20, 21, 22, 23, 24, 25, 26, 27, 28, 29, 30, 31, 32] (fun (p, bs) => [(4, .int .i64 (p : Int))]) (fun (p, bs) w' => p ≤ n ∧ Inv p bs w') (fun (p, _) => n - p) ((0, [])) (At1 (by first | rfl | exact at_int rfl (by omega) | exact at_slice rfl (by omega) | exact at_int rfl (by simp))) ?_ ?_
  · exact ⟨Nat.zero_le _, h0⟩
  · rintro ⟨p, bs⟩ g w2 ⟨hp, hI2⟩
    obtain ⟨hB2, k1, k2, ky⟩ := hI p bs w2 hI2
    refine J.seq ?_
    refine J.seq ?_
    refine J.region ?_
    refine L.va rfl (X.move (by conv => lhs; whnf)) ?_
    refine L.va rfl (X.load rfl sc_39 (by first | exact Ld.blk k1 rfl | exact Ld.blk k2 rfl)) ?_
    refine L.va rfl (X.len rfl Tryd.underlying39) ?_
    refine L.va rfl (X.lss rfl rfl) ?_
    refine L.nil ?_
    refine J.dec rfl (fun hlt => ?_) (fun hlt => ?_)
    · have hlt : p < n := by omega
      have hr2 := hr.below hB2
      have ht2 := ht.below hB2 (by omega)
      have hsz := hB2.size
      have hr3 := part_nums hr2 (i := p) (j := n) (by omega) (Nat.le_refl _) hnc
      rw [List.take_of_length_le (by rw [List.length_drop]; omega)] at hr3
      refine J.skip ?_
      refine J.block ?_
      refine J.seq ?_
      refine J.region ?_
      refine L.va rfl (X.load rfl sc_39 (by first | exact Ld.blk k1 rfl | exact Ld.blk k2 rfl)) ?_
      refine L.va rfl (X.move (by conv => lhs; whnf)) ?_
      refine L.va rfl ((by first | exact X.sliceFromn rfl rfl Tryd.underlying39 sz_5 (by omega) | exact X.sliceFrom rfl rfl Tryd.underlying39 sz_5 (by omega))) ?_
      refine L.call rfl en_69 rfl (fgetO_any _ (n - p) (c - p) (zs.drop p) w2 ht2 (hr3.more (by omega)) (fun z h ↦ hz z (List.mem_of_mem_drop h)) (by omega) (by omega)) ?_
      rintro e w4 ⟨A4, c4, rfl, ho4, hb4⟩
      refine ⟨_, rfl, ?_⟩
      have hI4 := hE p bs w2 w4 hI2 hb4
      obtain ⟨hB4, k41, k42, ky4⟩ := hI p bs w4 hI4
      refine L.va rfl (X.move (by conv => lhs; whnf)) ?_
      refine L.va rfl (X.extract rfl rfl) ?_
      refine L.va rfl (X.extract rfl rfl) ?_
      refine L.va rfl (X.extract rfl rfl) ?_
      refine L.va rfl (X.assign (by conv => lhs; whnf)) ?_
      refine L.va rfl (X.assign (by conv => lhs; whnf)) ?_
      refine L.va rfl (X.assign (by conv => lhs; whnf)) ?_
      refine L.nil ?_
      refine J.seq ?_
      refine J.seq ?_
      refine J.region ?_
      refine L.va rfl (X.move (by conv => lhs; whnf)) ?_
      refine L.va rfl (X.neq rfl rfl) ?_
      refine L.nil ?_
      refine J.ndec rfl (fun hbad => ?_) (fun hbad => ?_)
      · skip
        refine J.seq ?_
        refine J.region ?_
        refine L.va rfl (X.load rfl sc_120 (by first | exact Ld.blk k41 rfl | exact Ld.blk k42 rfl | exact Ld.blk ky4 rfl)) ?_
        refine L.va rfl (X.move (by conv => lhs; whnf)) ?_
        refine L.va rfl (X.nilCheck rfl) ?_
        refine L.store rfl rfl (by conv => lhs; whnf) rfl sz_27 (ky4) (by first | decide | exact Nat.le_of_ble_eq_true rfl) ?_
        intro w5 hk5 hg5 hs5
        refine L.nil ?_
        refine J.ret ?_
        refine thn_ret <|  inB_ret <|  thn_ret <|  inB_ret <| ?_
        refine fin0 (.inl rfl) ?_
        exact ⟨rfl, p, bs, _, hS p bs w4 w5 _ hI4 hk5 hg5 hlt rfl hbad⟩
      · have hok : gE smZ (zs.drop p) = 0 := hbad
        obtain ⟨h8, hle, hst⟩ := gN_ok (fun z h => hz z (List.mem_of_mem_drop h)) hok
        rw [List.length_drop] at hle
        rw [← hst]
        obtain ⟨fn, tmps, asn, bdy, hy, hR⟩ := hY p bs w4 ⟨A4, c4, gB smZ (zs.drop p)⟩ hI4 (own_low ho4 (by omega)) hlt hok rfl
        refine J.skip ?_
        refine J.seq ?_
        refine J.region ?_
        refine L.va rfl (X.move (by conv => lhs; whnf)) ?_
        refine L.va rfl (X.move (by conv => lhs; whnf)) ?_
        refine L.va rfl (X.add rfl rfl (by omega)) ?_
        refine L.va rfl (X.assign (by conv => lhs; whnf)) ?_
        refine L.nil ?_
        refine J.seq ?_
        refine J.listIn (m := 1) ?_
        refine LI.va rfl (X.move (by conv => lhs; whnf)) ?_
        refine LI.va rfl (X.move (by conv => lhs; whnf)) ?_
        refine LI.va rfl (X.move (by conv => lhs; whnf)) ?_
        refine LI.yield rfl (X.yield rfl rfl (hy)) (hR) ?_
        rintro e w5 ⟨rfl, hI5⟩
        refine ⟨_, rfl, ?_⟩
        refine LI.va rfl (X.not rfl) ?_
        refine LI.nil ?_
        refine J.iteF rfl ?_
        refine J.skip ?_
        refine ⟨(p + gStep (zs.drop p), bs ++ [⟨A4, c4, gB smZ (zs.drop p)⟩]), At1 (by first | rfl | exact at_int rfl (by omega) | exact at_slice rfl (by omega) | exact at_int rfl (by simp)), (by (iterate 26 refine Agr.lk rfl ?_); exact Agr.lk rfl (Agr.hav rfl Agr.rfl')), ?_⟩
        exact ⟨⟨by omega, hI5⟩, by show n - (p + gStep (zs.drop p)) < n - p; omega⟩
    · refine J.exit ?_
      refine thn_exit <| thn_exit <| inB_eq ?_
      refine fin0 (.inr rfl) ?_
      exact ⟨rfl, p, bs, 0, hF p bs w2 hI2 (by omega)⟩
end Go.Proofs.YtjdimgigbgafbaaDoor
namespace Go.Proofs.YtjdimgigbgafbaaDoor
set_option maxRecDepth 100000
open Go.RowKit H
open Byts Fram
set_option linter.unusedVariables false
structure FrJ (N M l D b1 b2 y : Nat) (A : Option Addr) (n c : Nat) (rec : Loop) (w0 : World) (er : Int) (bs : List Bo) (W : World) : Prop where
  bel : Below N w0 W
  lp : W.heap[l]? = some (.loop rec)
  df : W.heap[D]? = some (.deferred (some []))
  k1 : Blk W b1 39 #[.slice A n c]
  k2 : Blk W b2 120 #[.pointer (some ⟨y, 0, none⟩)]
  ky : Blk W y 27 #[.int .i64 er]
  el : ∀ b ∈ bs, W.ownsRow N 5 1 b.v b.l.length (nums .u8 b.l)
  lt : b1 < M
theorem blk_put {W : World} {b l t : Nat} {cs : Array Value} {o : Loop} (h : Blk W b t cs) (hl : W.heap[l]? = some (.loop o)) (o' : Obj) : Blk (W.putObj l o') b t cs := by
  have hne : b ≠ l := fun e => by
    subst e
    have h2 : W.heap[b]? = some (.cells cs t (0, 0)) := h
    rw [hl] at h2
    cases h2
  exact (World.putObj_heap_other hne).trans h
theorem blk_one {W : World} {g t t' : Nat} {cs cs' : Array Value} (h : Blk W g t cs) (h' : Blk W g t' cs') : t = t' := by
  have h1 : W.heap[g]? = some (.cells cs t (0, 0)) := h
  have h2 : W.heap[g]? = some (.cells cs' t' (0, 0)) := h'
  rw [h1] at h2
  injection h2 with h2
  injection h2
theorem own_blk {w : World} {base e size n : Nat} {v : Value} {xs : List Value} (h : w.ownsRow base e size v n xs) {g : Nat} (hg : v.ownBlock = some g) : (∃ cs, Blk w g e cs) ∧ base ≤ g := by
  rcases h.2 with ⟨rfl, _⟩ | ⟨b, cap, cur, rfl, hb, hh, _⟩
  · cases hg
  · obtain rfl : b = g := by injection hg
    exact ⟨⟨cur, hh⟩, hb⟩
section
variable {N M l D b1 b2 y : Nat} {A : Option Addr} {n c : Nat} {rec : Loop} {w0 : World} {er : Int} {bs : List Bo} {W W' : World} {S : Nat → Prop}
theorem FrJ.chg (h : FrJ N M l D b1 b2 y A n c rec w0 er bs W) (hC : Chg S W W') (hN : N ≤ W.heap.size) (h1 : ∀ g, S g → N ≤ g)
    (h2 : ∀ g, S g → ∃ t cs, Blk W g t cs ∧ t ≠ 5 ∧ t ≠ 120 ∧ t ≠ 27 ∧ g ≠ b1) : FrJ N M l D b1 b2 y A n c rec w0 er bs W' := by
  have nl : ∀ g (o : Obj), W.heap[g]? = some o → (∀ cs t, o ≠ .cells cs t (0, 0)) → W'.heap[g]? = some o := fun g o hg ho => by
    refine (hC.block g (Array.getElem?_eq_some_iff.1 hg).1 fun hS => ?_).trans hg
    obtain ⟨t, cs, hb, _⟩ := h2 g hS
    have hb : W.heap[g]? = some (.cells cs t (0, 0)) := hb
    rw [hg] at hb
    exact ho cs t (Option.some.inj hb)
  refine ⟨h.bel.trans (hC.below hN h1), nl _ _ h.lp (fun _ _ e => by cases e), nl _ _ h.df (fun _ _ e => by cases e), hC.blk h.k1 fun hS => ?_, hC.blk h.k2 fun hS => ?_, hC.blk h.ky fun hS => ?_, fun b hb => hC.own (h.el b hb) fun g hg hS => ?_, h.lt⟩
  · obtain ⟨t, cs, _, _, _, _, hne⟩ := h2 _ hS
    exact hne rfl
  · obtain ⟨t, cs, hb, _, hne, _⟩ := h2 _ hS
    exact hne (blk_one hb h.k2)
  · obtain ⟨t, cs, hb, _, _, hne, _⟩ := h2 _ hS
    exact hne (blk_one hb h.ky)
  · obtain ⟨t, cs, hb', hne, _⟩ := h2 _ hS
    obtain ⟨⟨cs', h5⟩, _⟩ := own_blk (h.el b hb) hg
    exact hne (blk_one hb' h5)
theorem FrJ.ext (h : FrJ N M l D b1 b2 y A n c rec w0 er bs W) (he : Ext W W') (hN : N ≤ W.heap.size) : FrJ N M l D b1 b2 y A n c rec w0 er bs W' :=
  h.chg (S := fun _ => False) (Chg.of_ext he) hN (fun _ h => h.elim) (fun _ h => h.elim)
theorem FrJ.put (h : FrJ N M l D b1 b2 y A n c rec w0 er bs W) (hN : N ≤ l) (hD : D ≠ l) (rec' : Loop) : FrJ N M l D b1 b2 y A n c rec' w0 er bs (W.putObj l (.loop rec')) := by
  have hlt := (Array.getElem?_eq_some_iff.1 h.lp).1
  refine ⟨?_, World.putObj_heap_same hlt, (World.putObj_heap_other hD).trans h.df, blk_put h.k1 h.lp _, blk_put h.k2 h.lp _, blk_put h.ky h.lp _, fun b hb => ownsRow_putObj (h.el b hb) _ h.lp rfl, h.lt⟩
  exact h.bel.trans (Chg.below (S := fun g => g = l) (Chg.of_grown (grownBy_putObj' W l _) fun g e => by injection e with e; exact e.symm) (by omega) (fun g e => by omega))
theorem FrJ.snoc (h : FrJ N M l D b1 b2 y A n c rec w0 er bs W) {b : Bo} (hb : W.ownsRow N 5 1 b.v b.l.length (nums .u8 b.l)) : FrJ N M l D b1 b2 y A n c rec w0 er (bs ++ [b]) W :=
  ⟨h.bel, h.lp, h.df, h.k1, h.k2, h.ky, fun b' hb' => by
    rcases List.mem_append.1 hb' with h1 | h1
    · exact h.el b' h1
    · rw [List.mem_singleton] at h1
      rw [h1]
      exact hb, h.lt⟩
structure FrK (M bo bu p : Nat) (bs : List Bo) (W : World) : Prop where
  ku : Blk W bu 3 #[.int .i64 (p : Int)]
  ro : ∃ Ao co, Blk W bo 30 #[.slice Ao bs.length co] ∧ W.ownsRow M 39 1 (.slice Ao bs.length co) bs.length (bs.map Bo.v)
theorem FrK.chg {bo bu p : Nat} (h : FrK M bo bu p bs W) (hC : Chg S W W') (h2 : ∀ g, S g → ∀ t cs, Blk W g t cs → t ≠ 3 ∧ t ≠ 30 ∧ t ≠ 39) : FrK M bo bu p bs W' := by
  obtain ⟨Ao, co, r1, r2⟩ := h.ro
  refine ⟨hC.blk h.ku fun hS => (h2 _ hS _ _ h.ku).1 rfl, Ao, co, hC.blk r1 fun hS => (h2 _ hS _ _ r1).2.1 rfl, hC.own r2 fun g hg hS => ?_⟩
  obtain ⟨⟨cs, h5⟩, _⟩ := own_blk r2 hg
  exact (h2 _ hS _ _ h5).2.2 rfl
theorem FrK.ext {bo bu p : Nat} (h : FrK M bo bu p bs W) (he : Ext W W') : FrK M bo bu p bs W' := h.chg (S := fun _ => False) (Chg.of_ext he) (fun _ h => h.elim)
theorem FrK.put {bo bu p : Nat} (h : FrK M bo bu p bs W) (hl : W.heap[l]? = some (.loop rec)) (rec' : Loop) : FrK M bo bu p bs (W.putObj l (.loop rec')) := by
  obtain ⟨Ao, co, r1, r2⟩ := h.ro
  exact ⟨blk_put h.ku hl _, Ao, co, blk_put r1 hl _, ownsRow_putObj r2 _ hl rfl⟩
end
theorem fold2 (T : Array Value) (v u : Value) : ((#[12, 13] : Array Tmp).zip #[v, u]).foldl (fun tmps (t, a) => tmps.setIfInBounds t a) T = (T.setIfInBounds 12 v).setIfInBounds 13 u := by
  simp
theorem fall (A : Option Addr) (n c : Nat) (zs : List Int) (w : World) (ht : Tab w) (hr : Reads w w.heap.size 1 A n (nums .u8 zs)) (hz : ∀ z ∈ zs, 0 ≤ z ∧ z < 256) (hnc : n ≤ c) (hc0 : c ≤ 9223372036854775807) (hn : n ≤ 1000000) :
    Calls Tryd.prog 39 #[.slice A n c] w fun e w' => ∃ Ao co bs p er, e = .returned (.tuple #[.slice Ao (bs : List Bo).length co, .int .i64 ((p : Nat) : Int), .int .i64 er]) ∧ allF zs 0 = (bs.map Bo.l, p, er) ∧
      w'.ownsRow w.heap.size 39 1 (.slice Ao bs.length co) bs.length (bs.map Bo.v) ∧ (∀ b ∈ bs, w'.ownsRow w.heap.size 5 1 b.v b.l.length (nums .u8 b.l)) ∧ Below w.heap.size w w' := by
  have hl : zs.length = n := by have := hr.1; simpa [nums] using this
  refine enterM Tryd.func39 rfl (by kernel_rfl) ?_
  refine JX.seq rfl ?_
  refine J.region ?_
  refine L.va rfl (X.assign (by conv => lhs; whnf)) ?_
  refine L.va rfl (X.assign (by conv => lhs; whnf)) ?_
  refine L.va rfl (X.assign (by conv => lhs; whnf)) ?_
  refine L.nil ?_
  refine JX.seq rfl ?_
  refine J.region ?_
  refine L.alloc rfl zr_30 ?_
  intro bo w1 hbo hs1 kbo1 he1
  refine L.nil ?_
  refine JX.seq rfl ?_
  refine J.region ?_
  refine L.alloc rfl zr_3 ?_
  intro bu w2 hbu hs2 kbu2 he2
  refine L.alloc rfl zr_27 ?_
  intro y w3 hy hs3 ky3 he3
  have kbu3 := kbu2.ext he3
  refine L.store rfl rfl (by conv => lhs; whnf) rfl sz_3 (kbu3) (by first | decide | exact Nat.le_of_ble_eq_true rfl) ?_
  intro w4 kbu4 hg4 hs4
  have ky4 : Blk w4 y 27 #[.int .i64 0] := ky3.grown hg4 (by intro e; injection e with e; omega)
  refine L.store rfl rfl (by conv => lhs; whnf) rfl sz_27 (ky4) (by first | decide | exact Nat.le_of_ble_eq_true rfl) ?_
  intro w5 ky5 hg5 hs5
  refine L.nil ?_
  refine JX.seqX ?_
  refine JX.seq rfl ?_
  refine J.region ?_
  refine L.va rfl (X.move (by conv => lhs; whnf)) ?_
  refine L.call rfl en_58 rfl (frames_ A n c y w5) ?_
  rintro e w6 ⟨b1, b2, rfl, hb1, hb2, k1, k2, he6⟩
  refine ⟨_, rfl, ?_⟩
  refine L.nil ?_
  refine JX.block ?_
  refine JX.rangeF (cs := [.pointer (some ⟨b1, 0, none⟩), .pointer (some ⟨b2, 0, none⟩)]) rfl en_68 ?_
  intro fn a hra rec hrec
  have he03 : Ext w w3 := (he1.trans he2).trans he3
  have he04 : Ext w w4 := he03.grw hg4 (by intro g e; injection e with e; omega)
  have he05 : Ext w w5 := he04.grw hg5 (by intro g e; injection e with e; omega)
  have he06 : Ext w w6 := he05.trans he6
  have kbo5 : Blk w5 bo 30 #[.slice none 0 0] := ((kbo1.ext (he2.trans he3)).grown hg4 (by intro e; injection e with e; omega)).grown hg5 (by intro e; injection e with e; omega)
  have kbu5 : Blk w5 bu 3 #[.int .i64 0] := kbu4.grown hg5 (by intro e; injection e with e; omega)
  have z6 := he06.le
  obtain ⟨W1, hW1⟩ : ∃ W1, (w6.alloc (.deferred (some []))).alloc (.loop rec) = W1 := ⟨_, rfl⟩
  rw [hW1]
  have zW : W1.heap.size = w6.heap.size + 2 := by rw [← hW1]; simp
  have he7 : Ext w6 W1 := by rw [← hW1]; exact ((Below.refl _ w6).alloc (Nat.le_refl _) _).alloc (by simp) _
  have hL1 : W1.heap[w6.heap.size + 1]? = some (.loop rec) := by
    rw [← hW1]; have := World.alloc_heap_new (w6.alloc (.deferred (some []))) (.loop rec); rwa [World.size_alloc] at this
  have hK1 : W1.heap[w6.heap.size]? = some (.deferred (some [])) := by
    rw [← hW1]; exact (Below.heap_alloc _ _ _ (by simp)).trans (World.alloc_heap_new w6 _)
  have J0 : FrJ w.heap.size (w6.heap.size + 2) (w6.heap.size + 1) w6.heap.size b1 b2 y A n c rec w 0 [] W1 :=
    ⟨he06.trans he7, hL1, hK1, k1.ext he7, k2.ext he7, (ky5.ext he6).ext he7, fun b hb => by (cases hb), by have := k1.lt; omega⟩
  have K0 : FrK (w6.heap.size + 2) bo bu 0 [] W1 := ⟨(kbu5.ext he6).ext he7, none, 0, (kbo5.ext he6).ext he7, own_nil _ _ _ _⟩
  refine (frames1 (w6.heap.size + 1) b1 b2 y A n c w.heap.size zs w
    (fun p bs W => AllSt zs p (bs.map Bo.l) ∧ w6.heap.size + 2 ≤ W.heap.size ∧ FrJ w.heap.size (w6.heap.size + 2) (w6.heap.size + 1) w6.heap.size b1 b2 y A n c rec w 0 bs W ∧ FrK (w6.heap.size + 2) bo bu p bs W)
    (fun p bs e W => allF zs 0 = (bs.map Bo.l, p, e) ∧ FrJ w.heap.size (w6.heap.size + 2) (w6.heap.size + 1) w6.heap.size b1 b2 y A n c rec w e bs W ∧ FrK (w6.heap.size + 2) bo bu p bs W)
    ht rfl hr hz hnc hc0 (fun p bs W h => ⟨h.2.2.1.bel, h.2.2.1.k1, h.2.2.1.k2, h.2.2.1.ky⟩)
    (fun p bs W W' h he => ⟨h.1, Nat.le_trans h.2.1 he.le, h.2.2.1.ext he (by have := h.2.1; omega), h.2.2.2.ext he⟩) ?_ ?_
    (fun p bs W h hp => ⟨h.1.done (by omega), h.2.2⟩) W1 ⟨AllSt.start zs, by omega, J0, K0⟩).mono ?_
  · rintro p bs W b ⟨st, hsz, hJ, hK⟩ hb hp hge hbl
    have hrun := run_yield (P := Tryd.prog) (args := #[.int .i64 ((p + gStep (zs.drop p) : Nat) : Int), b.v]) hJ.lp (by rw [hrec]; rfl)
    refine ⟨rec.fn, _, rec.assign, rec.body, hrun, ?_⟩
    have hT : (rec.params.zip #[.int .i64 ((p + gStep (zs.drop p) : Nat) : Int), b.v]).foldl (fun tmps (t, a) => tmps.setIfInBounds t a) rec.tmps = ((a.put (some 12) (.int .i64 ((p + gStep (zs.drop p) : Nat) : Int))).put (some 13) b.v).tmps := by
      have hpar : rec.params = #[12, 13] := congrArg Loop.params hrec
      have htmp : rec.tmps = a.tmps := congrArg Loop.tmps hrec
      rw [hpar, htmp]
      exact fold2 _ _ _
    have hasn := congrArg Loop.assign hrec
    have hbdy := congrArg Loop.body hrec
    dsimp only at hasn hbdy
    rw [hT, hasn, hbdy]
    refine round_of ((hra.put (d := some 12) _ rfl).put (d := some 13) _ rfl) (by kernel_rfl) (by kernel_rfl) ?_
    refine JI.seq ?_
    refine JI.region (by rfl) (by intro _ _ h; cases (And.left h)) ?_
    refine L.va rfl (X.assign (by conv => lhs; whnf)) ?_
    refine L.nil ?_
    refine JI.region (by rfl) (by intro _ _ h; cases (And.left h)) ?_
    refine L.va rfl (X.assign (by conv => lhs; whnf)) ?_
    refine L.nil ?_
    refine ⟨rfl, _, run_beginRound hJ.lp (by rw [hrec]), ?_⟩
    have hN6 : w.heap.size ≤ w6.heap.size + 1 := by omega
    have J2 := hJ.put hN6 (by omega) { rec with state := .busy }
    have K2 := hK.put hJ.lp { rec with state := .busy }
    have hb2 : (W.putObj (w6.heap.size + 1) (.loop { rec with state := .busy })).ownsRow w.heap.size 5 1 b.v b.l.length (nums .u8 b.l) := ownsRow_putObj hb _ hJ.lp rfl
    have hz2 : w6.heap.size + 2 ≤ (W.putObj (w6.heap.size + 1) (.loop { rec with state := .busy })).heap.size := by simp; exact hsz
    generalize W.putObj (w6.heap.size + 1) (.loop { rec with state := .busy }) = W2 at J2 K2 hb2 hz2 ⊢
    have J2 := J2.snoc hb2
    obtain ⟨Ao, co, r1, r2⟩ := K2.ro
    have ku2 := K2.ku
    refine JI.block ?_
    refine JI.seq ?_
    refine JI.region (by rfl) (by intro _ _ h; cases (And.left h)) ?_
    refine L.va rfl (X.load rfl sc_30 (by first | exact Ld.blk r1 rfl)) ?_
    refine L.va rfl (X.move (by conv => lhs; whnf)) ?_
    refine L.bslice (vs := [_]) rfl (Evs.cons (by conv => lhs; whnf) Evs.nil) rfl rfl rfl rfl Tryd.underlying30 sz_39 zr_39 (by decide) ?_
    intro b6 W3 hb6 hs6 kb6 he6'
    have ho3 := r2.ext he6'
    have few := st.few
    have stl := st.le
    rw [List.length_map] at few
    refine L.appendV (q := bs.length + 1) (ys := bs.map Bo.v ++ [b.v]) rfl rfl rfl Tryd.underlying30 el_39 (ho3) ((blk_reads (q := 1) (l := [b.v]) kb6 kb6.lt rfl)) (by first | rfl | exact strs_ones _ | assumption) (by omega) (by simp) (by unfold maxLen; omega) (by omega) ?_
    intro A7 c7 W4 ho7 hg7 hb7 hor7
    have r3 := r1.ext he6'
    have ku3 := ku2.ext he6'
    have nb : ∀ {g : Nat} {t : Nat} {cs : Array Value}, Blk W3 g t cs → t ≠ 39 → some g ≠ Value.ownBlock (.slice Ao bs.length co) := fun hk ht e => by
      obtain ⟨⟨cs', h5⟩, _⟩ := own_blk ho3 e.symm
      exact ht (blk_one hk h5)
    have r4 := r3.grown hg7 (nb r3 (by decide))
    have ku4 := ku3.grown hg7 (nb ku3 (by decide))
    have hne : bo ≠ bu := by omega
    refine L.store rfl rfl (by conv => lhs; whnf) rfl sz_30 (r4) (by first | decide | exact Nat.le_of_ble_eq_true rfl) ?_
    intro W5 r5 hg8 hs8
    have ku5 := ku4.grown hg8 (by intro e; injection e with e; exact hne e.symm)
    refine L.nil ?_
    refine JI.region (by rfl) (by intro _ _ h; cases (And.left h)) ?_
    refine L.va rfl (X.move (by conv => lhs; whnf)) ?_
    refine L.store rfl rfl (by conv => lhs; whnf) rfl sz_3 (ku5) (by first | decide | exact Nat.le_of_ble_eq_true rfl) ?_
    intro W6 ku6 hg9 hs9
    have r6 := r5.grown hg9 (by intro e; injection e with e; exact hne e)
    refine L.nil ?_
    have hC : Chg (fun g => g = bo ∨ g = bu ∨ Value.ownBlock (.slice Ao bs.length co) = some g) W3 W6 :=
      ((Chg.of_grown hg7 fun g e => .inr (.inr e)).trans (Chg.of_grown hg8 fun g e => .inl (by injection e with e; exact e.symm)) (fun _ _ h => h)).trans (Chg.of_grown hg9 fun g e => .inr (.inl (by injection e with e; exact e.symm))) (fun _ _ h => h)
    have hC2 : Chg (fun g => g = bo ∨ g = bu) W4 W6 :=
      (Chg.of_grown hg8 fun g e => .inl (by injection e with e; exact e.symm)).trans (Chg.of_grown hg9 fun g e => .inr (by injection e with e; exact e.symm)) (fun _ _ h => h)
    have zW3 := he6'.le
    have zC := hC.size
    have J6 := (J2.ext he6' (by omega)).chg hC (by omega) (fun g hS => by
      rcases hS with rfl | rfl | e
      · omega
      · omega
      · have := (own_blk ho3 e).2
        omega) (fun g hS => by
      rcases hS with rfl | rfl | e
      · exact ⟨_, _, r3, by decide, by decide, by decide, by omega⟩
      · exact ⟨_, _, ku3, by decide, by decide, by decide, by omega⟩
      · obtain ⟨⟨cs', h5⟩, hM⟩ := own_blk ho3 e
        have := J2.lt
        exact ⟨_, _, h5, by decide, by decide, by decide, by omega⟩)
    have ho6 := hC2.own ho7 (fun g hg hS => by
      obtain ⟨⟨cs', h5⟩, _⟩ := own_blk ho7 hg
      rcases hS with rfl | rfl
      · exact absurd (blk_one h5 r4) (by decide)
      · exact absurd (blk_one h5 ku4) (by decide))
    have hend : (Instr.endRound (w6.heap.size + 1) none).run Tryd.prog W6 = .ok (.bool true) (W6.putObj (w6.heap.size + 1) (.loop rec)) := by
      have := run_endRound (P := Tryd.prog) none J6.lp
      rw [this, hrec]
      rfl
    have K6 : FrK (w6.heap.size + 2) bo bu (p + gStep (zs.drop p)) (bs ++ [b]) W6 := ⟨ku6, A7, c7, by rw [List.length_append]; exact r6, by rw [List.length_append, List.map_append]; exact ho6⟩
    have st6 := st.next hz (by omega) hge
    refine ⟨rfl, rfl, _, _, hend, rfl, ?_, by simp; omega, J6.put hN6 (by omega) rec, K6.put J6.lp rec⟩
    rw [List.map_append, List.map_cons, List.map_nil, hbl]
    exact st6
  · rintro p bs W W' er ⟨st, hsz, hJ, hK⟩ hy' hg hp hge he0
    have hC : Chg (fun g => g = y) W W' := Chg.of_grown hg fun g e => by injection e with e; exact e.symm
    have hky := hJ.ky
    refine ⟨by have := st.bad (by omega) (by rw [hge]; exact he0); rwa [hge] at this, ⟨hJ.bel.trans (hC.below (by omega) (fun g e => by rw [e, hy]; omega)), ?_, ?_, hC.blk hJ.k1 fun e => ?_, hC.blk hJ.k2 fun e => ?_, hy', fun b hb => hC.own (hJ.el b hb) fun g hg' e => ?_, hJ.lt⟩, hK.chg hC fun g e t cs hb => ?_⟩
    · refine (hC.block _ (Array.getElem?_eq_some_iff.1 hJ.lp).1 fun e => ?_).trans hJ.lp
      have h2 : W.heap[y]? = some (.cells #[.int .i64 0] 27 (0, 0)) := hky
      rw [← e, hJ.lp] at h2
      cases h2
    · refine (hC.block _ (Array.getElem?_eq_some_iff.1 hJ.df).1 fun e => ?_).trans hJ.df
      have h2 : W.heap[y]? = some (.cells #[.int .i64 0] 27 (0, 0)) := hky
      rw [← e, hJ.df] at h2
      cases h2
    · have := blk_one hJ.k1 (by rw [e]; exact hky)
      exact absurd this (by decide)
    · have := blk_one hJ.k2 (by rw [e]; exact hky)
      exact absurd this (by decide)
    · obtain ⟨⟨cs, h5⟩, _⟩ := own_blk (hJ.el b hb) hg'
      rw [e] at h5
      exact absurd (blk_one h5 hky) (by decide)
    · rw [e] at hb
      have := blk_one hb hky
      subst this
      exact ⟨by decide, by decide, by decide⟩
  · rintro e w3' ⟨rfl, p, bs, er, hfin, hJ, hK⟩
    refine ⟨⟨_, rfl⟩, hJ.lp, rfl, rfl, ?_⟩
    have hN6 : w.heap.size ≤ w6.heap.size + 1 := by omega
    have J2 := hJ.put hN6 (by omega) { rec with state := .exhausted }
    have K2 := hK.put hJ.lp { rec with state := .exhausted }
    generalize w3'.putObj (w6.heap.size + 1) (.loop { rec with state := .exhausted }) = W2 at J2 K2 ⊢
    obtain ⟨Ao, co, r1, r2⟩ := K2.ro
    refine tailM hra (by kernel_rfl) (by kernel_rfl) rfl J2.df ?_
    refine Qt.va rfl (fun w' hw => X.load rfl sc_30 (Ld.blk (r1.ext hw) rfl)) ?_
    refine Qt.va rfl (fun w' hw => X.load rfl sc_3 (Ld.blk (K2.ku.ext hw) rfl)) ?_
    refine Qt.va rfl (fun w' hw => X.load rfl sc_27 (Ld.blk (J2.ky.ext hw) rfl)) ?_
    refine Qt.va rfl (fun w' hw => X.assign (by conv => lhs; whnf)) ?_
    refine Qt.va rfl (fun w' hw => X.assign (by conv => lhs; whnf)) ?_
    refine Qt.va rfl (fun w' hw => X.assign (by conv => lhs; whnf)) ?_
    refine Qt.nil ?_
    intro w' hw
    refine fin3 ?_
    have hD' : w'.heap[w6.heap.size]? = some (.deferred (some [])) := (hw.block _ (Array.getElem?_eq_some_iff.1 J2.df).1).trans J2.df
    refine ⟨Ao, co, bs, p, er, rfl, hfin, own_low (ownsRow_putObj (r2.ext hw) _ hD' rfl) (by omega), fun b hb => ownsRow_putObj ((J2.el b hb).ext hw) _ hD' rfl, ?_⟩
    have hC : Chg (fun g => g = w6.heap.size) w' (w'.putObj w6.heap.size (.deferred none)) := Chg.of_grown (grownBy_putObj' w' _ _) fun g e => by injection e with e; exact e.symm
    have zz := J2.bel.size
    exact (J2.bel.trans (Below.mono hw (by omega))).trans (hC.below (by have := hw.le; omega) (fun g e => by omega))
end Go.Proofs.YtjdimgigbgafbaaDoor
namespace Go.Proofs.YtjdimgigbgafbaaDoor
set_option maxRecDepth 100000
open Go.RowKit H
open Lo Byts Seal Fram
set_option linter.unusedVariables false
def stO (fr ct : Nat) (ep : Int) (o : Lo.Os) : Ls := ⟨fr, ct, ep, o.nx, o.sm, o.tm, 0⟩
theorem opI_succ (s : Ds) (fr : Nat) (ep : Int) (i : Nat) : opI s fr ep (i + 1) = opStep ep i (s.now (fr + i)) (opI s fr ep i) := rfl
structure New (G : Lg) (n : Nat) : Prop where
  p : n ≤ G.p
  s : ∀ g, G.ss.ownBlock = some g → n ≤ g
  t : ∀ g, G.ts.ownBlock = some g → n ≤ g
theorem New.gr {G G' : Lg} {n m : Nat} (h : New G n) (g : Lg.Gr G G' m) (hm : n ≤ m) : New G' n :=
  ⟨by rw [g.p]; exact h.p, fun b hb => (g.s b hb).elim (h.s b) (fun e => by omega), fun b hb => (g.t b hb).elim (h.t b) (fun e => by omega)⟩
theorem Kq.of_chg {kb d : Nat} {C : Nat → Prop} {w w1 w2 : World} {G : Lg} {v1 : Dk} (h : Kq kb d C w w1) (k : Chg (G.LS v1 C w1) w1 w2) (hk : v1.kb = kb) (hd : v1.d = d) (hn : New G w.heap.size) : Kq kb d C w w2 :=
  ⟨k.os.trans h.os, k.tape.trans h.tape, k.output.trans h.output, Nat.le_trans h.size k.size, fun g hg h1 h2 h3 => by
    have e := h.block g hg h1 h2 h3
    refine (k.block g (Nat.lt_of_lt_of_le hg h.size) ?_).trans e
    rintro (h4 | h4 | ⟨h4, h5⟩ | h4 | h4 | h4)
    · exact h1 (h4.trans hk)
    · exact h2 (h4.trans hd)
    · exact h5 (h3 (h4.same e))
    · have := hn.p; omega
    · have := hn.s g h4; omega
    · have := hn.t g h4; omega⟩
theorem Kq.ext_ {kb d : Nat} {C : Nat → Prop} {w w1 w2 : World} (h : Kq kb d C w w1) (k : Ext w1 w2) : Kq kb d C w w2 := h.trans (.of_ext k)
structure Opened (v : Dk) (N : Nat) (C : Nat → Prop) (fr ct : Nat) (ep : Int) (w : World) (G : Lg) (v' : Dk) (Ao : Option Addr) (co : Nat) (bs : List Bo) (w' : World) : Prop where
  at_ : G.At v' N C w'
  d : v'.d = v.d
  kb : v'.kb = v.kb
  ab : v'.abs = rdN v.abs ct
  st : G.st = openL v.abs fr ct ep
  rec_ : bs.map Bo.l = recs (opI v.abs fr ep ct).sm
  row : w'.ownsRow w.heap.size 39 1 (.slice Ao bs.length co) bs.length (bs.map Bo.v)
  els : ∀ b ∈ bs, w'.ownsRow w.heap.size 5 1 b.v b.l.length (nums .u8 b.l)
  kq : Kq v.kb v.d C w w'
  new : New G w.heap.size
  ok : Lo.Ok G.st v'.kp.length
  sep : ∀ b ∈ bs, ∀ g, b.v.ownBlock = some g → G.ss.ownBlock ≠ some g
theorem openL_ok {s : Ds} (hB : Byte s) {fr ct : Nat} {ep : Int} (hfc : fr + ct ≤ s.kept.length) (h1 : 1 ≤ ct) (hep : 0 ≤ ep ∧ ep ≤ 18446744073709551615) : Lo.Ok (openL s fr ct ep) s.kept.length := by
  have ho := opI_ok hB ep hfc
  have hu := used_le ho.sb
  have h2 := ho.c2
  have h3 := ho.sl
  have h4 := ho.sg
  refine ⟨hfc, h1, hep, ho.n1, ho.n2, fun z hz => ho.sb z (List.mem_of_mem_take hz), ?_, fun _ => ?_, fun t ht => ho.tt t (List.mem_of_mem_take ht), ?_⟩
  · show ((opI s fr ep ct).sm.take _).length ≤ ct * 991
    rw [List.length_take]; omega
  · show ((opI s fr ep ct).tm.take _).length = (((opI s fr ep ct).sm.take _).length + 990) / 991
    rw [List.length_take, List.length_take]; omega
  · show ((opI s fr ep ct).tm.take _).length ≤ ct
    rw [List.length_take]; omega
theorem rd_do {s : Ds} (hoff : s.off = false) (i a : Nat) (ha : a < s.kept.length) : (rdN s i).do_ ⟨0, (a : Int), [], true, []⟩ = (rdN s (i + 1), s.now a, 0) := by
  have h : (rdN s i).do_ ⟨0, (a : Int), [], true, []⟩ = ({ rdN s i with rd := (rdN s i).rd + 1 }, (rdN s i).now a, 0) := by
    unfold Ds.do_
    rw [if_neg (show ¬ (0 : Int) = 3 by decide), if_neg (show ¬ (0 : Int) = 4 by decide), if_neg (show ¬ (rdN s i).off = true by show ¬ s.off = true; rw [hoff]; decide), if_neg, if_pos (show (0 : Int) = 0 from rfl)]
    · rfl
    · rintro ⟨_, h | h⟩
      · have h : (a : Int) < 0 := h
        omega
      · have h : (s.kept.length : Int) ≤ (a : Int) := h
        omega
  rw [h]
  have e : s.rd + (i : Int) + 1 = s.rd + ((i + 1 : Nat) : Int) := by omega
  show (({ s with rd := s.rd + (i : Int) + 1 } : Ds), s.now a, (0 : Int)) = _
  rw [e]
  rfl
theorem rdN_ok {s : Ds} {m : Nat} (h : s.Ok m) (i : Nat) : (rdN s i).Ok (m + i) := by
  have h2 := h.hm
  refine ⟨h.hn, h.hk, h.hp, ?_, h.hl⟩
  show s.pend.length ≤ m + i ∧ (0 ≤ s.rd + (i : Int) ∧ s.rd + (i : Int) ≤ ((m + i : Nat) : Int)) ∧ (0 ≤ s.wr ∧ s.wr ≤ ((m + i : Nat) : Int)) ∧ (0 ≤ s.fl ∧ s.fl ≤ ((m + i : Nat) : Int))
  omega
theorem Reads.fresh {w w' : World} {B n c K : Nat} {A : Option Addr} {xs : List Value} (h : Reads w B 1 A n xs) (hf : ∀ g, Value.ownBlock (.slice A n c) = some g → K ≤ g) {r : Option Nat} (hg : w.grownBy w' r) (hb : ∀ b, r = some b → b < K) : Reads w' B 1 A n xs := by
  refine ⟨h.1, fun h0 => ?_⟩
  obtain ⟨g, off, u, rfl, hB, hu, hc⟩ := h.at_ (k := 0) h0
  obtain ⟨ad, e2, _, hcs⟩ := h.2 h0
  injection e2 with e2
  subst e2
  have hK := hf g rfl
  refine ⟨_, rfl, hB, fun j u hu => ?_⟩
  have h1 := hcs j u hu
  rw [Addr.add_mid] at h1 ⊢
  have hlt : g < w.heap.size := by
    apply Classical.byContradiction
    intro hn
    have hno : w.heap[g]? = none := Array.getElem?_eq_none (by omega)
    simp [World.cell?, hno] at h1
  rw [← h1]
  exact World.cell?_of_block (a := ⟨g, off + j, none⟩) (hg.block g hlt (fun e => by have := hb g e.symm; omega))
theorem not_LS {G : Lg} {v : Dk} {N : Nat} {C : Nat → Prop} {w w' : World} (h : G.At v N C w) {g t : Nat} (hge : w.heap.size ≤ g) (ht : IsT w' g t) (hne : t ≠ 107) : ¬ G.LS v C w' g := by
  have lt : ∀ {g t : Nat}, IsT w g t → g < w.heap.size := fun ⟨cs, hc⟩ => by
    have hc : Blk w _ _ cs := hc
    exact hc.lt
  rintro (h1 | h1 | ⟨h1, _⟩ | h1 | h1 | h1)
  · have := lt h.hd.kT.1; omega
  · have := lt h.hd.dT; omega
  · exact hne (ht.fun_ h1)
  · have := h.hb.lt; omega
  · have := lt (h.hs.own h1).1; omega
  · have := lt (own_isT h.ht h1).1; omega
section
variable {v : Dk} {N : Nat} {C : Nat → Prop} {w w' : World}
theorem lopen (h : v.At N C w) {m : Nat} (hok : v.abs.Ok m) (hm : m + 8192 ≤ 1000000) (hoff : v.off = false) (hB : Byte v.abs) (ht : Tab w) (tN : 0 < N) (fr ct : Nat) (hfc : fr + ct ≤ v.kp.length) (hc1 : 1 ≤ ct) (hct : ct ≤ 1000) (ep : Int) (hep : 0 ≤ ep ∧ ep ≤ 18446744073709551615) :
    Calls Tryd.prog 10 #[v.ptr, .int .i64 (fr : Int), .int .i64 (ct : Int), .int .u64 ep] w fun e w' => ∃ G v' Ao co bs, e = .returned (.tuple #[G.ptr, .slice Ao (bs : List Bo).length co, .int .i64 0]) ∧ Opened v N C fr ct ep w G v' Ao co bs w' := by
  have hkl := h.h1
  have hak : v.abs.kept.length = v.kp.length := v.klen
  have hNw := h.nsz
  have ooI := fun i (hi : i ≤ ct) => opI_ok hB (fr := fr) ep (i := i) (by omega)
  refine enter Tryd.func10 rfl (by kernel_rfl) ?_
  refine J.seq ?_
  refine J.region ?_
  refine L.va rfl (X.assign (by conv => lhs; whnf)) ?_
  refine L.va rfl (X.assign (by conv => lhs; whnf)) ?_
  refine L.va rfl (X.assign (by conv => lhs; whnf)) ?_
  refine L.nil ?_
  refine J.seq ?_
  refine J.seq ?_
  refine J.region ?_
  refine L.va rfl (X.move (by conv => lhs; whnf)) ?_
  refine L.va rfl (X.lss rfl rfl) ?_
  refine L.va rfl (X.move (by conv => lhs; whnf)) ?_
  refine L.caseDecF (k := 23) rfl (by omega) ?_
  refine L.va rfl (X.move (by conv => lhs; whnf)) ?_
  refine L.va rfl (X.lss rfl rfl) ?_
  refine L.va rfl (X.pickF rfl (by conv => lhs; whnf)) ?_
  refine L.va rfl (X.move (by conv => lhs; whnf)) ?_
  refine L.caseDecF (k := 27) rfl (by omega) ?_
  refine L.va rfl (X.move (by conv => lhs; whnf)) ?_
  refine L.va rfl (X.move (by conv => lhs; whnf)) ?_
  refine L.call rfl en_35 rfl (h.len_) ?_
  rintro e _ ⟨rfl, rfl⟩
  refine ⟨_, rfl, ?_⟩
  refine L.va rfl (X.gtr rfl rfl) ?_
  refine L.va rfl (X.pickF rfl (by conv => lhs; whnf)) ?_
  refine L.va rfl (X.move (by conv => lhs; whnf)) ?_
  refine L.caseDecF (k := 33) rfl (by omega) ?_
  refine L.va rfl (X.move (by conv => lhs; whnf)) ?_
  refine L.va rfl (X.move (by conv => lhs; whnf)) ?_
  refine L.call rfl en_35 rfl (h.len_) ?_
  rintro e _ ⟨rfl, rfl⟩
  refine ⟨_, rfl, ?_⟩
  refine L.va rfl (X.move (by conv => lhs; whnf)) ?_
  refine L.va rfl (X.sub rfl rfl (by omega)) ?_
  refine L.va rfl (X.gtr rfl rfl) ?_
  refine L.va rfl (X.pickF rfl (by conv => lhs; whnf)) ?_
  refine L.nil ?_
  refine J.decF rfl (by omega) ?_
  refine J.skip ?_
  refine J.seq ?_
  refine J.region ?_
  refine L.va rfl (X.move (by conv => lhs; whnf)) ?_
  refine L.va rfl (X.move (by conv => lhs; whnf)) ?_
  refine L.va rfl (X.move (by conv => lhs; whnf)) ?_
  refine L.va rfl (X.move (by conv => lhs; whnf)) ?_
  refine L.va rfl (X.build (l := [_, _, _, _, _, _, _, _, _]) (Evs.cons (by conv => lhs; whnf) (Evs.cons (by conv => lhs; whnf) (Evs.cons (by conv => lhs; whnf) (Evs.cons (by conv => lhs; whnf) (Evs.cons (by conv => lhs; whnf) (Evs.cons (by conv => lhs; whnf) Evs.nil)))))) (bld_run Tryd.underlying83 (bp_83 Tryd.underlying83) zr_83 rfl)) ?_
  refine L.boxA (l := [_, _, _, _, _, _, _, _, _]) rfl rfl ?_
  intro b1 w1 hb1 hs1 hk1 he1
  have H0 : Lg.At ⟨b1, none, 0, none, 0, stO fr ct ep (opI v.abs fr ep 0)⟩ v N C w1 := by
    refine ⟨h.ext he1, hk1, .inl (own_nil _ _ _ _), own_nil _ _ _ _, (fun x hx g hg e => by cases e), (by show N ≤ b1; omega), tabx ht he1, tN⟩
  have N0 : New ⟨b1, none, 0, none, 0, stO fr ct ep (opI v.abs fr ep 0)⟩ w.heap.size := ⟨by show _ ≤ b1; omega, (fun g hg => by cases hg), (fun g hg => by cases hg)⟩
  have ch0 : (opI v.abs fr ep 0).ch = true := rfl
  have kq1 : Kq v.kb v.d C w w1 := .of_ext he1
  refine L.va rfl (X.assign (by conv => lhs; whnf)) ?_
  refine L.nil ?_
  refine J.seq ?_
  refine J.region ?_
  refine L.va rfl (X.assign (by conv => lhs; whnf)) ?_
  refine L.nil ?_
  refine J.seq ?_
  refine J.seq ?_
  refine J.region ?_
  refine L.va rfl (X.move (by conv => lhs; whnf)) ?_
  refine L.va rfl (X.move (by conv => lhs; whnf)) ?_
  refine L.nil ?_
  refine J.block ?_
  refine J.loop (X := Nat × Lg × Dk × Bool) [8, 9, 10, 12, 13, 14, 15, 16, 17, 48, 49, 50, 51, 52, 53, 54, 55, 56, 57, 58, 59, 60, 61, 62, 63, 64, 65, 66, 67, 68, 69, 70, 71, 72, 73, 74, 75, 76, 77, 78, 79, 80, 81, 82, 83, 84, 85, 86, 87, 88, 89, 90, 91, 92, 93, 94, 95, 96, 97, 98, 99, 100, 101, 102, 103, 104, 105, 106, 107, 108, 109, 110, 111, 112] (fun (i, _, _, c) => [(48, .int .i64 (i : Int)), (12, .bool c)]) (fun (i, G, v2, c) w' => i ≤ ct ∧ c = (opI v.abs fr ep i).ch ∧ G.At v2 N C w' ∧ v2.d = v.d ∧ v2.kb = v.kb ∧ v2.abs = rdN v.abs i ∧ G.st = stO fr ct ep (opI v.abs fr ep i) ∧ Kq v.kb v.d C w w' ∧ New G w.heap.size ∧ G.p = b1) (fun (i, _) => ct - i) ((0, ⟨b1, none, 0, none, 0, stO fr ct ep (opI v.abs fr ep 0)⟩, v, true)) (At2 (by first | rfl | exact at_int rfl (by omega) | exact at_slice rfl (by omega) | exact at_int rfl (by simp)) (by first | rfl | exact at_int rfl (by omega) | exact at_slice rfl (by omega) | exact at_int rfl (by simp))) ?_ ?_
  · exact ⟨Nat.zero_le _, rfl, H0, rfl, rfl, by unfold rdN; simp, rfl, kq1, N0, rfl⟩
  · rintro ⟨i, G, v2, c⟩ g w2 ⟨hi, hc, H2, d2, k2, a2, s2, q2, n2, p2⟩
    obtain ⟨gp, sA, sc, tA, tc, st⟩ := G
    dsimp only at s2 p2
    subst s2 p2
    obtain ⟨o, hO⟩ : ∃ o, o = opI v.abs fr ep i := ⟨_, rfl⟩
    have oo := ooI i hi
    rw [← hO] at oo hc H2 n2
    have n1 := oo.n1
    have n2' := oo.n2
    have osl := oo.sl
    have oc2 := oo.c2
    refine J.seq ?_
    refine J.region ?_
    refine L.va rfl (X.lss rfl rfl) ?_
    refine L.nil ?_
    refine J.seq ?_
    refine J.dec rfl (fun hlt => ?_) (fun hlt => ?_)
    · have hi' : i < ct := by omega
      obtain ⟨zs, hzs⟩ : ∃ zs, zs = v.abs.now (fr + i) := ⟨_, rfl⟩
      have eS : opI v.abs fr ep (i + 1) = opStep ep i zs o := by rw [opI_succ, ← hO, ← hzs]
      have hzb : Bytes zs := by rw [hzs]; exact now_bytes hB (by omega)
      have hzl : zs.length = 1024 := by rw [hzs]; exact nowI_mem (p := fun y : List Int => y.length = 1024) (by omega) hok.hk (fun y hy => (hok.hp y hy).2) _ (Nat.le_refl _)
      have hpl := pBy_le hzb
      have ok2 : v2.abs.Ok (m + i) := by rw [a2]; exact rdN_ok hok i
      have K := H2.hd.read_anyF ok2 (by omega) ⟨0, ((fr + i : Nat) : Int), [], true, []⟩ rfl
      rw [a2, rd_do hoff i (fr + i) (by omega), ← hzs, show v2.ptr = v.ptr by unfold Dk.ptr; rw [d2]] at K
      dsimp only at K
      rw [show ((fr + i : Nat) : Int) = (fr : Int) + (i : Int) by omega] at K
      refine J.skip ?_
      refine J.seq ?_
      refine J.block ?_
      refine J.seq ?_
      refine J.region ?_
      refine L.va rfl (X.move (by conv => lhs; whnf)) ?_
      refine L.va rfl (X.assign (by conv => lhs; whnf)) ?_
      refine L.nil ?_
      refine J.seq ?_
      refine J.region ?_
      refine L.va rfl (X.move (by conv => lhs; whnf)) ?_
      refine L.va rfl (X.move (by conv => lhs; whnf)) ?_
      refine L.va rfl (X.move (by conv => lhs; whnf)) ?_
      refine L.va rfl (X.add rfl rfl (by omega)) ?_
      refine L.call rfl en_36 rfl (K) ?_
      rintro e w3 ⟨A3, n3, c3, rfl, ho3, v3, p1, p2, p3, p4, p5, p6⟩
      refine ⟨_, rfl, ?_⟩
      have H3 := H2.disk p1 p2 p5 p6
      have q3 : Kq v.kb v.d C w w3 := q2.trans (by rw [← k2, ← d2]; exact p5)
      have d3 : v3.d = v.d := p2.trans d2
      have k3 : v3.kb = v.kb := p3.trans k2
      obtain rfl : n3 = 1024 := by have := ho3.1; simpa [nums, hzl] using this.symm
      refine L.va rfl (X.move (by conv => lhs; whnf)) ?_
      refine L.va rfl (X.extract rfl rfl) ?_
      refine L.va rfl (X.extract rfl rfl) ?_
      refine L.va rfl (X.assign (by conv => lhs; whnf)) ?_
      refine L.va rfl (X.assign (by conv => lhs; whnf)) ?_
      refine L.nil ?_
      refine J.seq ?_
      refine J.seq ?_
      refine J.region ?_
      refine L.va rfl (X.move (by conv => lhs; whnf)) ?_
      refine L.va rfl (X.neq rfl rfl) ?_
      refine L.nil ?_
      refine J.iteF rfl ?_
      refine J.skip ?_
      refine J.seq ?_
      refine J.region ?_
      refine L.va rfl (X.move (by conv => lhs; whnf)) ?_
      refine L.va rfl (X.move (by conv => lhs; whnf)) ?_
      refine L.call rfl en_37 rfl (lread A3 c3 zs ep w3 H3.tab (Reads.of_own ho3) hzb (own_bd ho3).1 (by have := (own_bd ho3).2; unfold maxLen at this; omega)) ?_
      rintro e w4 ⟨A4, c4, rfl, hr4, he4⟩
      refine ⟨_, rfl, ?_⟩
      have he4 : Ext w3 w4 := he4
      have H4 := H3.ext he4
      have q4 := q3.ext_ he4
      cases hko : okP zs ep
      · have eP : pcV false zs A4 c4 = .agg #[.int .i64 0, .int .u64 0, .int .u64 0, .slice none 0 0] := rfl
        rw [eP]
        have oS : opStep ep i zs o = ⟨o.nx, false, o.tm, o.sm⟩ := by
          unfold opStep opNx
          rw [hko, Bool.and_false, Bool.false_and]
          rfl
        refine L.va rfl (X.move (by conv => lhs; whnf)) ?_
        refine L.va rfl (X.extract rfl rfl) ?_
        refine L.va rfl (X.extract rfl rfl) ?_
        refine L.alloc rfl zr_87 ?_
        intro b5 w5 hb5 hs5 hk5 he5
        refine L.storeAgg (vs := [_, _, _, _]) rfl rfl rfl rfl sz_87 (hk5) rfl ?_
        intro w6 hk6 hg6 hs6
        have he46 : Ext w4 w6 := he5.grw hg6 (by intro g hg; injection hg with hg; omega)
        have H6 := H4.ext he46
        have q6 := q4.ext_ he46
        refine L.va rfl (X.assign (by conv => lhs; whnf)) ?_
        refine L.nil ?_
        refine J.seq ?_
        refine J.seq ?_
        refine J.region ?_
        refine L.va rfl (X.move (by conv => lhs; whnf)) ?_
        refine L.nil ?_
        refine J.iteF rfl ?_
        refine J.skip ?_
        refine J.seq ?_
        refine J.region ?_
        refine L.va rfl (X.move (by conv => lhs; whnf)) ?_
        refine L.va rfl (X.move (by conv => lhs; whnf)) ?_
        cases c
        · refine L.caseBF (k := 81) rfl (by rfl) ?_
          refine L.no rfl ?_
          refine L.va rfl (X.pickF rfl (by conv => lhs; whnf)) ?_
          refine L.va rfl (X.move (by conv => lhs; whnf)) ?_
          refine L.no rfl ?_
          refine L.no rfl ?_
          refine L.no rfl ?_
          refine L.no rfl ?_
          refine L.va rfl (X.pickF rfl (by conv => lhs; whnf)) ?_
          refine L.va rfl (X.assign (by conv => lhs; whnf)) ?_
          refine L.nil ?_
          refine J.seq ?_
          refine J.region ?_
          refine L.va rfl (X.move (by conv => lhs; whnf)) ?_
          refine L.nil ?_
          refine J.iteF rfl ?_
          refine J.skip ?_
          refine J.region ?_
          refine L.va rfl (X.add rfl rfl (by omega)) ?_
          refine L.va rfl (X.move (by conv => lhs; whnf)) ?_
          refine L.nil ?_
          refine ⟨(i + 1, ⟨gp, sA, sc, tA, tc, stO fr ct ep o⟩, v3, false), At2 (by first | rfl | exact at_int rfl (by omega) | exact at_slice rfl (by omega) | exact at_int rfl (by simp)) (by first | rfl | exact at_int rfl (by omega) | exact at_slice rfl (by omega) | exact at_int rfl (by simp)), (by (iterate 39 refine Agr.lk rfl ?_); exact Agr.lk rfl (Agr.hav rfl Agr.rfl')), ?_⟩
          refine ⟨⟨by omega, by rw [eS, oS], H6, d3, k3, p4, by rw [eS, oS]; rfl, q6, n2, rfl⟩, by show ct - (i + 1) < ct - i; omega⟩
        · refine L.caseBT (k := 81) rfl (by rfl) ?_
          refine L.va rfl (X.move (by conv => lhs; whnf)) ?_
          refine L.va rfl (X.pickT rfl (by conv => lhs; whnf)) ?_
          refine L.va rfl (X.move (by conv => lhs; whnf)) ?_
          refine L.caseBF (k := 84) rfl (by rfl) ?_
          refine L.no rfl ?_
          refine L.no rfl ?_
          refine L.no rfl ?_
          refine L.no rfl ?_
          refine L.va rfl (X.pickF rfl (by conv => lhs; whnf)) ?_
          refine L.va rfl (X.assign (by conv => lhs; whnf)) ?_
          refine L.nil ?_
          refine J.seq ?_
          refine J.region ?_
          refine L.va rfl (X.move (by conv => lhs; whnf)) ?_
          refine L.nil ?_
          refine J.iteF rfl ?_
          refine J.skip ?_
          refine J.region ?_
          refine L.va rfl (X.add rfl rfl (by omega)) ?_
          refine L.va rfl (X.move (by conv => lhs; whnf)) ?_
          refine L.nil ?_
          refine ⟨(i + 1, ⟨gp, sA, sc, tA, tc, stO fr ct ep o⟩, v3, false), At2 (by first | rfl | exact at_int rfl (by omega) | exact at_slice rfl (by omega) | exact at_int rfl (by simp)) (by first | rfl | exact at_int rfl (by omega) | exact at_slice rfl (by omega) | exact at_int rfl (by simp)), (by (iterate 40 refine Agr.lk rfl ?_); exact Agr.lk rfl (Agr.hav rfl Agr.rfl')), ?_⟩
          refine ⟨⟨by omega, by rw [eS, oS], H6, d3, k3, p4, by rw [eS, oS]; rfl, q6, n2, rfl⟩, by show ct - (i + 1) < ct - i; omega⟩
      · obtain ⟨hr4', hf4⟩ := hr4 hko
        have eP : pcV true zs A4 c4 = .agg #[.int .i64 (pAt zs), .int .u64 (pPrev zs), .int .u64 (sB smZ zs), .slice A4 (pBy zs).length c4] := rfl
        rw [eP]
        have hq := okP_iff.1 hko
        have hpp := pBy_pos hko
        obtain ⟨nx1, hnx⟩ : ∃ x, x = max o.nx (sB smZ zs + 1) := ⟨_, rfl⟩
        have eN : opNx ep zs o = nx1 := by unfold opNx; rw [if_pos hko, hnx]
        have gp3 : gp < w3.heap.size := H3.hb.lt
        refine L.va rfl (X.move (by conv => lhs; whnf)) ?_
        refine L.va rfl (X.extract rfl rfl) ?_
        refine L.va rfl (X.extract rfl rfl) ?_
        refine L.alloc rfl zr_87 ?_
        intro b5 w5 hb5 hs5 hk5 he5
        refine L.storeAgg (vs := [_, _, _, _]) rfl rfl rfl rfl sz_87 (hk5) rfl ?_
        intro w6 hk6 hg6 hs6
        have he46 : Ext w4 w6 := he5.grw hg6 (by intro g hg; injection hg with hg; omega)
        have H6 := H4.ext he46
        have q6 := q4.ext_ he46
        have hk6 : Blk w6 b5 87 #[.int .i64 (pAt zs), .int .u64 (pPrev zs), .int .u64 (sB smZ zs), .slice A4 (pBy zs).length c4] := hk6
        have hb6 : Blk w6 gp 83 #[.bool true, v3.ptr, .int .i64 (fr : Int), .int .i64 (ct : Int), .int .u64 ep, .int .u64 o.nx, .slice sA o.sm.length sc, .slice tA o.tm.length tc, .int .i64 0] := H6.hb
        have z34 := he4.le
        have hne : b5 ≠ gp := by omega
        refine L.va rfl (X.assign (by conv => lhs; whnf)) ?_
        refine L.nil ?_
        refine J.seq ?_
        refine J.seq ?_
        refine J.region ?_
        refine L.va rfl (X.move (by conv => lhs; whnf)) ?_
        refine L.nil ?_
        refine J.iteT rfl ?_
        refine J.draw (ℓ := 11) (S := Ext w6) mixed (fun w7 hS hS_h => ?_)
        refine D.va 0 rfl (by kernel_rfl) (fun _ _ _ h => h) rfl (fun w' hw => X.move (by conv => lhs; whnf)) hS ?_
        refine D.va 1 rfl (by kernel_rfl) (fun _ _ _ h => h) rfl (fun w' hw => X.move (by conv => lhs; whnf)) hS ?_
        refine D.va 2 rfl (by kernel_rfl) (fun _ _ _ h => h) rfl (fun w' hw => X.nilCheck rfl) hS ?_
        refine D.va 3 rfl (by kernel_rfl) (fun _ _ _ h => h) rfl (fun w' hw => X.fieldAddr rfl Tryd.underlying83 rfl sz_35 (by decide)) hS ?_
        refine D.va 4 rfl (by kernel_rfl) (fun _ _ _ h => h) rfl (fun w' hw => X.load rfl sc_35 (by first | exact Ld.blk (hb6.ext hw) rfl | exact Ld.blk (hk6.ext hw) rfl)) hS ?_
        refine D.va 5 rfl (by kernel_rfl) (fun _ _ _ h => h) rfl (fun w' hw => X.fieldAddr rfl Tryd.underlying87 rfl sz_35 (by decide)) hS ?_
        refine D.va 6 rfl (by kernel_rfl) (fun _ _ _ h => h) rfl (fun w' hw => X.load rfl sc_35 (by first | exact Ld.blk (hb6.ext hw) rfl | exact Ld.blk (hk6.ext hw) rfl)) hS ?_
        refine D.va 7 rfl (by kernel_rfl) (fun _ _ _ h => h) rfl (fun w' hw => X.addU rfl rfl (by omega)) hS ?_
        refine D.va 8 rfl (by kernel_rfl) (fun _ _ _ h => h) rfl (fun w' hw => X.max2 rfl rfl) hS ?_
        refine D.va 9 rfl (by kernel_rfl) (fun _ _ _ h => h) rfl (fun w' hw => X.nilCheck rfl) hS ?_
        refine D.va 10 rfl (by kernel_rfl) (fun _ _ _ h => h) rfl (fun w' hw => X.fieldAddr rfl Tryd.underlying83 rfl sz_35 (by decide)) hS ?_
        refine D.one 11 (by kernel_rfl) rfl ?_
        refine L.store rfl rfl (by conv => lhs; whnf) rfl sz_35 (hb6.ext hS) (by first | decide | exact Nat.le_of_ble_eq_true rfl) ?_
        intro w8 hb8 hg8 hs8
        refine L.nil ?_
        refine ⟨fun h => absurd rfl h, ?_⟩
        refine D.done (by kernel_rfl) ?_
        replace hb6 := hb6.ext hS
        replace hk6 := hk6.ext hS
        rw [← hnx] at hb8
        obtain ⟨H8, c8, g8⟩ := (H6.ext hS).put' (l := ⟨fr, ct, ep, nx1, o.sm, o.tm, 0⟩) (sA := sA) (sc := sc) (tA := tA) (tc := tc) hg8 hb8 (H6.ext hS).hs rfl (H6.ext hS).ht rfl
        have q8 : Kq v.kb v.d C w w8 := (q6.ext_ hS).of_chg c8 k3 d3 n2
        have n8 : New ⟨gp, sA, sc, tA, tc, ⟨fr, ct, ep, nx1, o.sm, o.tm, 0⟩⟩ w.heap.size := n2.gr g8 (q6.ext_ hS).size
        have hb8' : Blk w8 gp 83 #[.bool true, v3.ptr, .int .i64 (fr : Int), .int .i64 (ct : Int), .int .u64 ep, .int .u64 nx1, .slice sA o.sm.length sc, .slice tA o.tm.length tc, .int .i64 0] := H8.hb
        have hk8 := hk6.grown hg8 (fun e => hne (by injection e))
        have hr8 := ((hr4'.ext he46).ext hS).fresh hf4 hg8 (fun b hb => by injection hb with hb; omega)
        have z38 : w3.heap.size ≤ w8.heap.size := Nat.le_trans z34 (Nat.le_trans he46.le (Nat.le_trans hS.le hg8.size))
        refine J.seq ?_
        refine J.region ?_
        refine L.va rfl (X.move (by conv => lhs; whnf)) ?_
        refine L.va rfl (X.move (by conv => lhs; whnf)) ?_
        cases c
        · have oS : opStep ep i zs o = ⟨nx1, false, o.tm, o.sm⟩ := by
            unfold opStep
            rw [← hc, eN, Bool.false_and, Bool.false_and]
            rfl
          refine L.caseBF (k := 81) rfl (by rfl) ?_
          refine L.no rfl ?_
          refine L.va rfl (X.pickF rfl (by conv => lhs; whnf)) ?_
          refine L.va rfl (X.move (by conv => lhs; whnf)) ?_
          refine L.no rfl ?_
          refine L.no rfl ?_
          refine L.no rfl ?_
          refine L.no rfl ?_
          refine L.va rfl (X.pickF rfl (by conv => lhs; whnf)) ?_
          refine L.va rfl (X.assign (by conv => lhs; whnf)) ?_
          refine L.nil ?_
          refine J.seq ?_
          refine J.region ?_
          refine L.va rfl (X.move (by conv => lhs; whnf)) ?_
          refine L.nil ?_
          refine J.iteF rfl ?_
          refine J.skip ?_
          refine J.region ?_
          refine L.va rfl (X.add rfl rfl (by omega)) ?_
          refine L.va rfl (X.move (by conv => lhs; whnf)) ?_
          refine L.nil ?_
          refine ⟨(i + 1, ⟨gp, sA, sc, tA, tc, ⟨fr, ct, ep, nx1, o.sm, o.tm, 0⟩⟩, v3, false), At2 (by first | rfl | exact at_int rfl (by omega) | exact at_slice rfl (by omega) | exact at_int rfl (by simp)) (by first | rfl | exact at_int rfl (by omega) | exact at_slice rfl (by omega) | exact at_int rfl (by simp)), (by (iterate 50 refine Agr.lk rfl ?_); exact Agr.lk rfl (Agr.hav rfl Agr.rfl')), ?_⟩
          refine ⟨⟨by omega, by rw [eS, oS], H8, d3, k3, p4, by rw [eS, oS]; rfl, q8, n8, rfl⟩, by show ct - (i + 1) < ct - i; omega⟩
        · have K2 := lfollows H8 i (by omega) zs A4 c4 o.nx o.ch (fun _ => oo.c1 hc.symm)
          rw [show fol ⟨o.nx, o.ch, o.tm, o.sm⟩ i zs = fol o i zs from rfl] at K2
          refine L.caseBT (k := 81) rfl (by rfl) ?_
          refine L.va rfl (X.move (by conv => lhs; whnf)) ?_
          refine L.va rfl (X.pickT rfl (by conv => lhs; whnf)) ?_
          refine L.va rfl (X.move (by conv => lhs; whnf)) ?_
          refine L.caseBT (k := 84) rfl (by rfl) ?_
          refine L.va rfl (X.move (by conv => lhs; whnf)) ?_
          refine L.va rfl (X.move (by conv => lhs; whnf)) ?_
          refine L.va rfl ((by first | exact X.loadAgg rfl (range_l hb8') Tryd.underlying87 rfl (by kernel_rfl) | exact X.loadAgg rfl (range_blk hb8') Tryd.underlying87 rfl (by kernel_rfl) | exact X.loadAgg rfl (range_l hk8) Tryd.underlying87 rfl (by kernel_rfl) | exact X.loadAgg rfl (range_blk hk8) Tryd.underlying87 rfl (by kernel_rfl))) ?_
          refine L.call rfl en_38 rfl (K2) ?_
          rintro e w9 ⟨rfl, he9⟩
          refine ⟨_, rfl, ?_⟩
          have he9 : Ext w8 w9 := he9
          have H9 := H8.ext he9
          have q9 := q8.ext_ he9
          have hb9 := hb8'.ext he9
          have hk9 := hk8.ext he9
          have hr9 := hr8.ext he9
          refine L.va rfl (X.pickT rfl (by conv => lhs; whnf)) ?_
          refine L.va rfl (X.assign (by conv => lhs; whnf)) ?_
          refine L.nil ?_
          refine J.seq ?_
          refine J.region ?_
          refine L.va rfl (X.move (by conv => lhs; whnf)) ?_
          refine L.nil ?_
          cases hfo : fol o i zs
          · have oS : opStep ep i zs o = ⟨nx1, false, o.tm, o.sm⟩ := by
              unfold opStep
              rw [← hc, eN, hfo, Bool.and_false]
              rfl
            refine J.iteF rfl ?_
            refine J.skip ?_
            refine J.region ?_
            refine L.va rfl (X.add rfl rfl (by omega)) ?_
            refine L.va rfl (X.move (by conv => lhs; whnf)) ?_
            refine L.nil ?_
            refine ⟨(i + 1, ⟨gp, sA, sc, tA, tc, ⟨fr, ct, ep, nx1, o.sm, o.tm, 0⟩⟩, v3, false), At2 (by first | rfl | exact at_int rfl (by omega) | exact at_slice rfl (by omega) | exact at_int rfl (by simp)) (by first | rfl | exact at_int rfl (by omega) | exact at_slice rfl (by omega) | exact at_int rfl (by simp)), (by (iterate 51 refine Agr.lk rfl ?_); exact Agr.lk rfl (Agr.hav rfl Agr.rfl')), ?_⟩
            refine ⟨⟨by omega, by rw [eS, oS], H9, d3, k3, p4, by rw [eS, oS]; rfl, q9, n8, rfl⟩, by show ct - (i + 1) < ct - i; omega⟩
          · have oS : opStep ep i zs o = ⟨nx1, true, o.tm ++ [sB smZ zs], o.sm ++ pBy zs⟩ := by
              unfold opStep
              rw [← hc, eN, hfo, hko, Bool.and_true]
              rfl
            refine J.iteT rfl ?_
            refine J.seq ?_
            refine J.draw (ℓ := 11) (S := (fun w' => Blk w' gp 83 #[.bool true, v3.ptr, .int .i64 (fr : Int), .int .i64 (ct : Int), .int .u64 ep, .int .u64 nx1, .slice sA o.sm.length sc, .slice tA o.tm.length tc, .int .i64 0] ∧ Blk w' b5 87 #[.int .i64 (pAt zs), .int .u64 (pPrev zs), .int .u64 (sB smZ zs), .slice A4 (pBy zs).length c4])) mixed (fun w10 hSE hS_h => ?_)
            have hS : ((fun w' => Blk w' gp 83 #[.bool true, v3.ptr, .int .i64 (fr : Int), .int .i64 (ct : Int), .int .u64 ep, .int .u64 nx1, .slice sA o.sm.length sc, .slice tA o.tm.length tc, .int .i64 0] ∧ Blk w' b5 87 #[.int .i64 (pAt zs), .int .u64 (pPrev zs), .int .u64 (sB smZ zs), .slice A4 (pBy zs).length c4])) w10 := And.intro (hb9.ext hSE) (hk9.ext hSE)
            refine D.va 0 rfl (by kernel_rfl) (fun _ _ _ h => h) rfl (fun w' hw => X.move (by conv => lhs; whnf)) hS ?_
            refine D.va 1 rfl (by kernel_rfl) (fun _ _ _ h => h) rfl (fun w' hw => X.move (by conv => lhs; whnf)) hS ?_
            refine D.va 2 rfl (by kernel_rfl) (fun _ _ _ h => h) rfl (fun w' hw => X.nilCheck rfl) hS ?_
            refine D.va 3 rfl (by kernel_rfl) (fun _ _ _ h => h) rfl (fun w' hw => X.fieldAddr rfl Tryd.underlying83 rfl sz_40 (by decide)) hS ?_
            refine D.va 4 rfl (by kernel_rfl) (fun _ _ _ h => h) rfl (fun w' hw => X.load rfl sc_40 (by first | exact Ld.blk hw.1 rfl | exact Ld.blk hw.2 rfl)) hS ?_
            refine D.va 5 rfl (by kernel_rfl) (fun _ _ _ h => h) rfl (fun w' hw => X.fieldAddr rfl Tryd.underlying87 rfl sz_35 (by decide)) hS ?_
            refine D.va 6 rfl (by kernel_rfl) (fun _ _ _ h => h) rfl (fun w' hw => X.load rfl sc_35 (by first | exact Ld.blk hw.1 rfl | exact Ld.blk hw.2 rfl)) hS ?_
            refine D.one 7 (by kernel_rfl) rfl ?_
            refine L.bslice (vs := [_]) rfl (Evs.cons (by conv => lhs; whnf) Evs.nil) rfl rfl rfl rfl Tryd.underlying40 sz_35 zr_35 (by decide) ?_
            intro b11 w11 hb11 hs11 hk11 he11
            have hS1 := And.intro (hS.1.ext he11) (hS.2.ext he11)
            refine L.nil ?_
            refine ⟨fun _ => hS1, ?_⟩
            have H11 := (H9.ext hSE).ext he11
            have z11 := H11.hd.nsz
            have hx11 := H11.ht
            have ne1 : some gp ≠ Value.ownBlock (.slice tA o.tm.length tc) := fun e => own_blk_ne hx11 H11.hb (by decide) e.symm
            have ne2 : some b5 ≠ Value.ownBlock (.slice tA o.tm.length tc) := fun e => own_blk_ne hx11 hS1.2 (by decide) e.symm
            have hx11' : w11.ownsRow N 35 1 (.slice tA o.tm.length tc) o.tm.length (nums .u64 o.tm) := hx11
            refine D.one 8 (by kernel_rfl) rfl ?_
            refine L.appendQ (q := o.tm.length + 1) (ys := o.tm ++ [sB smZ zs]) rfl rfl rfl Tryd.underlying40 el_35 (hx11') ((blk_reads (q := 1) (l := nums .u64 [sB smZ zs]) hk11 hk11.lt rfl)) (by omega) (by simp) (by unfold maxLen; omega) (by omega) ?_
            intro A12 c12 w12 ho12 hg12 hb12 hor12
            have hS2 := And.intro (hS1.1.grown hg12 ne1) (hS1.2.grown hg12 ne2)
            refine L.nil ?_
            refine ⟨fun _ => hS2, ?_⟩
            refine D.va 9 rfl (by kernel_rfl) (fun _ _ _ h => h) rfl (fun w' hw => X.nilCheck rfl) hS2 ?_
            refine D.va 10 rfl (by kernel_rfl) (fun _ _ _ h => h) rfl (fun w' hw => X.fieldAddr rfl Tryd.underlying83 rfl sz_40 (by decide)) hS2 ?_
            refine D.one 11 (by kernel_rfl) rfl ?_
            refine L.store rfl rfl (by conv => lhs; whnf) rfl sz_40 (hS2.1) (by first | decide | exact Nat.le_of_ble_eq_true rfl) ?_
            intro w13 hk13 hg13 hs13
            refine L.nil ?_
            refine ⟨fun h => absurd rfl h, ?_⟩
            refine D.done (by kernel_rfl) ?_
            have tl : (o.tm ++ [sB smZ zs]).length = o.tm.length + 1 := by simp
            obtain ⟨H13, c13, g13⟩ := H11.tput (l := ⟨fr, ct, ep, nx1, o.sm, o.tm ++ [sB smZ zs], 0⟩) (tA := A12) (tc := c12) hg12 (by show w12.ownsRow N 35 1 (.slice A12 (o.tm ++ [sB smZ zs]).length c12) (o.tm ++ [sB smZ zs]).length _; rw [tl]; exact ho12) (fun b hb => by
              rw [show Value.ownBlock (.slice A12 (o.tm ++ [sB smZ zs]).length c12) = Value.ownBlock (.slice A12 (o.tm.length + 1) c12) from ob_len _ _ _ _ _] at hb
              rcases hor12 with e | e
              · exact .inl (by rw [← hb, e]; rfl)
              · rw [e] at hb
                injection hb with hb
                exact .inr (by omega)) hg13 (by unfold Lg.cs Lg.ts; dsimp only; rw [tl]; exact hk13) rfl
            have q13 : Kq v.kb v.d C w w13 := ((q9.ext_ hSE).ext_ he11).of_chg c13 k3 d3 n8
            have n13 : New ⟨gp, sA, sc, A12, c12, ⟨fr, ct, ep, nx1, o.sm, o.tm ++ [sB smZ zs], 0⟩⟩ w.heap.size := n8.gr g13 ((q9.ext_ hSE).ext_ he11).size
            have hb13 : Blk w13 gp 83 #[.bool true, v3.ptr, .int .i64 (fr : Int), .int .i64 (ct : Int), .int .u64 ep, .int .u64 nx1, .slice sA o.sm.length sc, .slice A12 (o.tm ++ [sB smZ zs]).length c12, .int .i64 0] := H13.hb
            have hk13' := hS2.2.grown hg13 (fun e => hne (by injection e))
            have hr13 := ((((hr9.ext hSE).ext he11).fresh hf4 hg12 (fun b hb => by
              obtain ⟨cs, hcs⟩ := (own_isT H3.ht hb).1
              have hcs : Blk w3 b 35 cs := hcs
              exact hcs.lt)).fresh hf4 hg13 (fun b hb => by injection hb with hb; omega)).more (Nat.le_refl _)
            have z413 : w4.heap.size ≤ w13.heap.size := by
              have a1 := he46.le
              have a2 := hg8.size
              have a3 := he9.le
              have a4 := hSE.le
              have a5 := he11.le
              have a6 := hg12.size
              have a7 := hg13.size
              have a8 : w6.heap.size ≤ w7.heap.size := Ext.le ‹Ext w6 w7›
              omega
            have hr13 := hr13.more (B' := w13.heap.size) (by
              have a1 := he46.le
              have a8 : w6.heap.size ≤ w7.heap.size := Ext.le ‹Ext w6 w7›
              omega)
            refine J.draw (ℓ := 10) (S := (fun w' => Blk w' gp 83 #[.bool true, v3.ptr, .int .i64 (fr : Int), .int .i64 (ct : Int), .int .u64 ep, .int .u64 nx1, .slice sA o.sm.length sc, .slice A12 (o.tm ++ [sB smZ zs]).length c12, .int .i64 0] ∧ Blk w' b5 87 #[.int .i64 (pAt zs), .int .u64 (pPrev zs), .int .u64 (sB smZ zs), .slice A4 (pBy zs).length c4])) mixed (fun w14 hSE hS_h => ?_)
            have hS : ((fun w' => Blk w' gp 83 #[.bool true, v3.ptr, .int .i64 (fr : Int), .int .i64 (ct : Int), .int .u64 ep, .int .u64 nx1, .slice sA o.sm.length sc, .slice A12 (o.tm ++ [sB smZ zs]).length c12, .int .i64 0] ∧ Blk w' b5 87 #[.int .i64 (pAt zs), .int .u64 (pPrev zs), .int .u64 (sB smZ zs), .slice A4 (pBy zs).length c4])) w14 := And.intro (hb13.ext hSE) (hk13'.ext hSE)
            have H14 := H13.ext hSE
            have z14 := H14.hd.nsz
            have hr14 := hr13.ext hSE
            have n4 : some gp ≠ Value.ownBlock (.slice sA o.sm.length sc) := fun e => absurd ((H14.hs.own e.symm).1.fun_ H14.hb.isT) (by decide)
            have n5 : some b5 ≠ Value.ownBlock (.slice sA o.sm.length sc) := fun e => absurd ((H14.hs.own e.symm).1.fun_ hS.2.isT) (by decide)
            refine D.va 0 rfl (by kernel_rfl) (fun _ _ _ h => h) rfl (fun w' hw => X.move (by conv => lhs; whnf)) hS ?_
            refine D.va 1 rfl (by kernel_rfl) (fun _ _ _ h => h) rfl (fun w' hw => X.move (by conv => lhs; whnf)) hS ?_
            refine D.va 2 rfl (by kernel_rfl) (fun _ _ _ h => h) rfl (fun w' hw => X.nilCheck rfl) hS ?_
            refine D.va 3 rfl (by kernel_rfl) (fun _ _ _ h => h) rfl (fun w' hw => X.fieldAddr rfl Tryd.underlying83 rfl sz_39 (by decide)) hS ?_
            refine D.va 4 rfl (by kernel_rfl) (fun _ _ _ h => h) rfl (fun w' hw => X.load rfl sc_39 (by first | exact Ld.blk hw.1 rfl | exact Ld.blk hw.2 rfl)) hS ?_
            refine D.va 5 rfl (by kernel_rfl) (fun _ _ _ h => h) rfl (fun w' hw => X.fieldAddr rfl Tryd.underlying87 rfl sz_39 (by decide)) hS ?_
            refine D.va 6 rfl (by kernel_rfl) (fun _ _ _ h => h) rfl (fun w' hw => X.load rfl sc_39 (by first | exact Ld.blk hw.1 rfl | exact Ld.blk hw.2 rfl)) hS ?_
            refine D.one 7 (by kernel_rfl) rfl ?_
            refine L.appendSm rfl rfl rfl Tryd.underlying39 el_5 H14.hs hr14 hpp (by show o.sm.length + (pBy zs).length ≤ maxLen ∧ (o.sm.length + (pBy zs).length) * 1 ≤ _; unfold maxLen; omega) z14 ?_
            intro A15 c15 w15 ho15 hg15 hor15
            have hS1 := And.intro (hS.1.grown hg15 n4) (hS.2.grown hg15 n5)
            refine L.nil ?_
            refine ⟨fun _ => hS1, ?_⟩
            refine D.va 8 rfl (by kernel_rfl) (fun _ _ _ h => h) rfl (fun w' hw => X.nilCheck rfl) hS1 ?_
            refine D.va 9 rfl (by kernel_rfl) (fun _ _ _ h => h) rfl (fun w' hw => X.fieldAddr rfl Tryd.underlying83 rfl sz_39 (by decide)) hS1 ?_
            refine D.one 10 (by kernel_rfl) rfl ?_
            refine L.store rfl rfl (by conv => lhs; whnf) rfl sz_39 (hS1.1) (by first | decide | exact Nat.le_of_ble_eq_true rfl) ?_
            intro w16 hk16 hg16 hs16
            refine L.nil ?_
            refine ⟨fun h => absurd rfl h, ?_⟩
            refine D.done (by kernel_rfl) ?_
            refine J.region ?_
            refine L.va rfl (X.add rfl rfl (by omega)) ?_
            refine L.va rfl (X.move (by conv => lhs; whnf)) ?_
            refine L.nil ?_
            have sl : (o.sm ++ pBy zs).length = o.sm.length + (pBy zs).length := by simp
            obtain ⟨H16, c16, g16⟩ := H14.sput (l := ⟨fr, ct, ep, nx1, o.sm ++ pBy zs, o.tm ++ [sB smZ zs], 0⟩) (sA := A15) (sc := c15) hg15 (by show w15.ownsRow N 5 1 (.slice A15 (o.sm ++ pBy zs).length c15) (o.sm ++ pBy zs).length _; rw [sl]; exact ho15) (fun b hb => by rw [show Value.ownBlock (.slice A15 (o.sm ++ pBy zs).length c15) = Value.ownBlock (.slice A15 (o.sm.length + (pBy zs).length) c15) from ob_len _ _ _ _ _] at hb; exact hor15 b hb) hg16 (by unfold Lg.cs Lg.ss; dsimp only; rw [sl]; exact hk16) rfl
            have q16 : Kq v.kb v.d C w w16 := (q13.ext_ hSE).of_chg c16 k3 d3 n13
            refine ⟨(i + 1, ⟨gp, A15, c15, A12, c12, ⟨fr, ct, ep, nx1, o.sm ++ pBy zs, o.tm ++ [sB smZ zs], 0⟩⟩, v3, true), At2 (by first | rfl | exact at_int rfl (by omega) | exact at_slice rfl (by omega) | exact at_int rfl (by simp)) (by first | rfl | exact at_int rfl (by omega) | exact at_slice rfl (by omega) | exact at_int rfl (by simp)), (by (iterate 72 refine Agr.lk rfl ?_); exact Agr.lk rfl (Agr.hav rfl Agr.rfl')), ?_⟩
            refine ⟨⟨by omega, by rw [eS, oS], H16, d3, k3, p4, by rw [eS, oS]; rfl, q16, n13.gr g16 (q13.ext_ hSE).size, rfl⟩, by show ct - (i + 1) < ct - i; omega⟩
    · obtain rfl : i = ct := by omega
      have hul := used_le oo.sb
      have osg := oo.sg
      have K := fall sA o.sm.length sc o.sm w2 H2.tab H2.hs.reads oo.sb H2.hs.bd.1 (by have := H2.hs.bd.2; unfold maxLen at this; omega) (by omega)
      have hb2 : Blk w2 gp 83 #[.bool true, v2.ptr, .int .i64 (fr : Int), .int .i64 (i : Int), .int .u64 ep, .int .u64 o.nx, .slice sA o.sm.length sc, .slice tA o.tm.length tc, .int .i64 0] := H2.hb
      refine J.exit ?_
      refine J.seq ?_
      refine J.region ?_
      refine L.va rfl (X.move (by conv => lhs; whnf)) ?_
      refine L.va rfl (X.nilCheck rfl) ?_
      refine L.va rfl (X.fieldAddr rfl Tryd.underlying83 rfl sz_39 (by decide)) ?_
      refine L.va rfl (X.load rfl sc_39 (by first | exact Ld.blk hb2 rfl)) ?_
      refine L.call rfl en_39 rfl (K) ?_
      rintro e w3 ⟨Ao, co, bs, p, er, rfl, eA, hro, hel, he3⟩
      refine ⟨_, rfl, ?_⟩
      have he3 : Ext w2 w3 := he3
      have eU : used o.sm = p := by unfold used; rw [eA]
      have eR : recs o.sm = bs.map Bo.l := by unfold recs; rw [eA]
      rw [eU] at hul
      have H3 := H2.ext he3
      have K2 := lcut H3 p hul (by show (p + 990) / 991 ≤ o.tm.length; omega) (by omega)
      refine L.va rfl (X.move (by conv => lhs; whnf)) ?_
      refine L.va rfl (X.extract rfl rfl) ?_
      refine L.va rfl (X.extract rfl rfl) ?_
      refine L.va rfl (X.extract rfl rfl) ?_
      refine L.va rfl (X.assign (by conv => lhs; whnf)) ?_
      refine L.va rfl (X.assign (by conv => lhs; whnf)) ?_
      refine L.va rfl (X.assign (by conv => lhs; whnf)) ?_
      refine L.nil ?_
      refine J.seq ?_
      refine J.region ?_
      refine L.va rfl (X.move (by conv => lhs; whnf)) ?_
      refine L.va rfl (X.move (by conv => lhs; whnf)) ?_
      refine L.call rfl en_40 rfl (K2) ?_
      rintro e w4 ⟨rfl, G4, H4, e4, c4, g4⟩
      refine ⟨_, rfl, ?_⟩
      refine L.nil ?_
      refine J.seq ?_
      refine J.region ?_
      refine L.va rfl (X.move (by conv => lhs; whnf)) ?_
      refine L.va rfl (X.move (by conv => lhs; whnf)) ?_
      refine L.va rfl (X.assign (by conv => lhs; whnf)) ?_
      refine L.va rfl (X.assign (by conv => lhs; whnf)) ?_
      refine L.va rfl (X.assign (by conv => lhs; whnf)) ?_
      refine L.nil ?_
      refine J.ret ?_
      refine fin3 ?_
      have hnl : ∀ {g t : Nat}, IsT w3 g t → w2.heap.size ≤ g → t ≠ 107 → ¬ Lg.LS ⟨gp, sA, sc, tA, tc, stO fr i ep o⟩ v2 C w3 g := fun ht hge hne => not_LS H2 hge ht hne
      have z2 := q2.size
      refine ⟨G4, v2, Ao, co, bs, ?_, H4, d2, k2, a2, ?_, ?_, (c4.own hro fun g hg => hnl (own_isT hro hg).1 (own_isT hro hg).2 (by decide)).mono z2, fun b hb => (c4.own (hel b hb) fun g hg => hnl (own_isT (hel b hb) hg).1 (own_isT (hel b hb) hg).2 (by decide)).mono z2, (q2.ext_ he3).of_chg c4 k2 d2 n2, n2.gr g4 (Nat.le_trans z2 he3.le), ?_, ?_⟩
      · have : G4.p = gp := g4.p
        show Ending.returned (.tuple #[.pointer (some ⟨gp, 0, none⟩), _, _]) = Ending.returned (.tuple #[.pointer (some ⟨G4.p, 0, none⟩), _, _])
        rw [this]
        rfl
      · rw [e4]
        unfold openL
        rw [← hO, eU]
        rfl
      · rw [← hO, eR]
      · have e5 : G4.st = openL v.abs fr i ep := by
          rw [e4]
          unfold openL
          rw [← hO, eU]
          rfl
        have e6 : v2.kp.length = v.abs.kept.length := by
          have := v2.klen
          rw [a2] at this
          exact this.symm
        rw [e5, e6]
        exact openL_ok hB (by omega) hc1 hep
      · intro b hb g hg hs
        have h1 := own_isT (hel b hb) hg
        obtain ⟨cs1, hb1⟩ := h1.1
        have hb1 : Blk w3 g 5 cs1 := hb1
        have l1 := hb1.lt
        rcases g4.s g hs with h2 | h2
        · obtain ⟨cs2, hb2⟩ := (H2.hs.own h2).1
          have hb2 : Blk w2 g 5 cs2 := hb2
          have l2 := hb2.lt
          have l3 := h1.2
          omega
        · omega
end
end Go.Proofs.YtjdimgigbgafbaaDoor
namespace Go.Proofs.YtjdimgigbgafbaaDoor
set_option maxRecDepth 100000
open Byts Seal Fram
set_option linter.unusedVariables false
namespace Lo
theorem do_wr {s : Ds} (hoff : s.off = false) (hl : s.left = -1) (a : Nat) (ha : a < s.kept.length) (b : List Int) (hb : b.length = 1024) : s.do_ ⟨1, (a : Int), b, true, []⟩ = (⟨s.kept, s.pend ++ [(a, b)], false, -1, s.rd, s.wr + 1, s.fl⟩, [], 0) := by
  have h : s.do_ ⟨1, (a : Int), b, true, []⟩ = ({ s with left := Dk.dec1 s.left, wr := s.wr + 1, pend := s.pend ++ [(a, b)] }, [], 0) := by
    unfold Ds.do_
    rw [if_neg (show ¬ (1 : Int) = 3 by decide), if_neg (show ¬ (1 : Int) = 4 by decide), if_neg (show ¬ s.off = true by rw [hoff]; decide), if_neg, if_neg (show ¬ (1 : Int) = 0 by decide), if_neg, if_neg (show ¬ s.left = 0 by omega), if_pos (show (1 : Int) = 1 from rfl)]
    · rfl
    · rintro ⟨_, h⟩
      exact h hb
    · rintro ⟨_, h | h⟩
      · have h : (a : Int) < 0 := h
        omega
      · have h : (s.kept.length : Int) ≤ (a : Int) := h
        omega
  rw [h, hl, ← hoff]
  rfl
theorem do_fl {s : Ds} (hoff : s.off = false) (hl : s.left = -1) : s.do_ ⟨2, 0, [], true, []⟩ = (⟨keI (fun _ => true) s.kept [] s.pend s.pend.length, [], false, -1, s.rd, s.wr, s.fl + 1⟩, [], 0) := by
  have h : s.do_ ⟨2, 0, [], true, []⟩ = ({ s with left := Dk.dec1 s.left, fl := s.fl + 1, kept := keI (fun _ => true) s.kept [] s.pend s.pend.length, pend := [] }, [], 0) := by
    unfold Ds.do_
    rw [if_neg (show ¬ (2 : Int) = 3 by decide), if_neg (show ¬ (2 : Int) = 4 by decide), if_neg (show ¬ s.off = true by rw [hoff]; decide), if_neg, if_neg (show ¬ (2 : Int) = 0 by decide), if_neg, if_neg (show ¬ s.left = 0 by omega), if_neg (show ¬ (2 : Int) = 1 by decide)]
    · rintro ⟨h, _⟩
      exact absurd (show (2 : Int) = 1 from h) (by decide)
    · rintro ⟨h, _⟩
      exact h rfl
  rw [h, hl, ← hoff]
  rfl
theorem do_cr (s : Ds) (k : List Bool) : s.do_ ⟨4, 0, [], true, k⟩ = (⟨keI (Dk.kpF k) s.kept [] s.pend s.pend.length, [], false, -1, s.rd, s.wr, s.fl⟩, [], 0) := by
  unfold Ds.do_
  rw [if_neg (show ¬ (4 : Int) = 3 by decide), if_pos (show (4 : Int) = 4 from rfl)]
def zZ2 : List Int := List.replicate 1024 0
theorem zZ2_len : zZ2.length = 1024 := List.length_replicate
theorem zZ2_no (ep : Int) : okP zZ2 ep = false := by
  refine decide_eq_false fun h => ?_
  have h1 := h.1
  have hl : ¬ zZ2.length ≠ 1024 := fun h => h zZ2_len
  have h0 : zZ2.getD 0 0 = 0 := by simp [zZ2, List.getD]
  unfold sE at h1
  rw [if_neg hl] at h1
  split at h1
  · cases h1
  · rw [if_pos (.inl h0)] at h1
    cases h1
theorem zZ2_bytes : Bytes zZ2 := by
  intro z hz
  rw [zZ2, List.mem_replicate] at hz
  omega
theorem okP_sec {ep nx : Int} {i : Nat} {p : Int} {ch : List Int} (hep : 0 ≤ ep ∧ ep ≤ 18446744073709551615) (hn : 1 ≤ nx ∧ nx < 4611686018427387904) (h0 : 0 < ch.length) (h1 : ch.length ≤ 991) (hi : i < 65536) (hp : 0 ≤ p ∧ p ≤ 18446744073709551615) :
    okP (secL ep nx (shB i p ch)) ep = true ∧ sB smZ (secL ep nx (shB i p ch)) = nx ∧ pAt (secL ep nx (shB i p ch)) = i ∧ pPrev (secL ep nx (shB i p ch)) = p ∧ pBy (secL ep nx (shB i p ch)) = ch := by
  have hl : (shB i p ch).length = 10 + ch.length := by unfold shB; simp only [List.length_append, be_length]; omega
  obtain ⟨e1, e2, e3, e4, e5⟩ := sec_get smZ (fun _ => rfl) 1 ep nx (shB i p ch) (by omega) (by omega) hep.1 hep.2 (by omega) (by omega)
  have e5' : sV smZ (secL ep nx (shB i p ch)) = shB i p ch := e5
  refine ⟨decide_eq_true ⟨e1, e2, e3, by rw [show sB smZ (secL ep nx (shB i p ch)) = nx from e4]; exact hn.1, by rw [show sB smZ (secL ep nx (shB i p ch)) = nx from e4]; exact hn.2, by rw [e5']; omega⟩, e4, ?_, ?_, ?_⟩
  · unfold pAt
    rw [e5']
    have ee : be 2 (i : Int) = [(i : Int) / 256 % 256, (i : Int) / 1 % 256] := rfl
    unfold shB
    rw [ee]
    show (i : Int) / 256 % 256 * 256 + (i : Int) / 1 % 256 = i
    omega
  · unfold pPrev
    rw [e5']
    unfold shB
    rw [List.drop_left' (be_length _ _), List.take_left' (be_length _ _)]
    exact num_be 8 p hp.1 (by
      have : (256 : Int) ^ 8 = 18446744073709551616 := by decide
      omega)
  · unfold pBy
    rw [e5']
    unfold shB
    rw [← List.append_assoc, List.drop_left' (by rw [List.length_append, be_length, be_length])]
theorem recs_one {b : List Int} (hl : b.length ≤ 60000) : allF (frm smZ b) 0 = ([b], 8 + b.length, 0) := by
  have h0 := gE_frm smZ (fun _ => rfl) b [] hl
  have h1 := gB_frm smZ (fun _ => rfl) b [] hl
  rw [List.append_nil] at h0 h1
  have hlen : (frm smZ b).length = 8 + b.length := frm_length smZ (fun _ => rfl) b
  have hs : gStep (frm smZ b) = 8 + b.length := by unfold gStep; rw [h1.2]; omega
  rw [allF_ok (by omega) (by rw [List.drop_zero]; exact h0.2), List.drop_zero, h1.1, hs, allF_end (by omega), Nat.zero_add]
theorem app_one {s : Ds} {l : Ls} {b : List Int} (hoff : s.off = false) (hl : s.left = -1) (hk : s.kept.length = 2) (hf : l.fr = 0) (hc : l.ct = 2) (hb : l.bad = 0) (hs : l.sm.length ≤ 100) (hbl : b.length ≤ 100) (hn : l.nx ≤ 1000) :
    appL s l b = (⟨s.kept, s.pend ++ [(0, secL l.ep l.nx (shB 0 0 (l.sm ++ frm smZ b)))], false, -1, s.rd, s.wr + 1, s.fl⟩, { l with sm := l.sm ++ frm smZ b, tm := [l.nx], nx := l.nx + 1 }, 0) := by
  have hfl : (frm smZ b).length = 8 + b.length := frm_length smZ (fun _ => rfl) b
  have e1 : l.sm.length / 991 = 0 := Nat.div_eq_of_lt (by omega)
  have e2 : (l.sm.length + (8 + b.length) - 1) / 991 = 0 := Nat.div_eq_of_lt (by omega)
  unfold appL
  rw [if_neg (by omega), if_neg (by omega)]
  dsimp only
  rw [hfl, e1, e2, if_neg (by omega)]
  have hch : chunk { l with sm := l.sm ++ frm smZ b } 0 = l.sm ++ frm smZ b := by
    unfold chunk
    rw [Nat.zero_mul, List.drop_zero]
    exact List.take_of_length_le (by show (l.sm ++ frm smZ b).length ≤ 991; rw [List.length_append]; omega)
  have hbl2 : (secL l.ep l.nx (shB 0 0 (l.sm ++ frm smZ b))).length = 1024 := secL_len _ _ _ (by unfold shB; simp only [List.length_append, be_length]; omega)
  have hw : wrL s { l with sm := l.sm ++ frm smZ b } 0 = (⟨s.kept, s.pend ++ [(0, secL l.ep l.nx (shB 0 0 (l.sm ++ frm smZ b)))], false, -1, s.rd, s.wr + 1, s.fl⟩, { l with sm := l.sm ++ frm smZ b, tm := [l.nx], nx := l.nx + 1 }, 0) := by
    unfold wrL
    rw [hch]
    have hd := do_wr hoff hl 0 (by omega) _ hbl2
    have hp : prevL { l with sm := l.sm ++ frm smZ b } 0 = 0 := rfl
    rw [hp]
    dsimp only
    rw [show ((l.fr + 0 : Nat) : Int) = ((0 : Nat) : Int) by rw [hf], hd]
    rfl
  show wrN s { l with sm := l.sm ++ frm smZ b } 0 1 = _
  unfold wrN
  rw [hw]
  rfl
end Lo
end Go.Proofs.YtjdimgigbgafbaaDoor
namespace Go.Proofs.YtjdimgigbgafbaaDoor
set_option maxRecDepth 100000
open Byts Seal Fram
set_option linter.unusedVariables false
namespace Lo
def frs (rs : List (List Int)) : List Int := rs.flatMap (frm smZ)
theorem frs_nil : frs [] = [] := rfl
theorem frs_cons (b : List Int) (rs : List (List Int)) : frs (b :: rs) = frm smZ b ++ frs rs := by simp [frs]
theorem frs_append (a b : List (List Int)) : frs (a ++ b) = frs a ++ frs b := by simp [frs]
theorem frs_snoc (a : List (List Int)) (b : List Int) : frs (a ++ [b]) = frs a ++ frm smZ b := by simp [frs]
theorem frm_len (b : List Int) : (frm smZ b).length = 8 + b.length := frm_length smZ (fun _ => rfl) b
structure Cuts (zs : List Int) (rs : List (List Int)) (t : List Int) : Prop where
  e : zs = frs rs ++ t
  s : ∀ b ∈ rs, b.length ≤ 60000
  d : gE smZ t ≠ 0
theorem gE_nil : gE smZ [] ≠ 0 := by
  have h0 : nZ [] = 0 := rfl
  unfold gE
  rw [if_neg (by simp), h0, if_neg (by decide), if_pos (by simp)]
  decide
theorem allF_shift : ∀ (n : Nat) (zs : List Int) (p : Nat), zs.length - p ≤ n → allF zs p = ((allF (zs.drop p) 0).1, p + (allF (zs.drop p) 0).2.1, (allF (zs.drop p) 0).2.2)
  | 0, zs, p, h => by
    rw [allF_end (by omega), allF_end (zs := zs.drop p) (by rw [List.length_drop]; omega)]
    rfl
  | n + 1, zs, p, h => by
    by_cases hp : p < zs.length
    · by_cases he : gE smZ (zs.drop p) = 0
      · have hs : 1 ≤ gStep (zs.drop p) := by unfold gStep; omega
        have hl : 0 < (zs.drop p).length := by rw [List.length_drop]; omega
        rw [allF_ok hp he, allF_ok (zs := zs.drop p) (p := 0) hl (by rw [List.drop_zero]; exact he), List.drop_zero]
        rw [allF_shift n zs (p + gStep (zs.drop p)) (by omega), Nat.zero_add, allF_shift n (zs.drop p) (gStep (zs.drop p)) (by rw [List.length_drop]; omega)]
        rw [List.drop_drop]
        simp only [Nat.add_assoc]
      · have hl : 0 < (zs.drop p).length := by rw [List.length_drop]; omega
        rw [allF_bad hp he, allF_bad (zs := zs.drop p) (p := 0) hl (by rw [List.drop_zero]; exact he), List.drop_zero]
        rfl
    · rw [allF_end (by omega), allF_end (zs := zs.drop p) (by rw [List.length_drop]; omega)]
      rfl
theorem allF_frm (b t : List Int) (hb : b.length ≤ 60000) : allF (frm smZ b ++ t) 0 = (b :: (allF t 0).1, 8 + b.length + (allF t 0).2.1, (allF t 0).2.2) := by
  have h0 := gE_frm smZ (fun _ => rfl) b t hb
  have h1 := gB_frm smZ (fun _ => rfl) b t hb
  have hlen := frm_len b
  have hs : gStep (frm smZ b ++ t) = 8 + b.length := by unfold gStep; rw [h1.2]; omega
  have hd : (frm smZ b ++ t).drop (8 + b.length) = t := by rw [← hlen, List.drop_left]
  rw [allF_ok (by rw [List.length_append]; omega) (by rw [List.drop_zero]; exact h0.2), List.drop_zero, h1.1, hs, allF_shift _ _ _ (Nat.le_refl _), Nat.zero_add, hd]
theorem allF_dead {t : List Int} (h : gE smZ t ≠ 0) : (allF t 0).1 = [] ∧ (allF t 0).2.1 = 0 := by
  by_cases hl : 0 < t.length
  · rw [allF_bad hl (by rw [List.drop_zero]; exact h)]
    exact ⟨rfl, rfl⟩
  · rw [allF_end (by omega)]
    exact ⟨rfl, rfl⟩
theorem allF_frs (t : List Int) : ∀ (rs : List (List Int)), (∀ b ∈ rs, b.length ≤ 60000) → (allF (frs rs ++ t) 0).1 = rs ++ (allF t 0).1 ∧ (allF (frs rs ++ t) 0).2.1 = (frs rs).length + (allF t 0).2.1
  | [], _ => by rw [frs_nil, List.nil_append]; exact ⟨rfl, (Nat.zero_add _).symm⟩
  | b :: rs, h => by
    have ih := allF_frs t rs (fun x hx => h x (List.mem_cons_of_mem _ hx))
    rw [frs_cons, List.append_assoc, allF_frm b _ (h b List.mem_cons_self)]
    refine ⟨?_, ?_⟩
    · show b :: (allF (frs rs ++ t) 0).1 = _
      rw [ih.1]
      rfl
    · show 8 + b.length + (allF (frs rs ++ t) 0).2.1 = _
      rw [ih.2, List.length_append, frm_len]
      omega
theorem Cuts.rec_ {zs t : List Int} {rs : List (List Int)} (h : Cuts zs rs t) : recs zs = rs ∧ used zs = (frs rs).length := by
  have h1 := allF_frs t rs h.s
  have h2 := allF_dead h.d
  unfold recs used
  rw [h.e, h1.1, h1.2, h2.1, h2.2, List.append_nil]
  exact ⟨rfl, rfl⟩
theorem Cuts.take {zs t : List Int} {rs : List (List Int)} (h : Cuts zs rs t) : zs.take (used zs) = frs rs := by
  rw [h.rec_.2, h.e, List.take_left]
theorem getD_left {a b : List Int} {i : Nat} (h : i < a.length) : (a ++ b).getD i 0 = a.getD i 0 := by
  rw [List.getD, List.getD, List.getElem?_append_left h]
theorem gE_ok {a : List Int} (h : gE smZ a = 0) (hb : Bytes a) : 0 ≤ nZ a ∧ nZ a ≤ 60000 ∧ 8 + nZ a ≤ (a.length : Int) ∧ a.getD 0 0 = 181 ∧ (a.drop (4 + (nZ a).toNat)).take 4 = smZ (a.take (4 + (nZ a).toNat)) := by
  have h0 := (nZ_nn hb).1
  unfold gE at h
  split at h
  · cases h
  · rename_i h1
    split at h
    · cases h
    · rename_i h2
      split at h
      · cases h
      · rename_i h3
        split at h
        · cases h
        · rename_i h4
          refine ⟨h0, by omega, by omega, Decidable.byContradiction fun hn => h1 ⟨by omega, hn⟩, Decidable.byContradiction fun hn => h4 hn⟩
theorem gE_mono {a b : List Int} (h : gE smZ a = 0) (hb : Bytes a) : gE smZ (a ++ b) = 0 ∧ nZ (a ++ b) = nZ a := by
  obtain ⟨h0, h1, h2, h3, h4⟩ := gE_ok h hb
  have hn : nZ (a ++ b) = nZ a := by
    unfold nZ
    rw [getD_left (by omega), getD_left (by omega), getD_left (by omega)]
  refine ⟨?_, hn⟩
  unfold gE
  rw [if_neg, hn, if_neg (by omega), if_neg (by rw [List.length_append]; omega), if_neg]
  · rw [List.drop_append_of_le_length (by omega), List.take_append_of_le_length (by rw [List.length_drop]; omega), List.take_append_of_le_length (by omega)]
    exact fun hx => hx h4
  · rintro ⟨_, hx⟩
    rw [getD_left (by omega)] at hx
    exact hx h3
theorem dead_pre {p y : List Int} (hp : p <+: y) (hb : Bytes p) (h : gE smZ y ≠ 0) : gE smZ p ≠ 0 := by
  obtain ⟨q, rfl⟩ := hp
  exact fun he => h (gE_mono he hb).1
theorem part_dead {p y b : List Int} (hp : p <+: frm smZ b ++ y) (hb : Bytes p) (hl : b.length ≤ 60000) (h : p.length < 8 + b.length) : gE smZ p ≠ 0 := by
  obtain ⟨q, hq⟩ := hp
  intro he
  have h1 := (gE_mono (b := q) he hb).2
  rw [hq, (gE_frm smZ (fun _ => rfl) b y hl).1] at h1
  have h2 := (gE_ok he hb).2.2.1
  omega
theorem pre_cuts (t : List Int) (ht : gE smZ t ≠ 0) : ∀ (r1 : List (List Int)) (p : List Int), (∀ b ∈ r1, b.length ≤ 60000) → p <+: frs r1 ++ t → Bytes p → ∃ r' t', r' <+: r1 ∧ Cuts p r' t'
  | [], p, _, hp, hb => ⟨[], p, List.prefix_refl _, rfl, (fun b hb => by cases hb), dead_pre hp hb ht⟩
  | b :: r1, p, hs, hp, hb => by
    have hbl := hs b List.mem_cons_self
    rw [frs_cons, List.append_assoc] at hp
    by_cases hl : p.length < 8 + b.length
    · exact ⟨[], p, List.nil_prefix, rfl, (fun b hb => by cases hb), part_dead hp hb hbl hl⟩
    · have h1 : frm smZ b <+: p := List.prefix_of_prefix_length_le (List.prefix_append _ _) hp (by rw [frm_len]; omega)
      obtain ⟨p', rfl⟩ := h1
      have h2 : p' <+: frs r1 ++ t := (List.prefix_append_right_inj _).1 hp
      obtain ⟨r', t', h3, h4⟩ := pre_cuts t ht r1 p' (fun x hx => hs x (List.mem_cons_of_mem _ hx)) h2 (fun z hz => hb z (List.mem_append_right _ hz))
      refine ⟨b :: r', t', (List.prefix_append_right_inj [b]).2 h3, ?_, ?_, h4.d⟩
      · rw [frs_cons, List.append_assoc, ← h4.e]
      · intro x hx
        rcases List.mem_cons.1 hx with rfl | hx
        · exact hbl
        · exact h4.s x hx
theorem frs_pre {a b : List (List Int)} (h : a <+: b) : frs a <+: frs b := by
  obtain ⟨c, rfl⟩ := h
  exact ⟨frs c, (frs_append a c).symm⟩
theorem Cuts.whole {y t : List Int} {rs r' : List (List Int)} (h : Cuts (frs rs ++ y) r' t) (hp : r' <+: rs) (hs : ∀ b ∈ rs, b.length ≤ 60000) : r' = rs := by
  have h1 := (allF_frs y rs hs).1
  have h2 := h.rec_.1
  unfold recs at h2
  rw [h1] at h2
  have h3 : r'.length ≤ rs.length := hp.length_le
  have h4 := congrArg List.length h2
  rw [List.length_append] at h4
  exact hp.eq_of_length (by omega)
theorem left_cuts {r0 rs : List (List Int)} {x t : List Int} (h0 : r0 <+: rs) (hs : ∀ b ∈ rs, b.length ≤ 60000) (ht : gE smZ t ≠ 0) (hx : x <+: frs rs ++ t) (hl : (frs r0).length ≤ x.length) (hb : Bytes x) : ∃ r' t', r0 <+: r' ∧ r' <+: rs ∧ Cuts x r' t' := by
  obtain ⟨r1, rfl⟩ := h0
  rw [frs_append, List.append_assoc] at hx
  have h1 : frs r0 <+: x := List.prefix_of_prefix_length_le (List.prefix_append _ _) hx hl
  obtain ⟨p, rfl⟩ := h1
  obtain ⟨r', t', h3, h4⟩ := pre_cuts t ht r1 p (fun b hb => hs b (List.mem_append_right _ hb)) ((List.prefix_append_right_inj _).1 hx) (fun z hz => hb z (List.mem_append_right _ hz))
  refine ⟨r0 ++ r', t', List.prefix_append _ _, (List.prefix_append_right_inj _).2 h3, ?_, ?_, h4.d⟩
  · rw [frs_append, List.append_assoc, ← h4.e]
  · intro b hb
    rcases List.mem_append.1 hb with hb | hb
    · exact hs b (List.mem_append_left _ hb)
    · exact h4.s b hb
end Lo
end Go.Proofs.YtjdimgigbgafbaaDoor
namespace Go.Proofs.YtjdimgigbgafbaaDoor
set_option maxRecDepth 100000
open Byts Seal Fram
set_option linter.unusedVariables false
namespace Lo
def opK (K : Nat → List Int) (ep : Int) : Nat → Os
  | 0 => ⟨1, true, [], []⟩
  | i + 1 => opStep ep i (K i) (opK K ep i)
theorem opI_K (s : Ds) (fr : Nat) (ep : Int) : ∀ i, opI s fr ep i = opK (fun j => s.now (fr + j)) ep i
  | 0 => rfl
  | i + 1 => by
    show opStep ep i (s.now (fr + i)) (opI s fr ep i) = opStep ep i (s.now (fr + i)) (opK (fun j => s.now (fr + j)) ep i)
    rw [opI_K s fr ep i]
theorem opK_same {K K' : Nat → List Int} {ep : Int} : ∀ {n : Nat}, (∀ j < n, K' j = K j) → opK K' ep n = opK K ep n
  | 0, _ => rfl
  | n + 1, h => by
    show opStep ep n (K' n) (opK K' ep n) = opStep ep n (K n) (opK K ep n)
    rw [h n (by omega), opK_same (fun j hj => h j (by omega))]
section
variable {K : Nat → List Int} {ep : Int} {n : Nat}
theorem opK_ok : ∀ {n : Nat}, (∀ j < n, Bytes (K j)) → OsOk (opK K ep n) n
  | 0, _ => OsOk.zero
  | n + 1, h => (opK_ok (fun j hj => h j (by omega))).step ep (h n (by omega))
theorem opStep_yes {i : Nat} {zs : List Int} {o : Os} (h : (o.ch && okP zs ep && fol o i zs) = true) : (opStep ep i zs o).ch = true ∧ (opStep ep i zs o).tm = o.tm ++ [sB smZ zs] ∧ (opStep ep i zs o).sm = o.sm ++ pBy zs := by
  unfold opStep
  rw [if_pos h]
  exact ⟨rfl, rfl, rfl⟩
theorem opStep_no {i : Nat} {zs : List Int} {o : Os} (h : ¬ (o.ch && okP zs ep && fol o i zs) = true) : (opStep ep i zs o).ch = false ∧ (opStep ep i zs o).tm = o.tm ∧ (opStep ep i zs o).sm = o.sm := by
  unfold opStep
  rw [if_neg h]
  exact ⟨rfl, rfl, rfl⟩
theorem opStep_ch {i : Nat} {zs : List Int} {o : Os} : (opStep ep i zs o).ch = true ↔ (o.ch && okP zs ep && fol o i zs) = true := by
  by_cases h : (o.ch && okP zs ep && fol o i zs) = true
  · exact ⟨fun _ => h, fun _ => (opStep_yes h).1⟩
  · refine ⟨fun hc => ?_, fun hc => absurd hc h⟩
    rw [(opStep_no h).1] at hc
    cases hc
theorem step3 {o : Os} {zs : List Int} {i : Nat} : (o.ch && okP zs ep && fol o i zs) = true ↔ o.ch = true ∧ okP zs ep = true ∧ fol o i zs = true := by
  simp only [Bool.and_eq_true]
  constructor
  · rintro ⟨⟨a, b⟩, c⟩; exact ⟨a, b, c⟩
  · rintro ⟨a, b, c⟩; exact ⟨⟨a, b⟩, c⟩
theorem opK_stuck {i : Nat} (h : (opK K ep i).ch = false ∨ (opK K ep i).sm.length ≠ i * 991) : ∀ d, (opK K ep (i + d)).sm = (opK K ep i).sm ∧ (opK K ep (i + d)).tm = (opK K ep i).tm ∧ (0 < d → (opK K ep (i + d)).ch = false)
  | 0 => ⟨rfl, rfl, fun h => absurd h (by omega)⟩
  | d + 1 => by
    obtain ⟨h1, h2, h3⟩ := opK_stuck h d
    have hno : ¬ ((opK K ep (i + d)).ch && okP (K (i + d)) ep && fol (opK K ep (i + d)) (i + d) (K (i + d))) = true := by
      rw [step3]
      rintro ⟨a, b, c⟩
      by_cases hd : 0 < d
      · rw [h3 hd] at a
        cases a
      · obtain rfl : d = 0 := by omega
        rcases h with h | h
        · rw [Nat.add_zero, h] at a
          cases a
        · exact h (fol_len c)
    obtain ⟨k1, k2, k3⟩ := opStep_no hno
    exact ⟨k3.trans h1, k2.trans h2, fun _ => k1⟩
theorem opK_pre : ∀ {i : Nat} (d : Nat), (opK K ep i).sm <+: (opK K ep (i + d)).sm ∧ (opK K ep i).tm <+: (opK K ep (i + d)).tm
  | i, 0 => ⟨List.prefix_refl _, List.prefix_refl _⟩
  | i, d + 1 => by
    obtain ⟨h1, h2⟩ := opK_pre (i := i) d
    by_cases hc : ((opK K ep (i + d)).ch && okP (K (i + d)) ep && fol (opK K ep (i + d)) (i + d) (K (i + d))) = true
    · obtain ⟨_, k2, k3⟩ := opStep_yes hc
      refine ⟨h1.trans ?_, h2.trans ?_⟩
      · show _ <+: (opStep ep (i + d) (K (i + d)) (opK K ep (i + d))).sm
        rw [k3]
        exact List.prefix_append _ _
      · show _ <+: (opStep ep (i + d) (K (i + d)) (opK K ep (i + d))).tm
        rw [k2]
        exact List.prefix_append _ _
    · obtain ⟨_, k2, k3⟩ := opStep_no hc
      refine ⟨?_, ?_⟩
      · show _ <+: (opStep ep (i + d) (K (i + d)) (opK K ep (i + d))).sm
        rw [k3]; exact h1
      · show _ <+: (opStep ep (i + d) (K (i + d)) (opK K ep (i + d))).tm
        rw [k2]; exact h2
theorem opK_pre' {i : Nat} (h : i ≤ n) : (opK K ep i).sm <+: (opK K ep n).sm ∧ (opK K ep i).tm <+: (opK K ep n).tm := by
  have := opK_pre (K := K) (ep := ep) (i := i) (n - i)
  rwa [show i + (n - i) = n by omega] at this
theorem opK_whole (hb : ∀ j < n, Bytes (K j)) {i : Nat} (hi : i ≤ n) (h : i * 991 ≤ (opK K ep n).sm.length) : (opK K ep i).ch = true ∧ (opK K ep i).sm.length = i * 991 ∧ (opK K ep i).tm.length = i := by
  have ho := opK_ok (K := K) (ep := ep) (n := i) (fun j hj => hb j (by omega))
  have hlen : (opK K ep i).sm.length = i * 991 := by
    apply Decidable.byContradiction
    intro hn
    have h1 := (opK_stuck (K := K) (ep := ep) (i := i) (.inr hn) (n - i)).1
    rw [show i + (n - i) = n by omega] at h1
    have h2 := ho.sl
    rw [h1] at h
    omega
  have hch : (opK K ep i).ch = true := by
    rcases i with _ | i
    · rfl
    · cases hc : (opK K ep (i + 1)).ch
      · have hno : ¬ ((opK K ep i).ch && okP (K i) ep && fol (opK K ep i) i (K i)) = true := by
          rw [← opStep_ch (ep := ep)]
          show ¬ (opK K ep (i + 1)).ch = true
          rw [hc]
          decide
        have h2 : (opK K ep (i + 1)).sm = (opK K ep i).sm := (opStep_no hno).2.2
        have h3 := (opK_ok (K := K) (ep := ep) (n := i) (fun j hj => hb j (by omega))).sl
        rw [h2] at hlen
        omega
      · rfl
  exact ⟨hch, hlen, ho.c1 hch⟩
theorem opK_take (hb : ∀ j < n, Bytes (K j)) {i : Nat} (hi : i ≤ n) (h : i * 991 ≤ (opK K ep n).sm.length) : (opK K ep i).sm = (opK K ep n).sm.take (i * 991) ∧ (opK K ep i).tm = (opK K ep n).tm.take i := by
  obtain ⟨_, h2, h3⟩ := opK_whole hb hi h
  obtain ⟨p1, p2⟩ := opK_pre' (K := K) (ep := ep) hi
  exact ⟨by rw [← h2]; exact (List.prefix_iff_eq_take.1 p1), by
    have := List.prefix_iff_eq_take.1 p2
    rwa [h3] at this⟩
theorem opK_tm : ∀ {n : Nat}, ∀ t ∈ (opK K ep n).tm, ∃ j < n, okP (K j) ep = true ∧ t = sB smZ (K j)
  | 0, t, h => by cases h
  | n + 1, t, h => by
    by_cases hc : ((opK K ep n).ch && okP (K n) ep && fol (opK K ep n) n (K n)) = true
    · have h : t ∈ (opStep ep n (K n) (opK K ep n)).tm := h
      rw [(opStep_yes hc).2.1] at h
      rcases List.mem_append.1 h with h | h
      · obtain ⟨j, h1, h2⟩ := opK_tm t h
        exact ⟨j, by omega, h2⟩
      · obtain rfl : t = sB smZ (K n) := by simpa using h
        exact ⟨n, by omega, (step3.1 hc).2.1, rfl⟩
    · have h : t ∈ (opStep ep n (K n) (opK K ep n)).tm := h
      rw [(opStep_no hc).2.1] at h
      obtain ⟨j, h1, h2⟩ := opK_tm t h
      exact ⟨j, by omega, h2⟩
theorem opStep_nx (i : Nat) (zs : List Int) (o : Os) : (opStep ep i zs o).nx = opNx ep zs o := by
  unfold opStep
  split <;> rfl
theorem opK_nx : ∀ {n : Nat}, 1 ≤ (opK K ep n).nx ∧ ∀ j < n, okP (K j) ep = true → sB smZ (K j) < (opK K ep n).nx
  | 0 => ⟨Int.le_refl _, fun j hj => absurd hj (by omega)⟩
  | n + 1 => by
    obtain ⟨h0, h⟩ := opK_nx (n := n)
    have e : (opK K ep (n + 1)).nx = opNx ep (K n) (opK K ep n) := opStep_nx n (K n) (opK K ep n)
    have h1 : (opK K ep n).nx ≤ opNx ep (K n) (opK K ep n) := by
      unfold opNx
      split <;> omega
    refine ⟨by omega, fun j hj hk => ?_⟩
    by_cases hjn : j = n
    · subst hjn
      rw [e]
      unfold opNx
      rw [if_pos hk]
      omega
    · have := h j (by omega) hk
      omega
end
def prevT (o : Os) (j : Nat) : Int := if j = 0 then 0 else o.tm.getD (j - 1) 0
theorem fol_iff {o : Os} {i : Nat} {zs : List Int} : fol o i zs = true ↔ pAt zs = i ∧ o.sm.length = i * 991 ∧ pPrev zs = prevT o i := by
  unfold fol prevT
  by_cases h1 : pAt zs ≠ i ∨ o.sm.length ≠ i * 991
  · rw [if_pos h1]
    constructor
    · intro h; cases h
    · rintro ⟨a, b, _⟩
      rcases h1 with h1 | h1
      · exact absurd a h1
      · exact absurd b h1
  · rw [if_neg h1]
    by_cases h0 : i = 0
    · rw [if_pos h0, if_pos h0, decide_eq_true_iff]
      constructor
      · intro h; exact ⟨by omega, by omega, h⟩
      · rintro ⟨_, _, h⟩; exact h
    · rw [if_neg h0, if_neg h0, decide_eq_true_iff]
      constructor
      · intro h; exact ⟨by omega, by omega, h⟩
      · rintro ⟨_, _, h⟩; exact h
structure Wrt (fr ct : Nat) (ep : Int) (K0 : Nat → List Int) (F : List Int) (n0 : Nat) (nx0 nx : Int) (j : Nat) (z : List Int) : Prop where
  lo : n0 / 991 ≤ j
  hi : j < ct
  by_ : Bytes z
  ok : okP z ep = true
  at_ : pAt z = j
  t0 : nx0 ≤ sB smZ z
  t1 : sB smZ z < nx
  pr : pPrev z < sB smZ z
  ch : ∃ n, pBy z = (F.drop (j * 991)).take n ∧ n0 < j * 991 + n ∧ j * 991 + n ≤ F.length ∧ n ≤ 991
  p0 : j = n0 / 991 → pPrev z = prevT (opK K0 ep j) j
  p1 : n0 / 991 < j → nx0 ≤ pPrev z
structure Bas (ct : Nat) (ep : Int) (K0 : Nat → List Int) (r0 : List (List Int)) (nx0 : Int) : Prop where
  by_ : ∀ j < ct, Bytes (K0 j)
  cut : ∃ t, Cuts (opK K0 ep ct).sm r0 t
  lt : ∀ j < ct, okP (K0 j) ep = true → pPrev (K0 j) < sB smZ (K0 j) ∧ sB smZ (K0 j) < nx0
  n1 : 1 ≤ nx0
theorem take_add {F : List Int} {a n : Nat} : F.take a ++ (F.drop a).take n = F.take (a + n) := by
  rw [List.take_add]
theorem crash_sm {fr ct : Nat} {ep : Int} {K0 K1 : Nat → List Int} {r0 rs : List (List Int)} {nx0 nx : Int} (B : Bas ct ep K0 r0 nx0) (hpre : r0 <+: rs)
    (h : ∀ j < ct, K1 j = K0 j ∨ Wrt fr ct ep K0 (frs rs) (frs r0).length nx0 nx j (K1 j)) :
    ((opK K1 ep ct).sm <+: (opK K0 ep ct).sm ∨ (opK K1 ep ct).sm <+: frs rs) ∧ (frs r0).length ≤ (opK K1 ep ct).sm.length := by
  obtain ⟨t0, hcut⟩ := B.cut
  have hF : frs r0 <+: frs rs := frs_pre hpre
  have hFl : (frs r0).length ≤ (frs rs).length := hF.length_le
  have hS : (frs r0).length ≤ (opK K0 ep ct).sm.length := by rw [hcut.e, List.length_append]; omega
  have tk : ∀ i, i * 991 ≤ (frs r0).length → (opK K0 ep ct).sm.take (i * 991) = (frs rs).take (i * 991) := fun i hi => by
    obtain ⟨u, hu⟩ := hF
    rw [hcut.e, List.take_append_of_le_length hi, ← hu, List.take_append_of_le_length hi]
  have key : ∀ i, i ≤ ct → ((opK K1 ep i).sm = (opK K0 ep i).sm ∧ (opK K1 ep i).tm = (opK K0 ep i).tm ∧ (opK K1 ep i).ch = (opK K0 ep i).ch)
      ∨ ((opK K1 ep i).ch = true ∧ 0 < i ∧ (opK K1 ep i).sm = (frs rs).take (opK K1 ep i).sm.length ∧ (frs r0).length < (opK K1 ep i).sm.length ∧ (opK K1 ep i).tm.length = i ∧ nx0 ≤ (opK K1 ep i).tm.getD (i - 1) 0)
      ∨ ((opK K1 ep i).ch = false ∧ ((opK K1 ep i).sm <+: (opK K0 ep ct).sm ∨ (opK K1 ep i).sm <+: frs rs) ∧ (frs r0).length ≤ (opK K1 ep i).sm.length) := by
    intro i
    induction i with
    | zero => exact fun _ => .inl ⟨rfl, rfl, rfl⟩
    | succ i ih =>
      intro hi
      show ((opStep ep i (K1 i) (opK K1 ep i)).sm = (opStep ep i (K0 i) (opK K0 ep i)).sm ∧ (opStep ep i (K1 i) (opK K1 ep i)).tm = (opStep ep i (K0 i) (opK K0 ep i)).tm ∧ (opStep ep i (K1 i) (opK K1 ep i)).ch = (opStep ep i (K0 i) (opK K0 ep i)).ch)
        ∨ ((opStep ep i (K1 i) (opK K1 ep i)).ch = true ∧ 0 < i + 1 ∧ (opStep ep i (K1 i) (opK K1 ep i)).sm = (frs rs).take (opStep ep i (K1 i) (opK K1 ep i)).sm.length ∧ (frs r0).length < (opStep ep i (K1 i) (opK K1 ep i)).sm.length ∧ (opStep ep i (K1 i) (opK K1 ep i)).tm.length = i + 1 ∧ nx0 ≤ (opStep ep i (K1 i) (opK K1 ep i)).tm.getD i 0)
        ∨ ((opStep ep i (K1 i) (opK K1 ep i)).ch = false ∧ ((opStep ep i (K1 i) (opK K1 ep i)).sm <+: (opK K0 ep ct).sm ∨ (opStep ep i (K1 i) (opK K1 ep i)).sm <+: frs rs) ∧ (frs r0).length ≤ (opStep ep i (K1 i) (opK K1 ep i)).sm.length)
      rcases ih (by omega) with ⟨a1, a2, a3⟩ | ⟨b1, b0, b2, b3, b4, b5⟩ | ⟨c1, c2, c3⟩
      · have ef : ∀ z, fol (opK K1 ep i) i z = fol (opK K0 ep i) i z := fun z => by unfold fol; rw [a1, a2]
        rcases h i (by omega) with hk | W
        · left
          rw [hk]
          by_cases hc : ((opK K0 ep i).ch && okP (K0 i) ep && fol (opK K0 ep i) i (K0 i)) = true
          · have hc1 : ((opK K1 ep i).ch && okP (K0 i) ep && fol (opK K1 ep i) i (K0 i)) = true := by rw [a3, ef]; exact hc
            obtain ⟨p1, p2, p3⟩ := opStep_yes hc
            obtain ⟨q1, q2, q3⟩ := opStep_yes hc1
            exact ⟨by rw [p3, q3, a1], by rw [p2, q2, a2], by rw [p1, q1]⟩
          · have hc1 : ¬ ((opK K1 ep i).ch && okP (K0 i) ep && fol (opK K1 ep i) i (K0 i)) = true := by rw [a3, ef]; exact hc
            obtain ⟨p1, p2, p3⟩ := opStep_no hc
            obtain ⟨q1, q2, q3⟩ := opStep_no hc1
            exact ⟨by rw [p3, q3, a1], by rw [p2, q2, a2], by rw [p1, q1]⟩
        · have lo := W.lo
          by_cases hik : i = (frs r0).length / 991
          ·
            have hw := opK_whole B.by_ (i := i) (by omega) (by omega : i * 991 ≤ (opK K0 ep ct).sm.length)
            have ht := (opK_take B.by_ (i := i) (by omega) (by omega : i * 991 ≤ (opK K0 ep ct).sm.length)).1
            have hc1 : ((opK K1 ep i).ch && okP (K1 i) ep && fol (opK K1 ep i) i (K1 i)) = true := by
              rw [step3]
              refine ⟨by rw [a3]; exact hw.1, W.ok, ?_⟩
              rw [ef, fol_iff]
              exact ⟨W.at_, hw.2.1, W.p0 hik⟩
            obtain ⟨q1, q2, q3⟩ := opStep_yes hc1
            obtain ⟨n, n1, n2, n3, n4⟩ := W.ch
            have es : (opStep ep i (K1 i) (opK K1 ep i)).sm = (frs rs).take (i * 991 + n) := by
              rw [q3, a1, ht, tk i (by omega), n1, take_add]
            have el : (opStep ep i (K1 i) (opK K1 ep i)).sm.length = i * 991 + n := by rw [es, List.length_take]; omega
            refine .inr (.inl ⟨q1, by omega, by rw [el]; exact es, by omega, by rw [q2, a2, List.length_append, hw.2.2]; rfl, ?_⟩)
            rw [q2, a2, List.getD, List.getElem?_append_right (by omega), hw.2.2, Nat.sub_self]
            exact W.t0
          · have hno : ¬ ((opK K1 ep i).ch && okP (K1 i) ep && fol (opK K1 ep i) i (K1 i)) = true := by
              rw [step3]
              rintro ⟨d1, _, d3⟩
              rw [fol_iff] at d3
              have hch : (opK K0 ep i).ch = true := by rw [← a3]; exact d1
              have hl := (opK_ok (K := K0) (ep := ep) (n := i) (fun j hj => B.by_ j (by omega))).c1 hch
              have hp := W.p1 (by omega)
              have e3 : pPrev (K1 i) = (opK K0 ep i).tm.getD (i - 1) 0 := by
                rw [d3.2.2]
                unfold prevT
                rw [if_neg (by omega), a2]
              have hm : (opK K0 ep i).tm.getD (i - 1) 0 ∈ (opK K0 ep i).tm := by
                rw [List.getD, List.getElem?_eq_getElem (by omega)]
                exact List.getElem_mem _
              obtain ⟨j, hj, hjo, hje⟩ := opK_tm _ hm
              have := (B.lt j (by omega) hjo).2
              omega
            obtain ⟨q1, q2, q3⟩ := opStep_no hno
            refine .inr (.inr ⟨q1, .inl (by rw [q3, a1]; exact (opK_pre' (by omega)).1), ?_⟩)
            rw [q3, a1]
            by_cases hl : (opK K0 ep i).sm.length = i * 991
            · omega
            · have := (opK_stuck (K := K0) (ep := ep) (i := i) (.inr hl) (ct - i)).1
              rw [show i + (ct - i) = ct by omega] at this
              rw [← this]
              exact hS
      · by_cases hc1 : ((opK K1 ep i).ch && okP (K1 i) ep && fol (opK K1 ep i) i (K1 i)) = true
        · obtain ⟨q1, q2, q3⟩ := opStep_yes hc1
          obtain ⟨_, hok, hfo⟩ := step3.1 hc1
          obtain ⟨f1, f2, f3⟩ := fol_iff.1 hfo
          unfold prevT at f3
          rw [if_neg (by omega)] at f3
          rcases h i (by omega) with hk | W
          · rw [hk] at hok f3
            have := B.lt i (by omega) hok
            omega
          · obtain ⟨n, n1, n2, n3, n4⟩ := W.ch
            have es : (opStep ep i (K1 i) (opK K1 ep i)).sm = (frs rs).take (i * 991 + n) := by
              rw [q3, b2, f2, n1, take_add]
            have el : (opStep ep i (K1 i) (opK K1 ep i)).sm.length = i * 991 + n := by rw [es, List.length_take]; omega
            refine .inr (.inl ⟨q1, by omega, by rw [el]; exact es, by omega, by rw [q2, List.length_append, b4]; rfl, ?_⟩)
            rw [q2, List.getD, List.getElem?_append_right (by omega), b4, Nat.sub_self]
            exact W.t0
        · obtain ⟨q1, q2, q3⟩ := opStep_no hc1
          refine .inr (.inr ⟨q1, .inr ?_, by rw [q3]; omega⟩)
          rw [q3, b2]
          exact List.take_prefix _ _
      · have hno : ¬ ((opK K1 ep i).ch && okP (K1 i) ep && fol (opK K1 ep i) i (K1 i)) = true := by
          rw [step3, c1]
          rintro ⟨d, _⟩
          cases d
        obtain ⟨q1, q2, q3⟩ := opStep_no hno
        exact .inr (.inr ⟨q1, by rw [q3]; exact c2, by rw [q3]; exact c3⟩)
  rcases key ct (Nat.le_refl _) with ⟨a1, _, _⟩ | ⟨_, _, b2, b3, _⟩ | ⟨_, c2, c3⟩
  · exact ⟨.inl (by rw [a1]; exact List.prefix_refl _), by rw [a1]; exact hS⟩
  · exact ⟨.inr (by rw [b2]; exact List.take_prefix _ _), Nat.le_of_lt b3⟩
  · exact ⟨c2, c3⟩
theorem crash_cuts {fr ct : Nat} {ep : Int} {K0 K1 : Nat → List Int} {r0 rs : List (List Int)} {nx0 nx : Int} (B : Bas ct ep K0 r0 nx0) (hpre : r0 <+: rs) (hs : ∀ b ∈ rs, b.length ≤ 60000)
    (h : ∀ j < ct, K1 j = K0 j ∨ Wrt fr ct ep K0 (frs rs) (frs r0).length nx0 nx j (K1 j)) :
    ∃ r' t', r0 <+: r' ∧ r' <+: rs ∧ Cuts (opK K1 ep ct).sm r' t' ∧ (frs rs <+: (opK K1 ep ct).sm → r' = rs) := by
  obtain ⟨h1, h2⟩ := crash_sm B hpre h
  have hby : Bytes (opK K1 ep ct).sm := (opK_ok (fun j hj => (h j hj).elim (fun e => by rw [e]; exact B.by_ j hj) (fun W => W.by_))).sb
  have wh : ∀ r' t', r' <+: rs → Cuts (opK K1 ep ct).sm r' t' → frs rs <+: (opK K1 ep ct).sm → r' = rs := by
    rintro r' t' hp hC ⟨y, hy⟩
    rw [← hy] at hC
    exact hC.whole hp hs
  rcases h1 with h1 | h1
  · obtain ⟨t0, hcut⟩ := B.cut
    rw [hcut.e] at h1
    obtain ⟨r', t', k1, k2, k3⟩ := left_cuts (List.prefix_refl r0) hcut.s hcut.d h1 h2 hby
    exact ⟨r', t', k1, k2.trans hpre, k3, wh r' t' (k2.trans hpre) k3⟩
  · obtain ⟨r', t', k1, k2, k3⟩ := left_cuts hpre hs gE_nil (by rw [List.append_nil]; exact h1) h2 hby
    exact ⟨r', t', k1, k2, k3, wh r' t' k2 k3⟩
end Lo
end Go.Proofs.YtjdimgigbgafbaaDoor
namespace Go.Proofs.YtjdimgigbgafbaaDoor
set_option maxRecDepth 100000
open Go.RowKit H
set_option linter.unusedVariables false
theorem run_mark {P : Program} {w : World} {t e : TypeId} {g n c : Nat} {cs : Array Value} (hb : Blk w g e cs) (ht : P.underlying t = some (.slice e)) (he : P.underlying e = some (.int .u8)) :
    (convert t t (.slice (some ⟨g, 0, none⟩) n c)).run P w = .ok (.slice (some ⟨g, 0, none⟩) n c) (w.freeze ⟨g, cs.size, none⟩ 1) := by
  have hsh : w.shape? g = some (e, cs.size) := by
    unfold World.shape?
    rw [show w.heap[g]? = _ from hb]
  simp [convert, run_underlying ht, run_underlying he, markStringish, hsh]
theorem freeze_at {w : World} {g e : Nat} {cs : Array Value} (hb : Blk w g e cs) : (w.freeze ⟨g, cs.size, none⟩ 1).heap[g]? = some (.cells cs e (cs.size, cs.size + 1)) := by
  have hlt := hb.lt
  unfold World.freeze
  rw [if_neg (by decide)]
  show (w.heap.modify g _)[g]? = _
  rw [Array.getElem?_eq_getElem (by rw [Array.size_modify]; exact hlt), Array.getElem_modify_self]
  have hk : w.heap[g] = .cells cs e (0, 0) := by
    have := hb
    unfold Blk at this
    rw [Array.getElem?_eq_getElem hlt] at this
    exact Option.some.inj this
  rw [hk]
  rfl
theorem freeze_grown (w : World) (g k : Nat) : w.grownBy (w.freeze ⟨g, k, none⟩ 1) (some g) := by
  unfold World.freeze
  rw [if_neg (by decide)]
  refine ⟨rfl, rfl, rfl, by show w.heap.size ≤ (w.heap.modify g _).size; rw [Array.size_modify]; exact Nat.le_refl _, fun j hj hne => ?_⟩
  show (w.heap.modify g _)[j]? = _
  rw [Array.getElem?_modify, if_neg (fun e => hne (by rw [e]))]
theorem L.mark {P : Program} {n : Nat} {ops rest : List Oper} {Q : Exit → Fr → World → Prop} {f : Fr} {w : World} {d : Option Tmp} {ty : TypeId} {pos : String} {aft : Array Edge} {gd : Option (Nat × Bool)} {x : Operand} {t e : TypeId} {g m c q : Nat} {cs : Array Value} (hg : wn ops f gd = true) (hx : ev f x = .slice (some ⟨g, 0, none⟩) m c) (hb : Blk w g e cs) (hq : cs.size = q)
    (ht : P.underlying t = some (.slice e)) (he : P.underlying e = some (.int .u8))
    (h : ∀ w', Reads w' (g + 1) 1 (some ⟨g, 0, none⟩) q cs.toList → w.grownBy w' (some g) → L P n ops Q rest (putO f d (.slice (some ⟨g, 0, none⟩) m c)) w') : L P n ops Q (⟨d, .convert t t x, ty, pos, aft, gd⟩ :: rest) f w := by
  refine L.val hg (w' := w.freeze ⟨g, cs.size, none⟩ 1) (v := .slice (some ⟨g, 0, none⟩) m c) ?_ (h _ ?_ (freeze_grown w g _))
  · have := run_mark (n := m) (c := c) hb ht he
    simp only [execOp, hx]
    simp [this]
  · subst hq
    refine ⟨by simp, fun _ => ⟨⟨g, 0, none⟩, rfl, Nat.lt_succ_self _, fun j u hu => ?_⟩⟩
    have := cell_of_row _ g j cs e _ (freeze_at hb)
    rw [Addr.add_mid, Nat.zero_add, this]
    simpa using hu
end Go.Proofs.YtjdimgigbgafbaaDoor
namespace Go.Proofs.YtjdimgigbgafbaaDoor
set_option maxRecDepth 100000
open Go.RowKit H
open Lo Byts Seal Fram
set_option linter.unusedVariables false
theorem ok2S {k0 k1 : List Int} (h0 : k0.length = 1024) (h1 : k1.length = 1024) {p : List (Nat × List Int)} (hp : ∀ x ∈ p, x.1 < 2 ∧ x.2.length = 1024) (hl : p.length ≤ 10) (o : Bool) (l a b c : Int) (h : -1 ≤ l ∧ l ≤ 10 ∧ 0 ≤ a ∧ a ≤ 10 ∧ 0 ≤ b ∧ b ≤ 10 ∧ 0 ≤ c ∧ c ≤ 10) : Ds.Ok ⟨[k0, k1], p, o, l, a, b, c⟩ 10 :=
  ⟨by show 1 ≤ 2 ∧ 2 ≤ 8192; omega, by intro x hx; simp only [List.mem_cons, List.not_mem_nil, or_false] at hx; rcases hx with rfl | rfl <;> assumption, hp, by show p.length ≤ 10 ∧ (0 ≤ a ∧ a ≤ ((10 : Nat) : Int)) ∧ (0 ≤ b ∧ b ≤ ((10 : Nat) : Int)) ∧ (0 ≤ c ∧ c ≤ ((10 : Nat) : Int)); omega, by show -1 ≤ l ∧ l ≤ 9223372036854775807; omega⟩
theorem sec_bytes {ep nx : Int} {bd : List Int} (h : Bytes bd) : Bytes (secL ep nx bd) := by
  intro z hz
  unfold secL sec at hz
  rcases List.mem_append.1 hz with hz | hz
  · exact hd_bytes _ _ _ _ (by decide) h z hz
  · exact smZ_bytes _ z hz
def fA : List Int := frm smZ [97]
def fB : List Int := frm smZ [98]
theorem fA_len : fA.length = 9 := frm_length smZ (fun _ => rfl) [97]
def S1 : List Int := secL 1 1 (shB 0 0 fA)
def S2 : List Int := secL 1 2 (shB 0 0 (fA ++ fB))
theorem S1_len : S1.length = 1024 := secL_len _ _ _ (by unfold shB; simp only [List.length_append, be_length, fA_len]; omega)
theorem S2_len : S2.length = 1024 := secL_len _ _ _ (by
  have : fB.length = 9 := frm_length smZ (fun _ => rfl) [98]
  unfold shB
  simp only [List.length_append, be_length, fA_len, this]
  omega)
theorem one_bytes {z : Int} (h : 0 ≤ z ∧ z < 256) : Bytes [z] := by intro y hy; simp only [List.mem_singleton] at hy; omega
theorem S1_bytes : Bytes S1 := sec_bytes (shB_bytes (frm_bytes _ (one_bytes (z := 97) (by decide))))
def dA : Ds := ⟨[zZ2, zZ2], [], false, -1, 0, 0, 0⟩
def dB : Ds := ⟨[zZ2, zZ2], [], false, -1, 2, 0, 0⟩
def dC : Ds := ⟨[zZ2, zZ2], [(0, S1)], false, -1, 2, 1, 0⟩
def dD : Ds := ⟨[S1, zZ2], [], false, -1, 2, 1, 1⟩
def dE : Ds := ⟨[S1, zZ2], [(0, S2)], false, -1, 2, 2, 1⟩
def dF : Ds := ⟨[S1, zZ2], [], false, -1, 2, 2, 1⟩
def lA : Ls := ⟨0, 2, 1, 1, [], [], 0⟩
def lB : Ls := ⟨0, 2, 1, 2, fA, [1], 0⟩
def lC : Ls := ⟨0, 2, 1, 3, fA ++ fB, [2], 0⟩
theorem dA_rd : rdN dA 2 = dB := rfl
theorem opA : opI dA 0 1 2 = ⟨1, false, [], []⟩ := by
  have h0 : dA.now (0 + 0) = zZ2 := rfl
  have h1 : dA.now (0 + 1) = zZ2 := rfl
  show opStep 1 1 (dA.now (0 + 1)) (opStep 1 0 (dA.now (0 + 0)) ⟨1, true, [], []⟩) = _
  rw [h0, h1]
  have e : ∀ (i : Nat) (o : Lo.Os), opStep 1 i zZ2 o = ⟨o.nx, false, o.tm, o.sm⟩ := by
    intro i o
    unfold opStep opNx
    rw [zZ2_no, Bool.and_false, Bool.false_and]
    rfl
  rw [e, e]
theorem allF_nil : allF [] 0 = ([], 0, 0) := allF_end (Nat.le_refl _)
theorem openA : openL dA 0 2 1 = lA := by
  unfold openL used
  rw [opA]
  dsimp only
  rw [allF_nil]
  rfl
theorem appA : appL dB lA [97] = (dC, lB, 0) := by
  have := app_one (s := dB) (l := lA) (b := [97]) rfl rfl rfl rfl rfl rfl (by decide) (by decide) (by decide)
  rw [this]
  rfl
theorem syncB : syncL dC lB = (dD, lB, 0) := by
  have h : dC.do_ ⟨2, 0, [], true, []⟩ = (dD, [], 0) := do_fl rfl rfl
  unfold syncL
  rw [if_neg (by decide), h]
  rfl
theorem appB : appL dD lB [98] = (dE, lC, 0) := by
  have := app_one (s := dD) (l := lB) (b := [98]) rfl rfl rfl rfl rfl rfl (by rw [show lB.sm.length = 9 from fA_len]; decide) (by decide) (by decide)
  rw [this]
  rfl
theorem crashE : (dE.do_ ⟨4, 0, [], true, []⟩).1 = dF := by
  rw [do_cr]
  rfl
theorem opF : opI dF 0 1 2 = ⟨2, false, [1], fA⟩ := by
  have h0 : dF.now (0 + 0) = S1 := rfl
  have h1 : dF.now (0 + 1) = zZ2 := rfl
  show opStep 1 1 (dF.now (0 + 1)) (opStep 1 0 (dF.now (0 + 0)) ⟨1, true, [], []⟩) = _
  rw [h0, h1]
  obtain ⟨q1, q2, q3, q4, q5⟩ := okP_sec (ep := 1) (nx := 1) (i := 0) (p := 0) (ch := fA) (by decide) (by decide) (by rw [fA_len]; decide) (by rw [fA_len]; decide) (by decide) (by decide)
  have e0 : opStep 1 0 S1 ⟨1, true, [], []⟩ = ⟨2, true, [1], fA⟩ := by
    have hf : fol ⟨1, true, [], []⟩ 0 S1 = true := by
      unfold fol
      rw [if_neg, if_pos rfl]
      · exact decide_eq_true q4
      · rintro (h | h)
        · exact h q3
        · exact h rfl
    unfold opStep opNx
    rw [show okP S1 1 = true from q1, hf, show sB smZ S1 = 1 from q2, show pBy S1 = fA from q5]
    rfl
  have e : ∀ (i : Nat) (o : Lo.Os), opStep 1 i zZ2 o = ⟨o.nx, false, o.tm, o.sm⟩ := by
    intro i o
    unfold opStep opNx
    rw [zZ2_no, Bool.and_false, Bool.false_and]
    rfl
  rw [e0, e]
theorem recF : recs (opI dF 0 1 2).sm = [[97]] := by
  unfold recs
  rw [opF]
  show (allF (frm smZ [97]) 0).1 = [[97]]
  rw [recs_one (by decide)]
theorem one_of_map {bs : List Bo} {l : List Int} (h : bs.map Bo.l = [l]) : ∃ b, bs = [b] ∧ b.l = l := by
  cases bs with
  | nil => cases h
  | cons a t =>
    cases t with
    | nil =>
      injection h with h
      exact ⟨a, rfl, h⟩
    | cons b u =>
      injection h with _ h
      cases h
theorem awake22 (w : World) (ht : Tab w) : Calls Tryd.prog 7 #[] w fun e w' => e = .returned (.bool true) ∧ Ext w w' := by
  have hz2 := zZ2_len
  have hS1 := S1_len
  have hS2 := S2_len
  have hpC : ∀ x ∈ dC.pend, x.1 < 2 ∧ x.2.length = 1024 := by intro x hx; simp only [dC, List.mem_singleton] at hx; subst hx; exact ⟨by decide, hS1⟩
  have hpE : ∀ x ∈ dE.pend, x.1 < 2 ∧ x.2.length = 1024 := by intro x hx; simp only [dE, List.mem_singleton] at hx; subst hx; exact ⟨by decide, hS2⟩
  have okA : dA.Ok 10 := ok2S hz2 hz2 (by intro x hx; cases hx) (by decide) _ _ _ _ _ (by decide)
  have okB : dB.Ok 10 := ok2S hz2 hz2 (by intro x hx; cases hx) (by decide) _ _ _ _ _ (by decide)
  have okC : dC.Ok 10 := ok2S hz2 hz2 hpC (by decide) _ _ _ _ _ (by decide)
  have okD : dD.Ok 10 := ok2S hS1 hz2 (by intro x hx; cases hx) (by decide) _ _ _ _ _ (by decide)
  have okE : dE.Ok 10 := ok2S hS1 hz2 hpE (by decide) _ _ _ _ _ (by decide)
  have okF : dF.Ok 10 := ok2S hS1 hz2 (by intro x hx; cases hx) (by decide) _ _ _ _ _ (by decide)
  have byA : Byte dA := ⟨by intro x hx; simp only [dA, List.mem_cons, List.not_mem_nil, or_false, or_self] at hx; subst hx; exact zZ2_bytes, by intro x hx; cases hx⟩
  have byF : Byte dF := ⟨by intro x hx; simp only [dF, List.mem_cons, List.not_mem_nil, or_false] at hx; rcases hx with rfl | rfl; exact S1_bytes; exact zZ2_bytes, by intro x hx; cases hx⟩
  refine enter Tryd.func7 rfl (by kernel_rfl) ?_
  refine J.seq ?_
  refine J.region ?_
  refine L.va rfl (X.assign (by conv => lhs; whnf)) ?_
  refine L.nil ?_
  refine J.seq ?_
  refine J.region ?_
  refine L.call rfl en_8 rfl (new_ok 2 (by omega)) ?_
  rintro e w1 ⟨v, rfl, hv, k1, k2, k3, k4, k5, k6, k7, he1⟩
  refine ⟨_, rfl, ?_⟩
  have a1 : v.abs = dA := by
    unfold Dk.abs abs_
    rw [show v.kp.map (·.2) = v.dat from rfl, k7, k1, k2, k3, k4, k5, k6]
    rfl
  have hkl : v.kp.length = 2 := by rw [← v.klen, a1]; rfl
  have hlo := openL_ok (s := dA) byA (fr := 0) (ct := 2) (ep := 1) (by decide) (by decide) (by decide)
  have K1 := lopen hv (by rw [a1]; exact okA) (by omega) k1 (by rw [a1]; exact byA) (tabx ht he1) ht.size 0 2 (by omega) (by omega) (by omega) 1 (by omega)
  refine L.va rfl (X.move (by conv => lhs; whnf)) ?_
  refine L.va rfl (X.extract rfl rfl) ?_
  refine L.va rfl (X.extract rfl rfl) ?_
  refine L.va rfl (X.assign (by conv => lhs; whnf)) ?_
  refine L.va rfl (X.assign (by conv => lhs; whnf)) ?_
  refine L.nil ?_
  refine J.seq ?_
  refine J.region ?_
  refine L.va rfl (X.move (by conv => lhs; whnf)) ?_
  refine L.call rfl en_10 rfl (K1) ?_
  rintro e w2 ⟨G2, v2, A2, c2, bs2, rfl, O2⟩
  refine ⟨_, rfl, ?_⟩
  have a2 := O2.ab
  rw [a1, dA_rd] at a2
  have s2 := O2.st
  rw [a1, openA] at s2
  have B2 : Below w.heap.size w w2 := Below.trans he1 (hv.below O2.kq)
  have H2 := O2.at_
  have d2 := O2.d
  have kk2 := O2.kb
  refine L.va rfl (X.move (by conv => lhs; whnf)) ?_
  refine L.va rfl (X.extract rfl rfl) ?_
  refine L.va rfl (X.extract rfl rfl) ?_
  refine L.va rfl (X.extract rfl rfl) ?_
  refine L.va rfl (X.assign (by conv => lhs; whnf)) ?_
  refine L.va rfl (X.assign (by conv => lhs; whnf)) ?_
  refine L.va rfl (X.assign (by conv => lhs; whnf)) ?_
  refine L.nil ?_
  refine J.seq ?_
  refine J.region ?_
  refine L.va rfl (X.move (by conv => lhs; whnf)) ?_
  refine L.bslice (vs := [_]) rfl (Evs.cons (by conv => lhs; whnf) Evs.nil) rfl rfl rfl rfl Tryd.underlying39 sz_5 zr_5 (by decide) ?_
  intro b3 w3 hb3 hs3 hk3 he3
  refine L.mark rfl rfl (hk3) rfl Tryd.underlying39 Tryd.underlying5 ?_
  intro w4 hr4 hg4
  have he24 : Ext w2 w4 := he3.grw hg4 (by intro g hg; injection hg with hg; omega)
  have H4 := H2.ext he24
  have z4 := he24.le
  have hb3lt : b3 + 1 ≤ w4.heap.size := by have := hk3.lt; have := hg4.size; omega
  have hr4 : Reads w4 (b3 + 1) 1 (some ⟨b3, 0, none⟩) 1 (nums .u8 [97]) := hr4
  have K4 := lappend H4 (by rw [a2]; exact okB) (by omega) O2.ok (some ⟨b3, 0, none⟩) 1 1 [97] (hr4.more hb3lt) (one_bytes (by decide)) (by omega)
  rw [a2, s2, appA] at K4
  refine L.call rfl en_12 rfl (K4) ?_
  rintro e w5 ⟨rfl, G5, v5, H5, d5, kk5, a5, s5, ch5, g5⟩
  refine ⟨_, rfl, ?_⟩
  dsimp only at a5 s5
  have B5 := B2.trans (Below.trans (Below.mono he24 H2.hd.nsz) (H4.below ch5))
  have K5 := lsync H5 (by rw [a5]; exact okC) (by omega)
  rw [a5, s5, syncB, show G5.ptr = G2.ptr by unfold Lg.ptr; rw [g5.p]] at K5
  refine L.va rfl (X.assign (by conv => lhs; whnf)) ?_
  refine L.nil ?_
  refine J.seq ?_
  refine J.region ?_
  refine L.va rfl (X.move (by conv => lhs; whnf)) ?_
  refine L.call rfl en_15 rfl (K5) ?_
  rintro e w6 ⟨rfl, G6, v6, H6, d6, kk6, a6, s6, ch6, g6⟩
  refine ⟨_, rfl, ?_⟩
  dsimp only at a6 s6
  have B6 := B5.trans (H5.below ch6)
  have K6 := lused H6
  have hl9 : lB.sm.length = 9 := fA_len
  rw [s6, hl9, show G6.ptr = G2.ptr by unfold Lg.ptr; rw [g6.p, g5.p]] at K6
  refine L.va rfl (X.assign (by conv => lhs; whnf)) ?_
  refine L.nil ?_
  refine J.seq ?_
  refine J.region ?_
  refine L.va rfl (X.move (by conv => lhs; whnf)) ?_
  refine L.call rfl en_23 rfl (K6) ?_
  rintro e _ ⟨rfl, rfl⟩
  refine ⟨_, rfl, ?_⟩
  refine L.va rfl (X.assign (by conv => lhs; whnf)) ?_
  refine L.nil ?_
  refine J.seq ?_
  refine J.region ?_
  refine L.va rfl (X.move (by conv => lhs; whnf)) ?_
  refine L.bslice (vs := [_]) rfl (Evs.cons (by conv => lhs; whnf) Evs.nil) rfl rfl rfl rfl Tryd.underlying39 sz_5 zr_5 (by decide) ?_
  intro b7 w7 hb7 hs7 hk7 he7
  refine L.mark rfl rfl (hk7) rfl Tryd.underlying39 Tryd.underlying5 ?_
  intro w8 hr8 hg8
  have he68 : Ext w6 w8 := he7.grw hg8 (by intro g hg; injection hg with hg; omega)
  have H8 := H6.ext he68
  have hb7lt : b7 + 1 ≤ w8.heap.size := by have := hk7.lt; have := hg8.size; omega
  have hr8 : Reads w8 (b7 + 1) 1 (some ⟨b7, 0, none⟩) 1 (nums .u8 [98]) := hr8
  have hk66 : v6.kp.length = 2 := by rw [← v6.klen, a6]; rfl
  have hL6 : Lo.Ok lB v6.kp.length := by
    rw [hk66]
    refine ⟨by decide, by decide, by decide, by decide, by decide, frm_bytes _ (one_bytes (z := 97) (by decide)), by rw [hl9]; decide, fun _ => by rw [hl9]; rfl, ?_, by decide⟩
    intro x hx
    have hx : x ∈ [(1 : Int)] := hx
    simp only [List.mem_singleton] at hx
    omega
  have K8 := lappend H8 (by rw [a6]; exact okD) (by omega) (by rw [s6]; exact hL6) (some ⟨b7, 0, none⟩) 1 1 [98] (hr8.more hb7lt) (one_bytes (by decide)) (by omega)
  rw [a6, s6, appB, show G6.ptr = G2.ptr by unfold Lg.ptr; rw [g6.p, g5.p]] at K8
  refine L.call rfl en_12 rfl (K8) ?_
  rintro e w9 ⟨rfl, G9, v9, H9, d9, kk9, a9, s9, ch9, g9⟩
  refine ⟨_, rfl, ?_⟩
  dsimp only at a9 s9
  have B9 := B6.trans (Below.trans (Below.mono he68 H6.hd.nsz) (H8.below ch9))
  have ptr9 : v.ptr = v9.ptr := by unfold Dk.ptr; rw [d9, d6, d5, d2]
  have K9 := H9.hd.crash_anyF (by rw [a9]; exact okE) (by omega) ⟨4, 0, [], true, []⟩ rfl none 0 0 Reads.none_ (by omega)
  rw [a9, crashE, ← ptr9] at K9
  refine L.va rfl (X.assign (by conv => lhs; whnf)) ?_
  refine L.nil ?_
  refine J.seq ?_
  refine J.region ?_
  refine L.va rfl (X.move (by conv => lhs; whnf)) ?_
  refine L.call rfl en_17 rfl (K9) ?_
  rintro e w10 ⟨rfl, v10, p1, p2, p3, p4, p5, p6⟩
  refine ⟨_, rfl, ?_⟩
  have H10 := H9.disk p1 p2 p5 p6
  have B10 := B9.trans (H9.hd.below p5)
  have ptr10 : v.ptr = v10.ptr := by rw [ptr9]; unfold Dk.ptr; rw [p2]
  have hk10 : v10.kp.length = 2 := by rw [← v10.klen, p4]; rfl
  have of10 : v10.off = false := by have : v10.abs.off = dF.off := by rw [p4]
                                    exact this
  have K10 := lopen p1 (by rw [p4]; exact okF) (by omega) of10 (by rw [p4]; exact byF) H10.tab ht.size 0 2 (by omega) (by omega) (by omega) 1 (by omega)
  rw [← ptr10] at K10
  refine L.nil ?_
  refine J.seq ?_
  refine J.region ?_
  refine L.va rfl (X.move (by conv => lhs; whnf)) ?_
  refine L.call rfl en_10 rfl (K10) ?_
  rintro e w11 ⟨G11, v11, A11, c11, bs11, rfl, O11⟩
  refine ⟨_, rfl, ?_⟩
  have B11 := B10.trans (p1.below O11.kq)
  have r11 := O11.rec_
  rw [p4, recF] at r11
  obtain ⟨b, rfl, hbl⟩ := one_of_map r11
  have hrow := Reads.of_own O11.row
  have hel := own_reads (O11.els b (by simp))
  obtain ⟨bA, bc, bl⟩ := b
  dsimp only at hbl
  subst hbl
  rw [show ([Bo.mk bA bc [97]] : List Bo).length = 1 from rfl]
  have hA11 := hrow.some_ (show (0 : Nat) < 1 by decide)
  have ld : Ld w11 (pA A11 0) (.slice bA 1 bc) := Ld.rd hrow (j := 0) (show (0 : Nat) < 1 by decide)
  refine L.va rfl (X.move (by conv => lhs; whnf)) ?_
  refine L.va rfl (X.extract rfl rfl) ?_
  refine L.va rfl (X.extract rfl rfl) ?_
  refine L.va rfl (X.extract rfl rfl) ?_
  refine L.va rfl (X.assign (by conv => lhs; whnf)) ?_
  refine L.va rfl (X.assign (by conv => lhs; whnf)) ?_
  refine L.va rfl (X.assign (by conv => lhs; whnf)) ?_
  refine L.nil ?_
  refine J.seq ?_
  refine J.region ?_
  refine L.va rfl (X.move (by conv => lhs; whnf)) ?_
  refine L.va rfl (X.eql rfl rfl) ?_
  refine L.va rfl (X.move (by conv => lhs; whnf)) ?_
  refine L.caseDecT (k := 45) rfl (by rfl) ?_
  refine L.va rfl (X.move (by conv => lhs; whnf)) ?_
  refine L.va rfl (X.eql rfl rfl) ?_
  refine L.va rfl (X.pickT rfl (by conv => lhs; whnf)) ?_
  refine L.va rfl (X.move (by conv => lhs; whnf)) ?_
  refine L.caseDecT (k := 49) rfl (by rfl) ?_
  refine L.va rfl (X.move (by conv => lhs; whnf)) ?_
  refine L.va rfl (X.eql rfl rfl) ?_
  refine L.va rfl (X.pickT rfl (by conv => lhs; whnf)) ?_
  refine L.va rfl (X.move (by conv => lhs; whnf)) ?_
  refine L.caseDecT (k := 53) rfl (by rfl) ?_
  refine L.va rfl (X.move (by conv => lhs; whnf)) ?_
  refine L.va rfl (X.eql rfl rfl) ?_
  refine L.va rfl (X.pickT rfl (by conv => lhs; whnf)) ?_
  refine L.va rfl (X.move (by conv => lhs; whnf)) ?_
  refine L.caseDecT (k := 57) rfl (by rfl) ?_
  refine L.va rfl (X.move (by conv => lhs; whnf)) ?_
  refine L.va rfl (X.eql rfl rfl) ?_
  refine L.va rfl (X.pickT rfl (by conv => lhs; whnf)) ?_
  refine L.va rfl (X.move (by conv => lhs; whnf)) ?_
  refine L.caseDecT (k := 61) rfl (by rfl) ?_
  refine L.va rfl (X.move (by conv => lhs; whnf)) ?_
  refine L.va rfl (X.len rfl Tryd.underlying30) ?_
  refine L.va rfl (X.eql rfl rfl) ?_
  refine L.va rfl (X.pickT rfl (by conv => lhs; whnf)) ?_
  refine L.va rfl (X.move (by conv => lhs; whnf)) ?_
  refine L.caseDecT (k := 66) rfl (by rfl) ?_
  refine L.va rfl (X.move (by conv => lhs; whnf)) ?_
  refine L.va rfl (X.index1n (j := 0) rfl rfl Tryd.underlying30 sz_39 (by first | exact Option.some_ne_none _ | exact hA11 | exact ld) (by omega)) ?_
  refine L.va rfl (X.load rfl sc_39 (by first | exact hA11 | exact ld)) ?_
  refine L.va rfl (X.conv rfl (hel.conv Tryd.underlying39 Tryd.underlying5 Tryd.underlying9)) ?_
  refine L.va rfl (X.eqlS rfl rfl) ?_
  refine L.va rfl (X.pickT rfl (by conv => lhs; whnf)) ?_
  refine L.va rfl (X.move (by conv => lhs; whnf)) ?_
  refine L.caseDecT (k := 73) rfl (by rfl) ?_
  refine L.va rfl (X.move (by conv => lhs; whnf)) ?_
  refine L.va rfl (X.eql rfl rfl) ?_
  refine L.va rfl (X.pickT rfl (by conv => lhs; whnf)) ?_
  refine L.va rfl (X.assign (by conv => lhs; whnf)) ?_
  refine L.nil ?_
  refine J.ret ?_
  refine fin1 ?_
  exact ⟨rfl, B11⟩
end Go.Proofs.YtjdimgigbgafbaaDoor
namespace Go.Proofs.YtjdimgigbgafbaaDoor
set_option maxRecDepth 100000
open Byts Seal Fram
set_option linter.unusedVariables false
namespace Lo
def kp (s : Ds) (fr : Nat) : Nat → List Int := fun j => s.kept.getD (fr + j) []
def nw (s : Ds) (fr : Nat) : Nat → List Int := fun j => s.now (fr + j)
theorem nowI_cases (ks : List (List Int)) (ps : List (Nat × List Int)) (a : Nat) : ∀ i, i ≤ ps.length → nowI ks [] ps a i = ks.getD a [] ∨ ∃ x ∈ ps, x.1 = a ∧ nowI ks [] ps a i = x.2
  | 0, _ => .inl rfl
  | i + 1, hi => by
    have hp : ps.getD i (0, []) ∈ ps := by
      have : ps.getD i (0, []) = ps[i] := by simp [List.getD, show i < ps.length by omega]
      rw [this]
      exact List.getElem_mem _
    unfold nowI
    split
    · rename_i h
      exact .inr ⟨_, hp, h, rfl⟩
    · exact nowI_cases ks ps a i (by omega)
theorem keI_cases (f : Nat → Bool) (ks : List (List Int)) (ps : List (Nat × List Int)) (s : Nat) : ∀ i, i ≤ ps.length → (keI f ks [] ps i).getD s [] = ks.getD s [] ∨ ∃ p ∈ ps, p.1 = s ∧ (keI f ks [] ps i).getD s [] = p.2
  | 0, _ => .inl rfl
  | i + 1, hi => by
    have ih := keI_cases f ks ps s i (by omega)
    have hp : ps.getD i (0, []) ∈ ps := by
      have : ps.getD i (0, []) = ps[i] := by simp [List.getD, show i < ps.length by omega]
      rw [this]
      exact List.getElem_mem _
    unfold keI
    split
    · by_cases hs : (ps.getD i (0, [])).1 = s
      · by_cases hl : s < (keI f ks [] ps i).length
        · refine .inr ⟨_, hp, hs, ?_⟩
          rw [List.getD, List.getElem?_set, if_pos hs, if_pos (by omega)]
          rfl
        · rw [List.set_eq_of_length_le (by omega)]
          exact ih
      · rw [List.getD, List.getElem?_set, if_neg hs]
        exact ih
    · exact ih
theorem keI_all (ks : List (List Int)) (ps : List (Nat × List Int)) (a : Nat) (ha : a < ks.length) : ∀ i, (keI (fun _ => true) ks [] ps i).getD a [] = nowI ks [] ps a i
  | 0 => rfl
  | i + 1 => by
    have ih := keI_all ks ps a ha i
    unfold keI nowI
    rw [if_pos rfl]
    by_cases hs : (ps.getD i (0, [])).1 = a
    · rw [if_pos hs, List.getD, List.getElem?_set, if_pos hs, if_pos (by rw [keI_length]; omega)]
      rfl
    · rw [if_neg hs, List.getD, List.getElem?_set, if_neg hs]
      exact ih
theorem nowI_app (ks : List (List Int)) (ps : List (Nat × List Int)) (y : Nat × List Int) (a : Nat) : ∀ i, i ≤ ps.length → nowI ks [] (ps ++ [y]) a i = nowI ks [] ps a i
  | 0, _ => rfl
  | i + 1, hi => by
    have e : (ps ++ [y]).getD i (0, []) = ps.getD i (0, []) := by rw [List.getD, List.getD, List.getElem?_append_left (by omega)]
    unfold nowI
    rw [e, nowI_app ks ps y a i (by omega)]
theorem now_push {s s' : Ds} {b : Nat} {z : List Int} (h1 : s'.kept = s.kept) (h2 : s'.pend = s.pend ++ [(b, z)]) (a : Nat) : s'.now a = if b = a then z else s.now a := by
  unfold Ds.now
  rw [h1, h2, List.length_append]
  show nowI s.kept [] (s.pend ++ [(b, z)]) a (s.pend.length + 1) = _
  have e : (s.pend ++ [(b, z)]).getD s.pend.length (0, []) = (b, z) := by rw [List.getD, List.getElem?_append_right (Nat.le_refl _), Nat.sub_self]; rfl
  rw [show nowI s.kept [] (s.pend ++ [(b, z)]) a (s.pend.length + 1) = if ((s.pend ++ [(b, z)]).getD s.pend.length (0, [])).1 = a then ((s.pend ++ [(b, z)]).getD s.pend.length (0, [])).2 else nowI s.kept [] (s.pend ++ [(b, z)]) a s.pend.length from rfl, e, nowI_app _ _ _ _ _ (Nat.le_refl _)]
structure Inv (fr ct : Nat) (ep : Int) (s : Ds) (l : Ls) (r0 rs : List (List Int)) (nx0 : Int) : Prop where
  e1 : l.fr = fr
  e2 : l.ct = ct
  e3 : l.ep = ep
  kl : fr + ct ≤ s.kept.length
  bas : Bas ct ep (kp s fr) r0 nx0
  sm : l.sm = frs rs
  pre : r0 <+: rs
  sz : ∀ b ∈ rs, b.length ≤ 60000
  pd : ∀ x ∈ s.pend, ∃ j, x.1 = fr + j ∧ Wrt fr ct ep (kp s fr) (frs rs) (frs r0).length nx0 l.nx j x.2
  nx : nx0 ≤ l.nx
  tm : ∀ t ∈ l.tm, 0 ≤ t ∧ t < l.nx
  live : l.bad = 0 → l.sm <+: (opK (nw s fr) ep ct).sm ∧ l.tm = (opK (nw s fr) ep ct).tm.take ((l.sm.length + 990) / 991) ∧ ((frs r0).length < l.sm.length → ∀ i, (frs r0).length / 991 ≤ i → i < l.tm.length → nx0 ≤ l.tm.getD i 0)
  bd : l.bad = 0 ∨ l.bad = 14
section
variable {fr ct : Nat} {ep : Int} {s s' : Ds} {l : Ls} {r0 rs : List (List Int)} {nx0 : Int}
theorem nw_same (h1 : s'.kept = s.kept) (h2 : s'.pend = s.pend) : nw s' fr = nw s fr := by
  funext j
  unfold nw Ds.now
  rw [h1, h2]
theorem kp_same (h1 : s'.kept = s.kept) : kp s' fr = kp s fr := by
  funext j
  unfold kp
  rw [h1]
theorem nw_kp (h : s.pend = []) : nw s fr = kp s fr := by
  funext j
  unfold nw kp Ds.now
  rw [h]
  rfl
theorem Inv.same (h : Inv fr ct ep s l r0 rs nx0) (h1 : s'.kept = s.kept) (h2 : s'.pend = s.pend) : Inv fr ct ep s' l r0 rs nx0 := by
  refine ⟨h.e1, h.e2, h.e3, by rw [h1]; exact h.kl, by rw [kp_same h1]; exact h.bas, h.sm, h.pre, h.sz, by rw [kp_same h1, h2]; exact h.pd, h.nx, h.tm, by rw [nw_same h1 h2]; exact h.live, h.bd⟩
theorem Inv.nw_or (h : Inv fr ct ep s l r0 rs nx0) (j : Nat) : nw s fr j = kp s fr j ∨ Wrt fr ct ep (kp s fr) (frs rs) (frs r0).length nx0 l.nx j (nw s fr j) := by
  rcases nowI_cases s.kept s.pend (fr + j) s.pend.length (Nat.le_refl _) with h1 | ⟨x, hx, h1, h2⟩
  · exact .inl h1
  · obtain ⟨j', h3, h4⟩ := h.pd x hx
    obtain rfl : j' = j := by omega
    right
    show Wrt fr ct ep (kp s fr) (frs rs) (frs r0).length nx0 l.nx j' (nowI s.kept [] s.pend (fr + j') s.pend.length)
    rw [h2]
    exact h4
theorem Inv.ke_or (h : Inv fr ct ep s l r0 rs nx0) (f : Nat → Bool) (j : Nat) : (keI f s.kept [] s.pend s.pend.length).getD (fr + j) [] = kp s fr j ∨ Wrt fr ct ep (kp s fr) (frs rs) (frs r0).length nx0 l.nx j ((keI f s.kept [] s.pend s.pend.length).getD (fr + j) []) := by
  rcases keI_cases f s.kept s.pend (fr + j) s.pend.length (Nat.le_refl _) with h1 | ⟨x, hx, h1, h2⟩
  · exact .inl h1
  · obtain ⟨j', h3, h4⟩ := h.pd x hx
    obtain rfl : j' = j := by omega
    right
    rw [h2]
    exact h4
theorem open_inv (hp : s.pend = []) (hk : fr + ct ≤ s.kept.length) {t : List Int} (hb : ∀ j < ct, Bytes (kp s fr j)) (hc : Cuts (opK (kp s fr) ep ct).sm rs t) (hl : ∀ j < ct, okP (kp s fr j) ep = true → pPrev (kp s fr j) < sB smZ (kp s fr j)) :
    Inv fr ct ep s (openL s fr ct ep) rs rs (opK (kp s fr) ep ct).nx ∧ recs (opI s fr ep ct).sm = rs := by
  have eI : opI s fr ep ct = opK (kp s fr) ep ct := by
    rw [opI_K]
    show opK (nw s fr) ep ct = _
    rw [nw_kp hp]
  have hn := opK_nx (K := kp s fr) (ep := ep) (n := ct)
  have ho := opK_ok (K := kp s fr) (ep := ep) (n := ct) hb
  have es : (openL s fr ct ep).sm = frs rs := by
    show (opI s fr ep ct).sm.take (used (opI s fr ep ct).sm) = _
    rw [eI]
    exact hc.take
  have et : (openL s fr ct ep).tm = (opK (kp s fr) ep ct).tm.take (((frs rs).length + 990) / 991) := by
    show (opI s fr ep ct).tm.take ((used (opI s fr ep ct).sm + 990) / 991) = _
    rw [eI, hc.rec_.2]
  have en : (openL s fr ct ep).nx = (opK (kp s fr) ep ct).nx := by
    show (opI s fr ep ct).nx = _
    rw [eI]
  refine ⟨⟨rfl, rfl, rfl, hk, ⟨hb, ⟨t, hc⟩, fun j hj hk => ⟨hl j hj hk, hn.2 j hj hk⟩, hn.1⟩, es, List.prefix_refl _, hc.s, ?_, ?_, ?_, ?_, .inl rfl⟩, by rw [eI]; exact hc.rec_.1⟩
  · rw [hp]
    intro x hx
    cases hx
  · rw [en]; exact Int.le_refl _
  · rw [et, en]
    intro u hu
    have hu := List.mem_of_mem_take hu
    obtain ⟨j, h1, h2, h3⟩ := opK_tm u hu
    exact ⟨(ho.tt u hu).1, by rw [h3]; exact hn.2 j h1 h2⟩
  · intro _
    rw [nw_kp hp, es, et]
    refine ⟨?_, rfl, fun hlt => absurd hlt (Nat.lt_irrefl _)⟩
    rw [hc.e]
    exact List.prefix_append _ _
theorem Inv.crash (h : Inv fr ct ep s l r0 rs nx0) (f : Nat → Bool) (h1 : s'.kept = keI f s.kept [] s.pend s.pend.length) (h2 : s'.pend = []) :
    ∃ r' nx', r0 <+: r' ∧ r' <+: rs ∧ recs (opI s' fr ep ct).sm = r' ∧ Inv fr ct ep s' (openL s' fr ct ep) r' r' nx' := by
  have ek : ∀ j, kp s' fr j = (keI f s.kept [] s.pend s.pend.length).getD (fr + j) [] := fun j => by unfold kp; rw [h1]
  have ho : ∀ j < ct, kp s' fr j = kp s fr j ∨ Wrt fr ct ep (kp s fr) (frs rs) (frs r0).length nx0 l.nx j (kp s' fr j) := fun j _ => by rw [ek]; exact h.ke_or f j
  obtain ⟨r', t', k1, k2, k3, _⟩ := crash_cuts h.bas h.pre h.sz ho
  have hI := open_inv (s := s') (fr := fr) (ct := ct) (ep := ep) h2 (by rw [h1, keI_length]; exact h.kl) (fun j hj => (ho j hj).elim (fun e => by rw [e]; exact h.bas.by_ j hj) (fun W => W.by_)) k3 (fun j hj hk => (ho j hj).elim (fun e => by rw [e] at hk ⊢; exact (h.bas.lt j hj hk).1) (fun W => W.pr))
  exact ⟨r', _, k1, k2, hI.2, hI.1⟩
theorem Inv.flush (h : Inv fr ct ep s l r0 rs nx0) (hb : l.bad = 0) (h1 : s'.kept = keI (fun _ => true) s.kept [] s.pend s.pend.length) (h2 : s'.pend = []) : Inv fr ct ep s' l rs rs l.nx := by
  have ek : ∀ j < ct, kp s' fr j = nw s fr j := fun j hj => by
    unfold kp nw Ds.now
    rw [h1, keI_all _ _ _ (by have := h.kl; omega)]
  have eo : opK (kp s' fr) ep ct = opK (nw s fr) ep ct := opK_same ek
  obtain ⟨l1, l2, l3⟩ := h.live hb
  obtain ⟨r', t', k1, k2, k3, k4⟩ := crash_cuts h.bas h.pre h.sz (fun j _ => h.nw_or j)
  obtain rfl : r' = rs := k4 (by rw [← h.sm]; exact l1)
  have hn1 := h.bas.n1
  have hnx := h.nx
  refine ⟨h.e1, h.e2, h.e3, by rw [h1, keI_length]; exact h.kl, ⟨fun j hj => ?_, ⟨t', by rw [eo]; exact k3⟩, fun j hj hk => ?_, by omega⟩, h.sm, List.prefix_refl _, h.sz, ?_, Int.le_refl _, h.tm, fun _ => ?_, h.bd⟩
  · rw [ek j hj]
    exact (h.nw_or j).elim (fun e => by rw [e]; exact h.bas.by_ j hj) (fun W => W.by_)
  · rw [ek j hj] at hk ⊢
    rcases h.nw_or j with e | W
    · rw [e] at hk ⊢
      have := h.bas.lt j hj hk
      omega
    · exact ⟨W.pr, W.t1⟩
  · rw [h2]
    intro x hx
    cases hx
  · rw [nw_kp h2, eo]
    refine ⟨l1, l2, fun hlt => ?_⟩
    rw [h.sm] at hlt
    exact absurd hlt (Nat.lt_irrefl _)
theorem Inv.sick (h : Inv fr ct ep s l r0 rs nx0) : Inv fr ct ep s { l with bad := 14 } r0 rs nx0 :=
  ⟨h.e1, h.e2, h.e3, h.kl, h.bas, h.sm, h.pre, h.sz, h.pd, h.nx, h.tm, fun hb => absurd (show (14 : Int) = 0 from hb) (by decide), .inr rfl⟩
theorem do_2 (s : Ds) : ((s.do_ ⟨2, 0, [], true, []⟩).2.2 = 14 ∧ (s.do_ ⟨2, 0, [], true, []⟩).1.kept = s.kept ∧ (s.do_ ⟨2, 0, [], true, []⟩).1.pend = s.pend) ∨ ((s.do_ ⟨2, 0, [], true, []⟩).2.2 = 0 ∧ (s.do_ ⟨2, 0, [], true, []⟩).1.kept = keI (fun _ => true) s.kept [] s.pend s.pend.length ∧ (s.do_ ⟨2, 0, [], true, []⟩).1.pend = []) := by
  unfold Ds.do_
  rw [if_neg (show ¬ (2 : Int) = 3 by decide), if_neg (show ¬ (2 : Int) = 4 by decide)]
  split
  · exact .inl ⟨rfl, rfl, rfl⟩
  · rw [if_neg (show ¬ ((2 : Int) ≠ 2 ∧ _) from fun h => h.1 rfl), if_neg (show ¬ (2 : Int) = 0 by decide), if_neg (show ¬ ((2 : Int) = 1 ∧ _) from fun h => absurd h.1 (by decide))]
    split
    · exact .inl ⟨rfl, rfl, rfl⟩
    · exact .inr ⟨rfl, rfl, rfl⟩
theorem do_1 (s : Ds) (a : Nat) (b : List Int) (ha : a < s.kept.length) (hb : b.length = 1024) : ((s.do_ ⟨1, (a : Int), b, true, []⟩).2.2 = 14 ∧ (s.do_ ⟨1, (a : Int), b, true, []⟩).1.kept = s.kept ∧ (s.do_ ⟨1, (a : Int), b, true, []⟩).1.pend = s.pend) ∨ ((s.do_ ⟨1, (a : Int), b, true, []⟩).2.2 = 0 ∧ (s.do_ ⟨1, (a : Int), b, true, []⟩).1.kept = s.kept ∧ (s.do_ ⟨1, (a : Int), b, true, []⟩).1.pend = s.pend ++ [(a, b)]) := by
  unfold Ds.do_
  rw [if_neg (show ¬ (1 : Int) = 3 by decide), if_neg (show ¬ (1 : Int) = 4 by decide)]
  split
  · exact .inl ⟨rfl, rfl, rfl⟩
  · rw [if_neg, if_neg (show ¬ (1 : Int) = 0 by decide), if_neg]
    · split
      · exact .inl ⟨rfl, rfl, rfl⟩
      · rw [if_pos (show (1 : Int) = 1 from rfl)]
        refine .inr ⟨rfl, rfl, ?_⟩
        rfl
    · rintro ⟨_, h⟩
      exact h hb
    · rintro ⟨_, h | h⟩
      · have h : (a : Int) < 0 := h
        omega
      · have h : (s.kept.length : Int) ≤ (a : Int) := h
        omega
theorem Inv.sync (h : Inv fr ct ep s l r0 rs nx0) : ∃ nx', Inv fr ct ep (syncL s l).1 (syncL s l).2.1 (if (syncL s l).2.2 = 0 then rs else r0) rs nx' ∧ ((syncL s l).2.1.bad ≠ 0 ↔ l.bad ≠ 0 ∨ (syncL s l).2.2 = 14) ∧ ((syncL s l).2.2 = 0 ∨ (syncL s l).2.2 = 14) := by
  unfold syncL
  by_cases hb : l.bad = 0
  · rw [if_neg (by omega)]
    dsimp only
    rcases do_2 s with ⟨h1, h2, h3⟩ | ⟨h1, h2, h3⟩
    · rw [h1, if_neg (by decide)]
      exact ⟨nx0, (h.same h2 h3).sick, ⟨fun _ => .inr rfl, fun _ => by decide⟩, .inr rfl⟩
    · rw [h1, if_pos rfl]
      have := h.flush hb h2 h3
      refine ⟨l.nx, ?_, ⟨fun h => absurd rfl h, fun h => ?_⟩, .inl rfl⟩
      · have e : ({ l with bad := 0 } : Ls) = l := by cases l; cases hb; rfl
        rw [e]
        exact this
      · rcases h with h | h
        · exact absurd hb h
        · cases h
  · rw [if_pos hb]
    have hbb := h.bd
    have hb2 : l.bad = 14 := by omega
    dsimp only
    rw [hb2, if_neg (by decide)]
    exact ⟨nx0, h, ⟨fun _ => .inl (by decide), fun _ => by decide⟩, .inr rfl⟩
end
end Lo
end Go.Proofs.YtjdimgigbgafbaaDoor
namespace Go.Proofs.YtjdimgigbgafbaaDoor
set_option maxRecDepth 100000
open Byts Seal Fram
set_option linter.unusedVariables false
namespace Lo
theorem Wrt.grow {fr ct : Nat} {ep : Int} {K0 : Nat → List Int} {F : List Int} {n0 : Nat} {nx0 nx nx' : Int} {j : Nat} {z : List Int} (W : Wrt fr ct ep K0 F n0 nx0 nx j z) (x : List Int) (hn : nx ≤ nx') : Wrt fr ct ep K0 (F ++ x) n0 nx0 nx' j z := by
  obtain ⟨n, h1, h2, h3, h4⟩ := W.ch
  have t1 := W.t1
  refine ⟨W.lo, W.hi, W.by_, W.ok, W.at_, W.t0, by omega, W.pr, ⟨n, ?_, h2, by rw [List.length_append]; omega, h4⟩, W.p0, W.p1⟩
  rw [h1, List.drop_append_of_le_length (by omega), List.take_append_of_le_length (by rw [List.length_drop]; omega)]
theorem Wrt.later {fr ct : Nat} {ep : Int} {K0 : Nat → List Int} {F : List Int} {n0 : Nat} {nx0 nx nx' : Int} {j : Nat} {z : List Int} (W : Wrt fr ct ep K0 F n0 nx0 nx j z) (hn : nx ≤ nx') : Wrt fr ct ep K0 F n0 nx0 nx' j z := by
  have t1 := W.t1
  exact ⟨W.lo, W.hi, W.by_, W.ok, W.at_, W.t0, by omega, W.pr, W.ch, W.p0, W.p1⟩
structure Mid (fr ct : Nat) (ep : Int) (s : Ds) (l : Ls) (r0 rs : List (List Int)) (nx0 : Int) (st j : Nat) : Prop where
  e1 : l.fr = fr
  e2 : l.ct = ct
  e3 : l.ep = ep
  kl : fr + ct ≤ s.kept.length
  bas : Bas ct ep (kp s fr) r0 nx0
  sm : l.sm = frs rs
  sb : Bytes l.sm
  pre : r0 <+: rs
  sz : ∀ b ∈ rs, b.length ≤ 60000
  pd : ∀ x ∈ s.pend, ∃ j, x.1 = fr + j ∧ Wrt fr ct ep (kp s fr) (frs rs) (frs r0).length nx0 l.nx j x.2
  nx : nx0 ≤ l.nx
  tm : ∀ t ∈ l.tm, 0 ≤ t ∧ t < l.nx
  bad : l.bad = 0
  ch : (opK (nw s fr) ep j).ch = true
  smj : (opK (nw s fr) ep j).sm = (frs rs).take (j * 991)
  tmj : (opK (nw s fr) ep j).tm = l.tm.take j
  tl : (opK (nw s fr) ep j).tm.length = j
  tl2 : st < j → l.tm.length = j
  new : ∀ i, (frs r0).length / 991 ≤ i → i < j → nx0 ≤ l.tm.getD i 0
section
variable {fr ct : Nat} {ep : Int} {s s' : Ds} {l : Ls} {r0 rs : List (List Int)} {nx0 : Int} {st j : Nat}
theorem Mid.sick (h : Mid fr ct ep s l r0 rs nx0 st j) (h1 : s'.kept = s.kept) (h2 : s'.pend = s.pend) : Inv fr ct ep s' { l with bad := 14 } r0 rs nx0 :=
  Inv.same (s := s) ⟨h.e1, h.e2, h.e3, h.kl, h.bas, h.sm, h.pre, h.sz, h.pd, h.nx, h.tm, fun hb => absurd (show (14 : Int) = 0 from hb) (by decide), .inr rfl⟩ h1 h2
theorem getD_take {l : List Int} {i j : Nat} (h : i < j) : (l.take j).getD i 0 = l.getD i 0 := by
  rw [List.getD, List.getD, List.getElem?_take, if_pos h]
theorem Mid.step (h : Mid fr ct ep s l r0 rs nx0 st j) (hep : 0 ≤ ep ∧ ep ≤ 18446744073709551615) (hct : ct ≤ 65000) (hj : j < ct) (hst : st ≤ j) (hlt : j * 991 < (frs rs).length) (hk : (frs r0).length / 991 ≤ j) (h0 : (frs r0).length < (frs rs).length) (h1 : (frs r0).length < (j + 1) * 991) (hnx : l.nx < 4611686018427387904) :
    ((wrL s l j).2.2 = 0 ∧ Mid fr ct ep (wrL s l j).1 (wrL s l j).2.1 r0 rs nx0 st (j + 1) ∧ (wrL s l j).2.1.nx = l.nx + 1) ∨ ((wrL s l j).2.2 = 14 ∧ Inv fr ct ep (wrL s l j).1 { (wrL s l j).2.1 with bad := 14 } r0 rs nx0) := by
  have hn1 := h.bas.n1
  have hn2 := h.nx
  have htl : j ≤ l.tm.length := by
    have h2 := h.tl
    rw [h.tmj, List.length_take] at h2
    omega
  have hp : 0 ≤ prevL l j ∧ prevL l j < l.nx ∧ (0 < j → prevL l j ∈ l.tm) := by
    unfold prevL
    by_cases hj0 : j = 0
    · rw [if_pos hj0]; exact ⟨Int.le_refl _, by omega, fun h => by omega⟩
    · rw [if_neg hj0]
      have hm : l.tm.getD (j - 1) 0 ∈ l.tm := by
        rw [List.getD, List.getElem?_eq_getElem (by omega)]
        exact List.getElem_mem _
      exact ⟨(h.tm _ hm).1, (h.tm _ hm).2, fun _ => hm⟩
  have hpT : prevL l j = prevT (opK (nw s fr) ep j) j := by
    unfold prevL prevT
    by_cases hj0 : j = 0
    · rw [if_pos hj0, if_pos hj0]
    · rw [if_neg hj0, if_neg hj0, h.tmj, getD_take (by omega)]
  have hcl : (chunk l j).length = min 991 ((frs rs).length - j * 991) := by unfold chunk; rw [List.length_take, List.length_drop, h.sm]
  obtain ⟨k1, k2, k3, k4, k5⟩ := okP_sec (ep := ep) (nx := l.nx) (i := j) (p := prevL l j) (ch := chunk l j) hep ⟨by omega, hnx⟩ (by omega) (by omega) (by omega) ⟨hp.1, by omega⟩
  have hbl : (shB j (prevL l j) (chunk l j)).length ≤ 1001 := by unfold shB; simp only [List.length_append, be_length]; omega
  have hzl : (secL l.ep l.nx (shB j (prevL l j) (chunk l j))).length = 1024 := secL_len _ _ _ hbl
  obtain ⟨z, hz⟩ : ∃ z, z = secL l.ep l.nx (shB j (prevL l j) (chunk l j)) := ⟨_, rfl⟩
  have hzb : Bytes z := by
    rw [hz]
    refine sec_bytes (shB_bytes ?_)
    unfold chunk
    exact fun y hy => h.sb y (List.mem_of_mem_drop (List.mem_of_mem_take hy))
  rw [← h.e3, ← hz] at k1 k2 k3 k4 k5
  rw [h.e3] at k1
  have hkl := h.kl
  have hD := do_1 s (fr + j) z (by omega) (by rw [hz]; exact hzl)
  have eW : wrL s l j = (let r := s.do_ ⟨1, ((fr + j : Nat) : Int), z, true, []⟩; (r.1, if r.2.2 = 0 then { l with tm := l.tm.take j ++ [l.nx], nx := l.nx + 1 } else l, r.2.2)) := by
    unfold wrL
    rw [← hz, h.e1]
  rw [eW]
  dsimp only
  rcases hD with ⟨d1, d2, d3⟩ | ⟨d1, d2, d3⟩
  · rw [d1, if_neg (by decide)]
    exact .inr ⟨rfl, h.sick d2 d3⟩
  · rw [d1, if_pos rfl]
    refine .inl ⟨rfl, ?_, rfl⟩
    obtain ⟨s1, hs1⟩ : ∃ s1, s1 = (s.do_ ⟨1, ((fr + j : Nat) : Int), z, true, []⟩).1 := ⟨_, rfl⟩
    rw [← hs1] at d2 d3 ⊢
    have en : ∀ i, nw s1 fr i = if i = j then z else nw s fr i := fun i => by
      show s1.now (fr + i) = _
      rw [now_push d2 d3]
      by_cases hi : i = j
      · rw [if_pos (by omega), if_pos hi]
      · rw [if_neg (by omega), if_neg hi]
        rfl
    have ej : opK (nw s1 fr) ep j = opK (nw s fr) ep j := opK_same fun i hi => by rw [en, if_neg (by omega)]
    have ez : nw s1 fr j = z := by rw [en, if_pos rfl]
    have hsl : (opK (nw s fr) ep j).sm.length = j * 991 := by rw [h.smj, List.length_take]; omega
    have hc : ((opK (nw s1 fr) ep j).ch && okP (nw s1 fr j) ep && fol (opK (nw s1 fr) ep j) j (nw s1 fr j)) = true := by
      rw [step3, ej, ez, fol_iff]
      exact ⟨h.ch, k1, k3, hsl, by rw [k4, hpT]⟩
    obtain ⟨q1, q2, q3⟩ := opStep_yes hc
    have ekp : kp s1 fr = kp s fr := kp_same d2
    have W : Wrt fr ct ep (kp s fr) (frs rs) (frs r0).length nx0 (l.nx + 1) j z := by
      refine ⟨hk, hj, hzb, k1, k3, by rw [k2]; exact hn2, by rw [k2]; omega, by rw [k4, k2]; exact hp.2.1, ⟨min 991 ((frs rs).length - j * 991), ?_, by omega, by omega, by omega⟩, fun hjk => ?_, fun hjk => ?_⟩
      · rw [k5]
        unfold chunk
        rw [h.sm, List.take_eq_take_min, List.length_drop]
      · rw [k4, hpT]
        have : opK (nw s fr) ep j = opK (kp s fr) ep j := opK_same fun i hi => by
          rcases nowI_cases s.kept s.pend (fr + i) s.pend.length (Nat.le_refl _) with c1 | ⟨x, hx, c1, c2⟩
          · exact c1
          · obtain ⟨j', c3, c4⟩ := h.pd x hx
            have := c4.lo
            omega
        rw [this]
      · rw [k4]
        unfold prevL
        rw [if_neg (by omega)]
        exact h.new (j - 1) (by omega) (by omega)
    have htk : (l.tm.take j).length = j := by rw [List.length_take]; omega
    refine ⟨h.e1, h.e2, h.e3, by rw [d2]; exact h.kl, by rw [ekp]; exact h.bas, h.sm, h.sb, h.pre, h.sz, ?_, by show nx0 ≤ l.nx + 1; omega, ?_, h.bad, ?_, ?_, ?_, ?_, ?_, ?_⟩
    · rw [ekp, d3]
      intro x hx
      rcases List.mem_append.1 hx with hx | hx
      · obtain ⟨j', c1, c2⟩ := h.pd x hx
        exact ⟨j', c1, c2.later (by show l.nx ≤ l.nx + 1; omega)⟩
      · obtain rfl : x = (fr + j, z) := by simpa using hx
        exact ⟨j, rfl, W⟩
    · intro t ht
      show 0 ≤ t ∧ t < l.nx + 1
      rcases List.mem_append.1 ht with ht | ht
      · have := h.tm t (List.mem_of_mem_take ht)
        omega
      · obtain rfl : t = l.nx := by simpa using ht
        omega
    · exact q1
    · show (opStep ep j (nw s1 fr j) (opK (nw s1 fr) ep j)).sm = _
      rw [q3, ej, ez, h.smj, k5]
      unfold chunk
      rw [h.sm, take_add, Nat.add_mul, Nat.one_mul]
    · show (opStep ep j (nw s1 fr j) (opK (nw s1 fr) ep j)).tm = (l.tm.take j ++ [l.nx]).take (j + 1)
      rw [q2, ej, ez, h.tmj, k2, List.take_of_length_le (l := l.tm.take j ++ [l.nx]) (by rw [List.length_append, htk]; exact Nat.le_refl _)]
    · show (opStep ep j (nw s1 fr j) (opK (nw s1 fr) ep j)).tm.length = j + 1
      rw [q2, ej, List.length_append, h.tl]
      rfl
    · intro _
      show (l.tm.take j ++ [l.nx]).length = j + 1
      rw [List.length_append, htk]
      rfl
    · intro i hi hij
      show nx0 ≤ (l.tm.take j ++ [l.nx]).getD i 0
      by_cases hi2 : i = j
      · rw [List.getD, List.getElem?_append_right (by omega), htk, hi2, Nat.sub_self]
        exact hn2
      · rw [getD_left (by omega), getD_take (by omega)]
        exact h.new i hi (by omega)
theorem Mid.all (hep : 0 ≤ ep ∧ ep ≤ 18446744073709551615) (hct : ct ≤ 65000) (h0 : (frs r0).length < (frs rs).length) : ∀ (k : Nat) (s : Ds) (l : Ls) (j : Nat), Mid fr ct ep s l r0 rs nx0 st j → j + k ≤ ct → st ≤ j → (0 < k → (j + k - 1) * 991 < (frs rs).length) → (frs r0).length / 991 ≤ j → (0 < k → l.nx + (k : Int) - 1 < 4611686018427387904) →
    ((wrN s l j k).2.2 = 0 ∧ Mid fr ct ep (wrN s l j k).1 (wrN s l j k).2.1 r0 rs nx0 st (j + k)) ∨ ((wrN s l j k).2.2 = 14 ∧ Inv fr ct ep (wrN s l j k).1 (wrN s l j k).2.1 r0 rs nx0 ∧ (wrN s l j k).2.1.bad = 14)
  | 0, s, l, j, h, _, _, _, _, _ => .inl ⟨rfl, h⟩
  | k + 1, s, l, j, h, h1, hst, h2, h3, h4 => by
    have h2' := h2 (by omega)
    have h4' := h4 (by omega)
    have hS := h.step hep hct (by omega) hst (by have : j * 991 ≤ (j + (k + 1) - 1) * 991 := Nat.mul_le_mul_right _ (by omega); omega) h3 h0 (by omega) (by omega)
    have eN : wrN s l j (k + 1) = if (wrL s l j).2.2 = 0 then wrN (wrL s l j).1 (wrL s l j).2.1 (j + 1) k else ((wrL s l j).1, { (wrL s l j).2.1 with bad := (wrL s l j).2.2 }, (wrL s l j).2.2) := rfl
    rw [eN]
    rcases hS with ⟨k1, k2, k3⟩ | ⟨k1, k2⟩
    · rw [if_pos k1]
      have := Mid.all hep hct h0 k _ _ (j + 1) k2 (by omega) (by omega) (fun _ => by rw [show j + 1 + k - 1 = j + (k + 1) - 1 by omega]; exact h2') (by omega) (fun _ => by rw [k3]; omega)
      rwa [show j + 1 + k = j + (k + 1) by omega] at this
    · rw [if_neg (by rw [k1]; decide), k1]
      exact .inr ⟨rfl, k2, rfl⟩
theorem Inv.app (h : Inv fr ct ep s l r0 rs nx0) (hep : 0 ≤ ep ∧ ep ≤ 18446744073709551615) (hct : ct ≤ 65000) (hsb : Bytes l.sm) (b : List Int) (hb : Bytes b) :
    Inv fr ct ep (appL s l b).1 (appL s l b).2.1 r0 (if (appL s l b).2.2 = 0 ∨ ((appL s l b).2.2 = 14 ∧ l.bad = 0) then rs ++ [b] else rs) nx0 ∧ ((appL s l b).2.1.bad ≠ 0 ↔ l.bad ≠ 0 ∨ (appL s l b).2.2 = 14) := by
  obtain ⟨R, hR⟩ : ∃ R, R = appL s l b := ⟨_, rfl⟩
  rw [← hR]
  unfold appL at hR
  by_cases h0 : l.bad = 0
  · rw [if_neg (by omega)] at hR
    by_cases h6 : 60000 < b.length
    · rw [if_pos h6] at hR
      subst hR
      dsimp only
      rw [if_neg (by omega)]
      exact ⟨h, ⟨fun hh => absurd h0 hh, fun hh => hh.elim (fun q => absurd h0 q) (fun q => absurd q (by decide))⟩⟩
    · rw [if_neg h6] at hR
      dsimp only at hR
      have hfl := frm_len b
      rw [hfl] at hR
      by_cases hfull : l.ct * 991 < l.sm.length + (8 + b.length) ∨ 4611686018427387904 ≤ l.nx + (((l.sm.length + (8 + b.length) - 1) / 991 - l.sm.length / 991 : Nat) : Int)
      · rw [if_pos hfull] at hR
        subst hR
        dsimp only
        rw [if_neg (by omega)]
        exact ⟨h, ⟨fun hh => absurd h0 hh, fun hh => hh.elim (fun q => absurd h0 q) (fun q => absurd q (by decide))⟩⟩
      · rw [if_neg hfull] at hR
        obtain ⟨first, hfi⟩ : ∃ x, x = l.sm.length / 991 := ⟨_, rfl⟩
        obtain ⟨last, hla⟩ : ∃ x, x = (l.sm.length + (8 + b.length) - 1) / 991 := ⟨_, rfl⟩
        rw [← hfi, ← hla] at hfull hR
        have hf1 : ¬ l.ct * 991 < l.sm.length + (8 + b.length) := fun q => hfull (.inl q)
        have hf2 : ¬ 4611686018427387904 ≤ l.nx + ((last - first : Nat) : Int) := fun q => hfull (.inr q)
        have he2 := h.e2
        have hfl2 : first ≤ last := by omega
        have hlc : last < ct := by rw [he2] at hf1; omega
        have eF : frs (rs ++ [b]) = l.sm ++ frm smZ b := by rw [frs_snoc, h.sm]
        have lF : (frs (rs ++ [b])).length = l.sm.length + (8 + b.length) := by rw [eF, List.length_append, hfl]
        have l0 : (frs r0).length ≤ l.sm.length := by rw [h.sm]; exact (frs_pre h.pre).length_le
        obtain ⟨v1, v2, v3⟩ := h.live h0
        have nb : ∀ j < ct, Bytes (nw s fr j) := fun j hj => (h.nw_or j).elim (fun e => by rw [e]; exact h.bas.by_ j hj) (fun W => W.by_)
        have hw1 : first * 991 ≤ (opK (nw s fr) ep ct).sm.length := by have := v1.length_le; omega
        have hwh := opK_whole nb (i := first) (by omega) hw1
        have htk := opK_take nb (i := first) (by omega) hw1
        have hM : Mid fr ct ep s { l with sm := l.sm ++ frm smZ b } r0 (rs ++ [b]) nx0 first first := by
          refine ⟨h.e1, h.e2, h.e3, h.kl, h.bas, eF.symm, ?_, h.pre.trans (List.prefix_append _ _), ?_, ?_, h.nx, h.tm, h0, hwh.1, ?_, ?_, hwh.2.2, fun q => absurd q (Nat.lt_irrefl _), ?_⟩
          · intro z hz
            rcases List.mem_append.1 hz with hz | hz
            · exact hsb z hz
            · exact frm_bytes _ hb z hz
          · intro x hx
            rcases List.mem_append.1 hx with hx | hx
            · exact h.sz x hx
            · obtain rfl : x = b := by simpa using hx
              omega
          · intro x hx
            obtain ⟨j', c1, c2⟩ := h.pd x hx
            refine ⟨j', c1, ?_⟩
            rw [eF, h.sm]
            exact c2.grow _ (Int.le_refl _)
          · rw [htk.1, eF, List.take_append_of_le_length (by omega)]
            obtain ⟨y, hy⟩ := v1
            rw [← hy, List.take_append_of_le_length (by omega)]
          · rw [htk.2]
            show _ = l.tm.take first
            rw [v2, List.take_take, Nat.min_eq_left (by omega)]
          · intro i hi hif
            by_cases hlt : (frs r0).length < l.sm.length
            · refine v3 hlt i hi ?_
              have : (l.tm.take first).length = first := by rw [v2, List.take_take, Nat.min_eq_left (by omega), ← htk.2]; exact hwh.2.2
              rw [List.length_take] at this
              omega
            · omega
        have hA := Mid.all hep hct (by rw [lF]; omega) (last + 1 - first) s { l with sm := l.sm ++ frm smZ b } first hM (by omega) (Nat.le_refl _) (fun _ => by rw [lF, show first + (last + 1 - first) - 1 = last by omega]; omega) (by omega) (fun _ => by show l.nx + ((last + 1 - first : Nat) : Int) - 1 < _; omega)
        rw [show first + (last + 1 - first) = last + 1 by omega] at hA
        rw [← hR] at hA
        rcases hA with ⟨a1, a2⟩ | ⟨a1, a2, a3⟩
        · rw [if_pos (.inl a1)]
          refine ⟨⟨a2.e1, a2.e2, a2.e3, a2.kl, a2.bas, a2.sm, a2.pre, a2.sz, a2.pd, a2.nx, a2.tm, fun _ => ?_, .inl a2.bad⟩, ⟨fun q => absurd a2.bad q, fun q => q.elim (fun q => absurd h0 q) (fun q => by rw [a1] at q; cases q)⟩⟩
          have ea : (opK (nw R.1 fr) ep (last + 1)).sm = R.2.1.sm := by
            rw [a2.smj, a2.sm]
            exact List.take_of_length_le (by rw [lF]; omega)
          have hp := opK_pre' (K := nw R.1 fr) (ep := ep) (i := last + 1) (n := ct) (by omega)
          have hm : (R.2.1.sm.length + 990) / 991 = last + 1 := by rw [a2.sm, lF]; omega
          have htl2 := a2.tl2 (by omega)
          refine ⟨by rw [← ea]; exact hp.1, ?_, fun _ i hi hit => a2.new i hi (by omega)⟩
          rw [hm]
          have h3 := List.prefix_iff_eq_take.1 hp.2
          rw [a2.tl, a2.tmj, List.take_of_length_le (by omega)] at h3
          exact h3
        · rw [if_pos (.inr ⟨a1, h0⟩)]
          exact ⟨a2, ⟨fun _ => .inr a1, fun _ => by rw [a3]; decide⟩⟩
  · rw [if_pos h0] at hR
    subst hR
    dsimp only
    have hbb := h.bd
    have hb2 : l.bad = 14 := by omega
    rw [hb2, if_neg (by decide)]
    exact ⟨h, ⟨fun _ => .inl (by decide), fun _ => by decide⟩⟩
end
end Lo
end Go.Proofs.YtjdimgigbgafbaaDoor
namespace Go.Proofs.YtjdimgigbgafbaaDoor
set_option maxRecDepth 100000
open Byts Seal Fram
set_option linter.unusedVariables false
namespace Lo
structure Both (s : Ds) (l : Ls) (n m : Nat) : Prop where
  ok : s.Ok m
  by_ : Byte s
  kl : s.kept.length = n
  lo : Lo.Ok l n
theorem Both.more {s : Ds} {l : Ls} {n m m' : Nat} (h : Both s l n m) (hm : m ≤ m') : Both s l n m' := ⟨h.ok.more hm, h.by_, h.kl, h.lo⟩
theorem byte_same {s s' : Ds} (h : Byte s) (h1 : s'.kept = s.kept) (h2 : s'.pend = s.pend) : Byte s' := ⟨by rw [h1]; exact h.k, by rw [h2]; exact h.p⟩
theorem byte_push {s s' : Ds} {a : Nat} {z : List Int} (h : Byte s) (hz : Bytes z) (h1 : s'.kept = s.kept) (h2 : s'.pend = s.pend ++ [(a, z)]) : Byte s' := by
  refine ⟨by rw [h1]; exact h.k, ?_⟩
  rw [h2]
  intro x hx
  rcases List.mem_append.1 hx with hx | hx
  · exact h.p x hx
  · obtain rfl : x = (a, z) := by simpa using hx
    exact hz
theorem byte_ke {s s' : Ds} (h : Byte s) (f : Nat → Bool) (h1 : s'.kept = keI f s.kept [] s.pend s.pend.length) (h2 : s'.pend = []) : Byte s' := by
  refine ⟨?_, by rw [h2]; intro x hx; cases hx⟩
  rw [h1]
  exact keI_mem (p := fun y : List Int => Bytes y) h.k h.p _ (Nat.le_refl _)
theorem secB {ep nx : Int} {bd : List Int} (h : Bytes bd) : Bytes (secL ep nx bd) := by
  intro z hz
  unfold secL sec at hz
  rcases List.mem_append.1 hz with hz | hz
  · exact hd_bytes _ _ _ _ (by decide) h z hz
  · exact smZ_bytes _ z hz
structure Wn (l l' : Ls) : Prop where
  fr : l'.fr = l.fr
  ct : l'.ct = l.ct
  ep : l'.ep = l.ep
  sm : l'.sm = l.sm
  n1 : 1 ≤ l'.nx
  n2 : l'.nx ≤ 4611686018427387904
  tt : ∀ t ∈ l'.tm, 0 ≤ t ∧ t ≤ 4611686018427387904
  tc : l'.tm.length ≤ l.ct
theorem wrN_ok {n : Nat} : ∀ (k : Nat) (s : Ds) (l : Ls) (j m : Nat), s.Ok m → Byte s → s.kept.length = n → l.fr + l.ct ≤ n → j + k ≤ l.ct → j ≤ l.tm.length → 1 ≤ l.nx → l.nx + (k : Int) ≤ 4611686018427387904 → Bytes l.sm → (∀ t ∈ l.tm, 0 ≤ t ∧ t ≤ 4611686018427387904) → l.tm.length ≤ l.ct → l.bad = 0 →
    (wrN s l j k).1.Ok (m + k) ∧ Byte (wrN s l j k).1 ∧ (wrN s l j k).1.kept.length = n ∧ Wn l (wrN s l j k).2.1 ∧ (((wrN s l j k).2.2 = 0 ∧ (wrN s l j k).2.1.bad = 0 ∧ (0 < k → (wrN s l j k).2.1.tm.length = j + k)) ∨ ((wrN s l j k).2.2 = 14 ∧ (wrN s l j k).2.1.bad = 14))
  | 0, s, l, j, m, h1, h2, h3, h4, h5, h6, h7, h8, h9, h10, h11, h12 => ⟨h1, h2, h3, ⟨rfl, rfl, rfl, rfl, h7, by show l.nx ≤ _; omega, h10, h11⟩, .inl ⟨rfl, h12, fun h => absurd h (Nat.lt_irrefl _)⟩⟩
  | k + 1, s, l, j, m, h1, h2, h3, h4, h5, h6, h7, h8, h9, h10, h11, h12 => by
    have hbl : (shB j (prevL l j) (chunk l j)).length ≤ 1001 := by have := chunk_le l j; unfold shB; simp only [List.length_append, be_length]; omega
    obtain ⟨z, hz⟩ : ∃ z, z = secL l.ep l.nx (shB j (prevL l j) (chunk l j)) := ⟨_, rfl⟩
    have hzl : z.length = 1024 := by rw [hz]; exact secL_len _ _ _ hbl
    have hzb : Bytes z := by rw [hz]; exact secB (shB_bytes (chunk_bytes h9 j))
    have hD := do_1 s (l.fr + j) z (by omega) hzl
    have hO := h1.do_ ⟨1, ((l.fr + j : Nat) : Int), z, true, []⟩ (by have := h1.hn; show ((l.fr + j : Nat) : Int) ≤ _; omega)
    have eW : wrL s l j = (let r := s.do_ ⟨1, ((l.fr + j : Nat) : Int), z, true, []⟩; (r.1, if r.2.2 = 0 then { l with tm := l.tm.take j ++ [l.nx], nx := l.nx + 1 } else l, r.2.2)) := by
      unfold wrL
      rw [← hz]
    have eN : wrN s l j (k + 1) = if (wrL s l j).2.2 = 0 then wrN (wrL s l j).1 (wrL s l j).2.1 (j + 1) k else ((wrL s l j).1, { (wrL s l j).2.1 with bad := (wrL s l j).2.2 }, (wrL s l j).2.2) := rfl
    obtain ⟨s1, hs1⟩ : ∃ s1, s1 = (s.do_ ⟨1, ((l.fr + j : Nat) : Int), z, true, []⟩).1 := ⟨_, rfl⟩
    rw [eN, eW]
    dsimp only
    rw [← hs1] at hD hO ⊢
    rcases hD with ⟨d1, d2, d3⟩ | ⟨d1, d2, d3⟩
    · rw [d1, if_neg (by decide), if_neg (by decide)]
      exact ⟨hO.more (by omega), byte_same h2 d2 d3, by show s1.kept.length = n; rw [d2]; exact h3, ⟨rfl, rfl, rfl, rfl, h7, by show l.nx ≤ _; omega, h10, h11⟩, .inr ⟨rfl, rfl⟩⟩
    · rw [d1, if_pos rfl, if_pos rfl]
      have hl : (l.tm.take j ++ [l.nx]).length = j + 1 := by rw [List.length_append, List.length_take, Nat.min_eq_left h6]; rfl
      have ih := wrN_ok (n := n) k s1 { l with tm := l.tm.take j ++ [l.nx], nx := l.nx + 1 } (j + 1) (m + 1) hO (byte_push h2 hzb d2 d3) (by rw [d2]; exact h3) h4 (by show j + 1 + k ≤ l.ct; omega) (by show j + 1 ≤ (l.tm.take j ++ [l.nx]).length; omega) (by show 1 ≤ l.nx + 1; omega) (by show l.nx + 1 + (k : Int) ≤ _; omega) h9 (fun t ht => by
        rcases List.mem_append.1 ht with ht | ht
        · exact h10 t (List.mem_of_mem_take ht)
        · obtain rfl : t = l.nx := by simpa using ht
          omega) (by show (l.tm.take j ++ [l.nx]).length ≤ l.ct; omega) h12
      obtain ⟨i1, i2, i3, i4, i5⟩ := ih
      refine ⟨by rw [show m + (k + 1) = m + 1 + k by omega]; exact i1, i2, i3, ⟨i4.fr, i4.ct, i4.ep, i4.sm, i4.n1, i4.n2, i4.tt, i4.tc⟩, ?_⟩
      rcases i5 with ⟨a1, a2, a3⟩ | a
      · refine .inl ⟨a1, a2, fun _ => ?_⟩
        by_cases hk : 0 < k
        · rw [a3 hk]; omega
        · obtain rfl : k = 0 := by omega
          show (l.tm.take j ++ [l.nx]).length = j + 1
          exact hl
      · exact .inr a
theorem Both.app {s : Ds} {l : Ls} {n m : Nat} (h : Both s l n m) (b : List Int) (hb : Bytes b) : Both (appL s l b).1 (appL s l b).2.1 n (m + (l.ct + 1)) ∧ (appL s l b).2.1.fr = l.fr ∧ (appL s l b).2.1.ct = l.ct ∧ (appL s l b).2.1.ep = l.ep := by
  obtain ⟨R, hR⟩ : ∃ R, R = appL s l b := ⟨_, rfl⟩
  rw [← hR]
  unfold appL at hR
  have hL := h.lo
  by_cases h0 : l.bad = 0
  · rw [if_neg (by omega)] at hR
    by_cases h6 : 60000 < b.length
    · rw [if_pos h6] at hR
      subst hR
      exact ⟨h.more (by omega), rfl, rfl, rfl⟩
    · rw [if_neg h6] at hR
      dsimp only at hR
      have hfl : (frm smZ b).length = 8 + b.length := frm_length smZ (fun _ => rfl) b
      rw [hfl] at hR
      by_cases hfull : l.ct * 991 < l.sm.length + (8 + b.length) ∨ 4611686018427387904 ≤ l.nx + (((l.sm.length + (8 + b.length) - 1) / 991 - l.sm.length / 991 : Nat) : Int)
      · rw [if_pos hfull] at hR
        subst hR
        exact ⟨h.more (by omega), rfl, rfl, rfl⟩
      · rw [if_neg hfull] at hR
        obtain ⟨first, hfi⟩ : ∃ x, x = l.sm.length / 991 := ⟨_, rfl⟩
        obtain ⟨last, hla⟩ : ∃ x, x = (l.sm.length + (8 + b.length) - 1) / 991 := ⟨_, rfl⟩
        rw [← hfi, ← hla] at hfull hR
        have hf1 : ¬ l.ct * 991 < l.sm.length + (8 + b.length) := fun q => hfull (.inl q)
        have hf2 : ¬ 4611686018427387904 ≤ l.nx + ((last - first : Nat) : Int) := fun q => hfull (.inr q)
        have htl := hL.tl h0
        have hsb : Bytes (l.sm ++ frm smZ b) := fun z hz => (List.mem_append.1 hz).elim (hL.sb z) (frm_bytes _ hb z)
        have K := wrN_ok (n := n) (last + 1 - first) s { l with sm := l.sm ++ frm smZ b } first m h.ok h.by_ h.kl hL.f1 (by show first + (last + 1 - first) ≤ l.ct; omega) (by show first ≤ l.tm.length; omega) hL.n1 (by show l.nx + ((last + 1 - first : Nat) : Int) ≤ _; omega) hsb hL.tt hL.tc h0
        rw [← hR] at K
        obtain ⟨k1, k2, k3, k4, k5⟩ := K
        have hc := k4.ct
        have hsm := k4.sm
        have hc : R.2.1.ct = l.ct := hc
        have hsm : R.2.1.sm = l.sm ++ frm smZ b := hsm
        have hfr : R.2.1.fr = l.fr := k4.fr
        have hep : R.2.1.ep = l.ep := k4.ep
        refine ⟨⟨k1.more (by omega), k2, k3, ⟨by rw [hfr, hc]; exact hL.f1, by rw [hc]; exact hL.f2, by rw [hep]; exact hL.e, k4.n1, k4.n2, by rw [hsm]; exact hsb, by rw [hsm, hc, List.length_append, hfl]; omega, fun hb0 => ?_, k4.tt, by rw [hc]; exact k4.tc⟩⟩, hfr, hc, hep⟩
        rcases k5 with ⟨a1, a2, a3⟩ | ⟨a1, a2⟩
        · rw [a3 (by omega), hsm, List.length_append, hfl]
          omega
        · rw [a2] at hb0
          cases hb0
  · rw [if_pos h0] at hR
    subst hR
    exact ⟨h.more (by omega), rfl, rfl, rfl⟩
theorem Both.sync {s : Ds} {l : Ls} {n m : Nat} (h : Both s l n m) : Both (syncL s l).1 (syncL s l).2.1 n (m + 1) ∧ (syncL s l).2.1.fr = l.fr ∧ (syncL s l).2.1.ct = l.ct ∧ (syncL s l).2.1.ep = l.ep := by
  obtain ⟨R, hR⟩ : ∃ R, R = syncL s l := ⟨_, rfl⟩
  rw [← hR]
  unfold syncL at hR
  have hL := h.lo
  by_cases h0 : l.bad = 0
  · rw [if_neg (by omega)] at hR
    dsimp only at hR
    subst hR
    have hO := h.ok.do_ ⟨2, 0, [], true, []⟩ (by show (0 : Int) ≤ _; omega)
    refine ⟨⟨hO, ?_, ?_, ⟨hL.f1, hL.f2, hL.e, hL.n1, hL.n2, hL.sb, hL.sl, fun _ => hL.tl h0, hL.tt, hL.tc⟩⟩, rfl, rfl, rfl⟩
    · rcases do_2 s with ⟨_, d2, d3⟩ | ⟨_, d2, d3⟩
      · exact byte_same h.by_ d2 d3
      · exact byte_ke h.by_ _ d2 d3
    · rcases do_2 s with ⟨_, d2, d3⟩ | ⟨_, d2, d3⟩
      · show (s.do_ ⟨2, 0, [], true, []⟩).1.kept.length = n
        rw [d2]; exact h.kl
      · show (s.do_ ⟨2, 0, [], true, []⟩).1.kept.length = n
        rw [d2, keI_length]; exact h.kl
  · rw [if_pos h0] at hR
    subst hR
    exact ⟨h.more (by omega), rfl, rfl, rfl⟩
theorem Both.stop {s : Ds} {l : Ls} {n m : Nat} (h : Both s l n m) (a : Int) (ha : a ≤ 9223372036854775807) : Both (s.do_ ⟨3, a, [], true, []⟩).1 l n (m + 1) ∧ (s.do_ ⟨3, a, [], true, []⟩).1.kept = s.kept ∧ (s.do_ ⟨3, a, [], true, []⟩).1.pend = s.pend := by
  have hO := h.ok.do_ ⟨3, a, [], true, []⟩ ha
  have e1 : (s.do_ ⟨3, a, [], true, []⟩).1.kept = s.kept := by unfold Ds.do_; rw [if_pos rfl]
  have e2 : (s.do_ ⟨3, a, [], true, []⟩).1.pend = s.pend := by unfold Ds.do_; rw [if_pos rfl]
  exact ⟨⟨hO, byte_same h.by_ e1 e2, by rw [e1]; exact h.kl, h.lo⟩, e1, e2⟩
theorem Both.crash {s : Ds} {l : Ls} {n m : Nat} (h : Both s l n m) (ks : List Bool) : (s.do_ ⟨4, 0, [], true, ks⟩).1.Ok (m + 1) ∧ Byte (s.do_ ⟨4, 0, [], true, ks⟩).1 ∧ (s.do_ ⟨4, 0, [], true, ks⟩).1.kept.length = n ∧ (s.do_ ⟨4, 0, [], true, ks⟩).1.kept = keI (Dk.kpF ks) s.kept [] s.pend s.pend.length ∧ (s.do_ ⟨4, 0, [], true, ks⟩).1.pend = [] ∧ (s.do_ ⟨4, 0, [], true, ks⟩).1.off = false := by
  have hO := h.ok.do_ ⟨4, 0, [], true, ks⟩ (by show (0 : Int) ≤ _; omega)
  have e := do_cr s ks
  have e1 : (s.do_ ⟨4, 0, [], true, ks⟩).1.kept = keI (Dk.kpF ks) s.kept [] s.pend s.pend.length := by rw [e]
  have e2 : (s.do_ ⟨4, 0, [], true, ks⟩).1.pend = [] := by rw [e]
  exact ⟨hO, byte_ke h.by_ _ e1 e2, by rw [e1, keI_length]; exact h.kl, e1, e2, by rw [e]⟩
theorem Both.open_ {s : Ds} {n m fr ct : Nat} {ep : Int} (h1 : s.Ok m) (h2 : Byte s) (h3 : s.kept.length = n) (hfc : fr + ct ≤ n) (hc : 1 ≤ ct) (hep : 0 ≤ ep ∧ ep ≤ 18446744073709551615) : Both (rdN s ct) (openL s fr ct ep) n (m + ct) :=
  ⟨rdN_ok h1 ct, ⟨h2.k, h2.p⟩, h3, by have := openL_ok h2 (fr := fr) (ct := ct) (by omega) hc hep; rwa [h3] at this⟩
end Lo
end Go.Proofs.YtjdimgigbgafbaaDoor
namespace Go.Proofs.YtjdimgigbgafbaaDoor
set_option maxRecDepth 100000
open Go.RowKit H
set_option linter.unusedVariables false
namespace H
theorem Ld.flat {X : Type} {f : X → List Value} {sz B n : Nat} {A : Option Addr} {w : World} {l : List X} (hf : ∀ x, (f x).length = sz) (h : Reads w B sz A n (l.flatMap f)) {i : Nat} {x : X} (hi : l[i]? = some x) {r : Nat} {u : Value} (hu : (f x)[r]? = some u) : Ld w (pA A (i * sz + r)) u := by
  have h2 := flat_row hf hi r u hu
  have hj : i * sz + r < n * sz := by rw [← h.1]; exact (List.getElem?_eq_some_iff.1 h2).1
  have h1 := Ld.rd h hj
  rw [List.getD, h2] at h1
  exact h1
end H
structure DmsAt (xs : List Dm) (A : Option Addr) (n N : Nat) (w : World) : Prop where
  hr : Reads w N 5 A n (xs.flatMap Dm.vals)
  hx : ∀ x ∈ xs, x.At N w
  hn : xs.length = n
theorem DmsAt.low {xs : List Dm} {A : Option Addr} {n N : Nat} {w w' : World} (h : DmsAt xs A n N w) (hb : Below N w w') : DmsAt xs A n N w' := ⟨h.hr.low hb (Nat.le_refl _), fun x hx => (h.hx x hx).low hb, h.hn⟩
theorem DmsAt.row {xs : List Dm} {A : Option Addr} {n N : Nat} {w : World} (h : DmsAt xs A n N w) {i : Nat} (hi : i < n) : ∃ x, xs[i]? = some x ∧ x ∈ xs ∧ x.At N w := by
  have hlt : i < xs.length := by rw [h.hn]; exact hi
  exact ⟨xs[i], List.getElem?_eq_getElem hlt, List.getElem_mem hlt, h.hx _ (List.getElem_mem hlt)⟩
namespace Dk
variable {v : Dk} {N N0 : Nat} {C : Nat → Prop} {w w' : World} {r : Rk}
end Dk
end Go.Proofs.YtjdimgigbgafbaaDoor
namespace Go.Proofs.YtjdimgigbgafbaaDoor
set_option maxRecDepth 100000
open Go.RowKit H
set_option linter.unusedVariables false
namespace Dk
variable {v : Dk} {N N0 : Nat} {C : Nat → Prop} {w w' : World} {r : Rk}
theorem _root_.Go.Proofs.YtjdimgigbgafbaaDoor.Kq.grw {kb d g : Nat} {w'' : World} (k : Kq kb d C w w') (hg : w'.grownBy w'' (some g)) (h : w.heap.size ≤ g) : Kq kb d C w w'' :=
  ⟨hg.os.trans k.os, hg.tape.trans k.tape, hg.output.trans k.output, Nat.le_trans k.size hg.size, fun j hj h1 h2 h3 => (hg.block j (Nat.lt_of_lt_of_le hj k.size) (fun e => by injection e with e; omega)).trans (k.block j hj h1 h2 h3)⟩
structure Pl (v v' : Dk) (N N0 : Nat) (C : Nat → Prop) (r' : Rk) (m : Nat) (w w' : World) : Prop where
  hv : v'.At N C w'
  hd : v'.d = v.d
  hkb : v'.kb = v.kb
  hk : Kq v.kb v.d C w w'
  hr : r'.At N0 w'
  hne : r'.K.ownBlock ≠ some v.kb
  hab : v'.abs = r'.abs
  hok : r'.abs.Ok m
end Dk
end Go.Proofs.YtjdimgigbgafbaaDoor
namespace Go.Proofs.YtjdimgigbgafbaaDoor
set_option maxRecDepth 100000
open Go.RowKit H
set_option linter.unusedVariables false
structure RMk (w w' : World) (b2 b3 i : Nat) (A : Option Addr) (c : Nat) (kp : List Cell) (F : Nat → List Int) : Prop where
  h2 : Blk w' b2 33 #[.slice none 0 0, .slice none 0 0, .bool false, .int .i64 0, .int .i64 0, .int .i64 0, .int .i64 0]
  h3 : Blk w' b3 33 #[.slice A i c, .slice none 0 0, .bool false, .int .i64 (-1), .int .i64 0, .int .i64 0, .int .i64 0]
  hk : w'.ownsRow w.heap.size 39 1 (.slice A i c) i (kp.map (·.1))
  kd : ∀ x ∈ kp, Dat w' x.1 x.2
  hz : kp.map (·.2) = (List.range i).map F
  hl : kp.length = i
  he : Ext w w'
end Go.Proofs.YtjdimgigbgafbaaDoor
