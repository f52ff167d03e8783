import Derived.RangeFuncBox
import Derived.RangeFuncCalls
import Derived.RangeFuncLeaves
import Derived.RangeFuncOwn
import Derived.TacticsIn
import Derived.Test.YtadfopdjhbjekaaDoorZLogNobody2
/-
  What the law leans on, part 3: WLogB, WLogC, WLogD, WLogE, Round, WFrA, WFrB, WLogF, LogAw, Mark, WLogG, WDiskJ, WDiskK, WDiskL, WDiskN, LLogNobody.
-/
namespace Go.Proofs.YtadfopdjhbjekaaDoor
set_option maxRecDepth 100000
open Go.RowKit H
open Lo Byts Seal Fram
set_option linter.unusedVariables false
namespace H
theorem X.slice3L {P : Program} {f : Fr} {w : World} {d : Option Tmp} {ty : TypeId} {pos : String} {aft : Array Edge} {g : Option (Nat × Bool)} {x y z : Operand} {t e : TypeId} {A : Option Addr} {q c sz n : Nat} (hx : ev f x = .slice A q c) (hy : ev f y = .int .i64 (n : Int)) (hz : ev f z = .int .i64 (n : Int)) (ht : P.underlying t = some (.slice e)) (hs : Siz P e sz) (hij : n ≤ c) :
    (execOp (ev f) ⟨d, .slice t x none (some y) (some z), ty, pos, aft, g⟩).run P w = .ok (.value (.slice A n n)) w := by
  simp only [execOp, Instr.sliceAt, Instr.slice, Instr.sliceBounds, Instr.sliceBound, Option.map_some, Option.map_none, hx, hy, hz, Sem.run_bind, run_underlying ht, Result.andThen_ok, asIntOf, Sem.run_pure, hs.run]
  have h1 : 0 ≤ (n : Int) ∧ (n : Int) ≤ (c : Int) := by omega
  simp [h1]
  cases A <;> simp [Addr.add_zero']
end H
theorem ob_len (A : Option Addr) (n c n' c' : Nat) : Value.ownBlock (.slice A n c) = Value.ownBlock (.slice A n' c') := by cases A <;> rfl
namespace Lg
variable {G : Lg} {v : Dk} {N : Nat} {C : Nat → Prop} {w w' : World}
theorem At.put' (h : G.At v N C w) (hg : w.grownBy w' (some G.p)) {l : Ls} {sA tA : Option Addr} {sc tc : Nat} (hb : Blk w' G.p 42 (Lg.cs ⟨G.p, sA, sc, tA, tc, l⟩ v))
    (hs : Sm .u8 5 N w sA l.sm.length sc l.sm) (hsb : Value.ownBlock (.slice sA l.sm.length sc) = G.ss.ownBlock) (ht : w.ownsRow N 35 1 (.slice tA l.tm.length tc) l.tm.length (nums .u64 l.tm)) (htb : Value.ownBlock (.slice tA l.tm.length tc) = G.ts.ownBlock) :
    Lg.At ⟨G.p, sA, sc, tA, tc, l⟩ v N C w' ∧ Chg (G.LS v C w) w w' ∧ Lg.Gr G ⟨G.p, sA, sc, tA, tc, l⟩ w.heap.size := by
  obtain ⟨h1, _, _, h4⟩ := h.put hg
  have hT := h.hb.isT
  refine ⟨⟨h1, hb, hs.kept hg fun g hg2 e => ?_, ht.kept hg (.inr fun e => ?_), fun x hx g hg2 => ?_, h.hN, h.tab.low (h.below h4) h.tN, h.tN⟩, h4, ⟨rfl, fun g hg2 => .inl (hsb ▸ hg2), fun g hg2 => .inl (htb ▸ hg2)⟩⟩
  · injection e with e
    subst e
    exact absurd (hT.fun_ (hs.own hg2).1) (by decide)
  · exact absurd (hT.fun_ (own_isT ht e).1) (by decide)
  · show Value.ownBlock (.slice sA l.sm.length sc) ≠ some g
    rw [hsb]
    exact h.sep x hx g hg2
end Lg
section
variable {G : Lg} {v : Dk} {N : Nat} {C : Nat → Prop} {w : World}
theorem lfollows (h : G.At v N C w) (i : Nat) (hi : i ≤ 8192) (zs : List Int) (A : Option Addr) (c : Nat) (nx : Int) (ch : Bool) (htl : G.st.sm.length = i * 991 → G.st.tm.length = i) :
    Calls Tryd.prog 50 #[G.ptr, .int .i64 (i : Int), pcV true zs A c] w fun e w' => e = .returned (.bool (fol ⟨nx, ch, G.st.tm, G.st.sm⟩ i zs)) ∧ Ext w w' := by
  have hb := h.hb
  have ht := Reads.of_own h.ht
  refine enter Tryd.func50 rfl (by kernel_rfl) ?_
  refine J.seq ?_
  refine J.region ?_
  refine L.boxA (l := [_, _, _, _]) rfl rfl ?_
  intro b1 w1 hb1 hs1 hk1 he1
  have hk1 : Blk w1 b1 105 #[.int .i64 (pAt zs), .int .u64 (pPrev zs), .int .u64 (sB smZ zs), .slice A (pBy zs).length c] := hk1
  have hb1' := hb.ext he1
  have ht1 := ht.ext he1
  refine L.va rfl (X.assign (by conv => lhs; whnf)) ?_
  refine L.nil ?_
  refine J.seq ?_
  refine J.seq ?_
  refine J.region ?_
  refine L.va rfl (X.fieldAddr rfl Tryd.underlying105 rfl sz_3 (by decide)) ?_
  refine L.va rfl (X.load rfl sc_3 (by first | exact Ld.blk hk1 rfl | exact Ld.blk hb1' rfl)) ?_
  refine L.va rfl (X.move (by conv => lhs; whnf)) ?_
  refine L.va rfl (X.neq rfl rfl) ?_
  refine L.va rfl (X.move (by conv => lhs; whnf)) ?_
  refine L.caseNdec (k := 11) rfl (fun h1 => ?_) (fun h1 => ?_)
  · have e : fol ⟨nx, ch, G.st.tm, G.st.sm⟩ i zs = false := by unfold fol; rw [if_pos (.inl h1)]
    rw [e]
    refine L.no rfl ?_
    refine L.no rfl ?_
    refine L.no rfl ?_
    refine L.no rfl ?_
    refine L.no rfl ?_
    refine L.no rfl ?_
    refine L.no rfl ?_
    refine L.no rfl ?_
    refine L.va rfl (X.pickT rfl (by conv => lhs; whnf)) ?_
    refine L.nil ?_
    refine J.iteT rfl ?_
    refine J.seq ?_
    refine J.region ?_
    refine L.va rfl (X.assign (by conv => lhs; whnf)) ?_
    refine L.nil ?_
    refine J.ret ?_
    refine thn_ret <| ?_
    refine fin1 ?_
    exact ⟨rfl, he1⟩
  · refine L.va rfl (X.move (by conv => lhs; whnf)) ?_
    refine L.va rfl (X.nilCheck rfl) ?_
    refine L.va rfl (X.fieldAddr rfl Tryd.underlying42 rfl sz_22 (by decide)) ?_
    refine L.va rfl (X.load rfl sc_22 (by first | exact Ld.blk hk1 rfl | exact Ld.blk hb1' rfl)) ?_
    refine L.va rfl (X.len rfl Tryd.underlying22) ?_
    refine L.va rfl (X.move (by conv => lhs; whnf)) ?_
    refine L.va rfl (X.mul rfl rfl (by omega)) ?_
    refine L.va rfl (X.neq rfl rfl) ?_
    refine L.va rfl (X.pickF rfl (by conv => lhs; whnf)) ?_
    refine L.nil ?_
    refine J.ndec rfl (fun h2 => ?_) (fun h2 => ?_)
    · have e : fol ⟨nx, ch, G.st.tm, G.st.sm⟩ i zs = false := by unfold fol; rw [if_pos (.inr (by show G.st.sm.length ≠ i * 991; omega))]
      rw [e]
      refine J.seq ?_
      refine J.region ?_
      refine L.va rfl (X.assign (by conv => lhs; whnf)) ?_
      refine L.nil ?_
      refine J.ret ?_
      refine thn_ret <| ?_
      refine fin1 ?_
      exact ⟨rfl, he1⟩
    · have h2' : G.st.sm.length = i * 991 := by omega
      have e : fol ⟨nx, ch, G.st.tm, G.st.sm⟩ i zs = if i = 0 then decide (pPrev zs = 0) else decide (pPrev zs = G.st.tm.getD (i - 1) 0) := by unfold fol; rw [if_neg (by rintro (h | h); exact h h1; exact h h2')]
      rw [e]
      have htl' := htl h2'
      refine J.skip ?_
      refine J.seq ?_
      refine J.seq ?_
      refine J.region ?_
      refine L.va rfl (X.move (by conv => lhs; whnf)) ?_
      refine L.va rfl (X.eql rfl rfl) ?_
      refine L.nil ?_
      refine J.dec rfl (fun h3 => ?_) (fun h3 => ?_)
      · rw [if_pos (by omega)]
        refine J.seq ?_
        refine J.region ?_
        refine L.va rfl (X.fieldAddr rfl Tryd.underlying105 rfl sz_35 (by decide)) ?_
        refine L.va rfl (X.load rfl sc_35 (by first | exact Ld.blk hk1 rfl | exact Ld.blk hb1' rfl)) ?_
        refine L.va rfl (X.eql rfl rfl) ?_
        refine L.va rfl (X.assign (by conv => lhs; whnf)) ?_
        refine L.nil ?_
        refine J.ret ?_
        refine thn_ret <| ?_
        refine fin1 ?_
        exact ⟨rfl, he1⟩
      · rw [if_neg (by omega)]
        have hA := ht1.some_ (by omega)
        obtain ⟨k, rfl⟩ : ∃ k, i = k + 1 := ⟨i - 1, by omega⟩
        refine J.skip ?_
        refine J.seq ?_
        refine J.quiet mixed (by kernel_rfl) ?_
        refine Qt.va rfl (fun w' hw => X.fieldAddr rfl Tryd.underlying105 rfl sz_35 (by decide)) ?_
        refine Qt.va rfl (fun w' hw => X.load rfl sc_35 (by first | exact Ld.blk (hk1.ext hw) rfl | exact Ld.blk (hb1'.ext hw) rfl | exact Ld.num (ht1.ext hw) (by omega) | exact hA)) ?_
        refine Qt.va rfl (fun w' hw => X.move (by conv => lhs; whnf)) ?_
        refine Qt.va rfl (fun w' hw => X.nilCheck rfl) ?_
        refine Qt.va rfl (fun w' hw => X.fieldAddr rfl Tryd.underlying42 rfl sz_40 (by decide)) ?_
        refine Qt.va rfl (fun w' hw => X.load rfl sc_40 (by first | exact Ld.blk (hk1.ext hw) rfl | exact Ld.blk (hb1'.ext hw) rfl | exact Ld.num (ht1.ext hw) (by omega) | exact hA)) ?_
        refine Qt.va rfl (fun w' hw => X.move (by conv => lhs; whnf)) ?_
        refine Qt.va rfl (fun w' hw => X.sub rfl rfl (by omega)) ?_
        refine Qt.va rfl (fun w' hw => (by first | exact X.index1n rfl rfl Tryd.underlying40 sz_35 (by first | exact Option.some_ne_none _ | exact ht1.some_ (by omega) | exact hA) (by omega) | exact X.index1 rfl rfl Tryd.underlying40 sz_35 (by first | exact Option.some_ne_none _ | exact ht1.some_ (by omega) | exact hA) (by omega))) ?_
        refine Qt.va rfl (fun w' hw => X.load rfl sc_35 (by first | exact Ld.blk (hk1.ext hw) rfl | exact Ld.blk (hb1'.ext hw) rfl | exact Ld.num (ht1.ext hw) (by omega) | exact hA)) ?_
        refine Qt.va rfl (fun w' hw => X.eql rfl rfl) ?_
        refine Qt.va rfl (fun w' hw => X.assign (by conv => lhs; whnf)) ?_
        refine Qt.nil (fun w2 hq => ?_)
        replace hk1 := hk1.ext hq
        replace hb1' := hb1'.ext hq
        replace ht1 := ht1.ext hq
        refine J.ret ?_
        refine fin1 ?_
        refine ⟨?_, he1.trans hq⟩
        show Ending.returned (.bool (decide (pPrev zs = G.st.tm.getD (((k + 1 : Nat) : Int) - 1).toNat 0))) = _
        rw [show (((k + 1 : Nat) : Int) - 1).toNat = k by omega]
        rfl
theorem lcut (h : G.At v N C w) (u : Nat) (hu : u ≤ G.st.sm.length) (ht : (u + 990) / 991 ≤ G.st.tm.length) (hm : u ≤ 9000000) :
    Calls Tryd.prog 51 #[G.ptr, .int .i64 (u : Int)] w fun e w' => e = .returned (.tuple #[]) ∧ ∃ G' : Lg, G'.At v N C w' ∧ G'.st = { G.st with sm := G.st.sm.take u, tm := G.st.tm.take ((u + 990) / 991) } ∧ Chg (G.LS v C w) w w' ∧ Lg.Gr G G' w.heap.size := by
  have hb := h.hb
  have hsb := h.hs.bd
  have htb := own_bd h.ht
  refine enter Tryd.func51 rfl (by kernel_rfl) ?_
  refine J.seq ?_
  refine J.region ?_
  refine L.va rfl (X.move (by conv => lhs; whnf)) ?_
  refine L.va rfl (X.move (by conv => lhs; whnf)) ?_
  refine L.va rfl (X.nilCheck rfl) ?_
  refine L.va rfl (X.fieldAddr rfl Tryd.underlying42 rfl sz_22 (by decide)) ?_
  refine L.va rfl (X.load rfl sc_22 (by first | exact Ld.blk hb rfl)) ?_
  refine L.va rfl (X.move (by conv => lhs; whnf)) ?_
  refine L.va rfl (X.move (by conv => lhs; whnf)) ?_
  refine L.va rfl (X.slice3L rfl rfl rfl Tryd.underlying22 sz_5 (by omega)) ?_
  refine L.va rfl (X.nilCheck rfl) ?_
  refine L.va rfl (X.fieldAddr rfl Tryd.underlying42 rfl sz_22 (by decide)) ?_
  refine L.store rfl rfl (by conv => lhs; whnf) rfl sz_22 (hb) (by first | decide | exact Nat.le_of_ble_eq_true rfl) ?_
  intro w1 hb1 hg1 hs1
  have e1 : (G.st.sm.take u).length = u := by rw [List.length_take]; omega
  obtain ⟨H1, c1, g1⟩ := h.put' (l := { G.st with sm := G.st.sm.take u }) (sA := G.sA) (sc := u) (tA := G.tA) (tc := G.tc) hg1 (by unfold Lg.cs Lg.ss; rw [e1]; exact hb1) (by rw [e1]; exact h.hs.cut hu) (ob_len _ _ _ _ _) h.ht rfl
  refine L.nil ?_
  refine J.region ?_
  refine L.va rfl (X.move (by conv => lhs; whnf)) ?_
  refine L.va rfl (X.move (by conv => lhs; whnf)) ?_
  refine L.va rfl (X.nilCheck rfl) ?_
  refine L.va rfl (X.fieldAddr rfl Tryd.underlying42 rfl sz_40 (by decide)) ?_
  refine L.va rfl (X.load rfl sc_40 (by first | exact Ld.blk hb1 rfl)) ?_
  refine L.va rfl (X.move (by conv => lhs; whnf)) ?_
  refine L.va rfl (X.add rfl rfl (by omega)) ?_
  refine L.va rfl (X.sub rfl rfl (by omega)) ?_
  refine L.va rfl (X.quo rfl rfl (by omega)) ?_
  refine L.va rfl ((by first | exact X.sliceTon rfl rfl Tryd.underlying40 sz_35 (by omega) | exact X.sliceTo rfl rfl Tryd.underlying40 sz_35 (by omega))) ?_
  refine L.va rfl (X.nilCheck rfl) ?_
  refine L.va rfl (X.fieldAddr rfl Tryd.underlying42 rfl sz_40 (by decide)) ?_
  obtain ⟨q, hq⟩ : ∃ q, q = (u + 990) / 991 := ⟨_, rfl⟩
  have e2 : (((u : Int) + 991 - 1) / 991) = (q : Int) := by omega
  rw [e2]
  rw [← hq] at ht
  refine L.store rfl rfl (by conv => lhs; whnf) rfl sz_40 (hb1) (by first | decide | exact Nat.le_of_ble_eq_true rfl) ?_
  intro w2 hb2 hg2 hs2
  have e3 : (G.st.tm.take q).length = q := by rw [List.length_take]; omega
  obtain ⟨H2, c2, g2⟩ := H1.put' (l := { G.st with sm := G.st.sm.take u, tm := G.st.tm.take q }) (sA := G.sA) (sc := u) (tA := G.tA) (tc := G.tc) hg2 (by unfold Lg.cs Lg.ss Lg.ts; dsimp only; rw [e1, e3]; exact hb2) H1.hs rfl (by rw [e3]; exact own_cutN H1.ht ht) (ob_len _ _ _ _ _)
  refine L.nil ?_
  refine fin0 (.inr rfl) ?_
  exact ⟨rfl, _, H2, by rw [← hq], Lg.chg_trans c1 rfl rfl g1 c2, g1.trans g2 c1.size⟩
theorem lfine (h : G.At v N C w) : Calls Tryd.prog 52 #[G.ptr] w fun e w' => e = .returned (.int .i64 G.st.bad) ∧ w = w' := by
  have hb := h.hb
  refine enter Tryd.func52 rfl (by kernel_rfl) ?_
  refine J.seq ?_
  refine J.region ?_
  refine L.va rfl (X.assign (by conv => lhs; whnf)) ?_
  refine L.nil ?_
  refine J.seq ?_
  refine J.seq ?_
  refine J.region ?_
  refine L.va rfl (X.move (by conv => lhs; whnf)) ?_
  refine L.va rfl (X.eqlPn rfl rfl (by kernel_rfl)) ?_
  refine L.va rfl (X.move (by conv => lhs; whnf)) ?_
  refine L.caseBF (k := 5) rfl (by rfl) ?_
  refine L.va rfl (X.move (by conv => lhs; whnf)) ?_
  refine L.va rfl (X.nilCheck rfl) ?_
  refine L.va rfl (X.fieldAddr rfl Tryd.underlying42 rfl sz_4 (by decide)) ?_
  refine L.va rfl (X.load rfl sc_4 (by first | exact Ld.blk hb rfl)) ?_
  refine L.va rfl (X.not rfl) ?_
  refine L.va rfl (X.pickF rfl (by conv => lhs; whnf)) ?_
  refine L.nil ?_
  refine J.iteF rfl ?_
  refine J.skip ?_
  refine J.seq ?_
  refine J.region ?_
  refine L.va rfl (X.move (by conv => lhs; whnf)) ?_
  refine L.va rfl (X.nilCheck rfl) ?_
  refine L.va rfl (X.fieldAddr rfl Tryd.underlying42 rfl sz_24 (by decide)) ?_
  refine L.va rfl (X.load rfl sc_24 (by first | exact Ld.blk hb rfl)) ?_
  refine L.va rfl (X.assign (by conv => lhs; whnf)) ?_
  refine L.nil ?_
  refine J.ret ?_
  refine fin1 ?_
  exact ⟨rfl, rfl⟩
def NoLog (p : Value) (w : World) : Prop := p = .pointer none ∨ ∃ d, p = .pointer (some ⟨d, 0, none⟩) ∧ Blk w d 42 #[.bool false, .pointer none, .int .i64 0, .int .i64 0, .int .u64 0, .int .u64 0, .slice none 0 0, .slice none 0 0, .int .i64 0]
theorem NoLog.ext {p : Value} {w w' : World} (h : NoLog p w) (he : Ext w w') : NoLog p w' := h.imp id fun ⟨d, e, hb⟩ => ⟨d, e, hb.ext he⟩
theorem nofine {p : Value} (h : NoLog p w) : Calls Tryd.prog 52 #[p] w fun e w' => e = .returned (.int .i64 15) ∧ w = w' := by
  rcases h with rfl | ⟨d, rfl, hb⟩
  · refine enter Tryd.func52 rfl (by kernel_rfl) ?_
    refine J.seq ?_
    refine J.region ?_
    refine L.va rfl (X.assign (by conv => lhs; whnf)) ?_
    refine L.nil ?_
    refine J.seq ?_
    refine J.seq ?_
    refine J.region ?_
    refine L.va rfl (X.move (by conv => lhs; whnf)) ?_
    refine L.va rfl (X.eqlPn rfl rfl (by kernel_rfl)) ?_
    refine L.va rfl (X.move (by conv => lhs; whnf)) ?_
    refine L.caseBT (k := 5) rfl (by rfl) ?_
    refine L.no rfl ?_
    refine L.no rfl ?_
    refine L.no rfl ?_
    refine L.no rfl ?_
    refine L.no rfl ?_
    refine L.va rfl (X.pickT rfl (by conv => lhs; whnf)) ?_
    refine L.nil ?_
    refine J.iteT rfl ?_
    refine J.seq ?_
    refine J.region ?_
    refine L.va rfl (X.assign (by conv => lhs; whnf)) ?_
    refine L.nil ?_
    refine J.ret ?_
    refine thn_ret <| ?_
    refine fin1 ?_
    exact ⟨rfl, rfl⟩
  · refine enter Tryd.func52 rfl (by kernel_rfl) ?_
    refine J.seq ?_
    refine J.region ?_
    refine L.va rfl (X.assign (by conv => lhs; whnf)) ?_
    refine L.nil ?_
    refine J.seq ?_
    refine J.seq ?_
    refine J.region ?_
    refine L.va rfl (X.move (by conv => lhs; whnf)) ?_
    refine L.va rfl (X.eqlPn rfl rfl (by kernel_rfl)) ?_
    refine L.va rfl (X.move (by conv => lhs; whnf)) ?_
    refine L.caseBF (k := 5) rfl (by rfl) ?_
    refine L.va rfl (X.move (by conv => lhs; whnf)) ?_
    refine L.va rfl (X.nilCheck rfl) ?_
    refine L.va rfl (X.fieldAddr rfl Tryd.underlying42 rfl sz_4 (by decide)) ?_
    refine L.va rfl (X.load rfl sc_4 (by first | exact Ld.blk hb rfl)) ?_
    refine L.va rfl (X.not rfl) ?_
    refine L.va rfl (X.pickF rfl (by conv => lhs; whnf)) ?_
    refine L.nil ?_
    refine J.iteT rfl ?_
    refine J.seq ?_
    refine J.region ?_
    refine L.va rfl (X.assign (by conv => lhs; whnf)) ?_
    refine L.nil ?_
    refine J.ret ?_
    refine thn_ret <| ?_
    refine fin1 ?_
    exact ⟨rfl, rfl⟩
theorem lused (h : G.At v N C w) : Calls Tryd.prog 18 #[G.ptr] w fun e w' => e = .returned (.int .i64 (G.st.sm.length : Int)) ∧ w = w' := by
  have hb := h.hb
  refine enter Tryd.func18 rfl (by kernel_rfl) ?_
  refine J.seq ?_
  refine J.region ?_
  refine L.va rfl (X.assign (by conv => lhs; whnf)) ?_
  refine L.nil ?_
  refine J.seq ?_
  refine J.seq ?_
  refine J.region ?_
  refine L.va rfl (X.move (by conv => lhs; whnf)) ?_
  refine L.va rfl (X.eqlPn rfl rfl (by kernel_rfl)) ?_
  refine L.nil ?_
  refine J.iteF rfl ?_
  refine J.skip ?_
  refine J.seq ?_
  refine J.region ?_
  refine L.va rfl (X.move (by conv => lhs; whnf)) ?_
  refine L.va rfl (X.nilCheck rfl) ?_
  refine L.va rfl (X.fieldAddr rfl Tryd.underlying42 rfl sz_22 (by decide)) ?_
  refine L.va rfl (X.load rfl sc_22 (by first | exact Ld.blk hb rfl)) ?_
  refine L.va rfl (X.len rfl Tryd.underlying22) ?_
  refine L.va rfl (X.assign (by conv => lhs; whnf)) ?_
  refine L.nil ?_
  refine J.ret ?_
  refine fin1 ?_
  exact ⟨rfl, rfl⟩
theorem noused {p : Value} (h : NoLog p w) : Calls Tryd.prog 18 #[p] w fun e w' => e = .returned (.int .i64 0) ∧ w = w' := by
  rcases h with rfl | ⟨d, rfl, hb⟩
  · refine enter Tryd.func18 rfl (by kernel_rfl) ?_
    refine J.seq ?_
    refine J.region ?_
    refine L.va rfl (X.assign (by conv => lhs; whnf)) ?_
    refine L.nil ?_
    refine J.seq ?_
    refine J.seq ?_
    refine J.region ?_
    refine L.va rfl (X.move (by conv => lhs; whnf)) ?_
    refine L.va rfl (X.eqlPn rfl rfl (by kernel_rfl)) ?_
    refine L.nil ?_
    refine J.iteT rfl ?_
    refine J.seq ?_
    refine J.region ?_
    refine L.va rfl (X.assign (by conv => lhs; whnf)) ?_
    refine L.nil ?_
    refine J.ret ?_
    refine thn_ret <| ?_
    refine fin1 ?_
    exact ⟨rfl, rfl⟩
  · refine enter Tryd.func18 rfl (by kernel_rfl) ?_
    refine J.seq ?_
    refine J.region ?_
    refine L.va rfl (X.assign (by conv => lhs; whnf)) ?_
    refine L.nil ?_
    refine J.seq ?_
    refine J.seq ?_
    refine J.region ?_
    refine L.va rfl (X.move (by conv => lhs; whnf)) ?_
    refine L.va rfl (X.eqlPn rfl rfl (by kernel_rfl)) ?_
    refine L.nil ?_
    refine J.iteF rfl ?_
    refine J.skip ?_
    refine J.seq ?_
    refine J.region ?_
    refine L.va rfl (X.move (by conv => lhs; whnf)) ?_
    refine L.va rfl (X.nilCheck rfl) ?_
    refine L.va rfl (X.fieldAddr rfl Tryd.underlying42 rfl sz_22 (by decide)) ?_
    refine L.va rfl (X.load rfl sc_22 (by first | exact Ld.blk hb rfl)) ?_
    refine L.va rfl (X.len rfl Tryd.underlying22) ?_
    refine L.va rfl (X.assign (by conv => lhs; whnf)) ?_
    refine L.nil ?_
    refine J.ret ?_
    refine fin1 ?_
    exact ⟨rfl, rfl⟩
theorem lroom (h : G.At v N C w) (hct : G.st.ct ≤ 8192) : Calls Tryd.prog 19 #[G.ptr] w fun e w' => e = .returned (.int .i64 ((G.st.ct : Int) * 991 - (G.st.sm.length : Int))) ∧ Ext w w' := by
  have hb := h.hb
  have hsb := h.hs.bd
  unfold maxLen at hsb
  refine enter Tryd.func19 rfl (by kernel_rfl) ?_
  refine J.seq ?_
  refine J.region ?_
  refine L.va rfl (X.assign (by conv => lhs; whnf)) ?_
  refine L.nil ?_
  refine J.seq ?_
  refine J.seq ?_
  refine J.region ?_
  refine L.va rfl (X.move (by conv => lhs; whnf)) ?_
  refine L.va rfl (X.eqlPn rfl rfl (by kernel_rfl)) ?_
  refine L.nil ?_
  refine J.iteF rfl ?_
  refine J.skip ?_
  refine J.seq ?_
  refine J.quiet mixed (by kernel_rfl) ?_
  refine Qt.va rfl (fun w' hw => X.move (by conv => lhs; whnf)) ?_
  refine Qt.va rfl (fun w' hw => X.nilCheck rfl) ?_
  refine Qt.va rfl (fun w' hw => X.fieldAddr rfl Tryd.underlying42 rfl sz_3 (by decide)) ?_
  refine Qt.va rfl (fun w' hw => X.load rfl sc_3 (by first | exact Ld.blk (hb.ext hw) rfl)) ?_
  refine Qt.va rfl (fun w' hw => X.mul rfl rfl (by omega)) ?_
  refine Qt.va rfl (fun w' hw => X.move (by conv => lhs; whnf)) ?_
  refine Qt.va rfl (fun w' hw => X.nilCheck rfl) ?_
  refine Qt.va rfl (fun w' hw => X.fieldAddr rfl Tryd.underlying42 rfl sz_22 (by decide)) ?_
  refine Qt.va rfl (fun w' hw => X.load rfl sc_22 (by first | exact Ld.blk (hb.ext hw) rfl)) ?_
  refine Qt.va rfl (fun w' hw => X.len rfl Tryd.underlying22) ?_
  refine Qt.va rfl (fun w' hw => X.sub rfl rfl (by omega)) ?_
  refine Qt.va rfl (fun w' hw => X.assign (by conv => lhs; whnf)) ?_
  refine Qt.nil (fun w2 hq => ?_)
  replace hb := hb.ext hq
  refine J.ret ?_
  refine fin1 ?_
  exact ⟨rfl, hq⟩
theorem noroom {p : Value} (h : NoLog p w) : Calls Tryd.prog 19 #[p] w fun e w' => e = .returned (.int .i64 0) ∧ Ext w w' := by
  rcases h with rfl | ⟨d, rfl, hb⟩
  · refine enter Tryd.func19 rfl (by kernel_rfl) ?_
    refine J.seq ?_
    refine J.region ?_
    refine L.va rfl (X.assign (by conv => lhs; whnf)) ?_
    refine L.nil ?_
    refine J.seq ?_
    refine J.seq ?_
    refine J.region ?_
    refine L.va rfl (X.move (by conv => lhs; whnf)) ?_
    refine L.va rfl (X.eqlPn rfl rfl (by kernel_rfl)) ?_
    refine L.nil ?_
    refine J.iteT rfl ?_
    refine J.seq ?_
    refine J.region ?_
    refine L.va rfl (X.assign (by conv => lhs; whnf)) ?_
    refine L.nil ?_
    refine J.ret ?_
    refine thn_ret <| ?_
    refine fin1 ?_
    exact ⟨rfl, Ext.refl _⟩
  · refine enter Tryd.func19 rfl (by kernel_rfl) ?_
    refine J.seq ?_
    refine J.region ?_
    refine L.va rfl (X.assign (by conv => lhs; whnf)) ?_
    refine L.nil ?_
    refine J.seq ?_
    refine J.seq ?_
    refine J.region ?_
    refine L.va rfl (X.move (by conv => lhs; whnf)) ?_
    refine L.va rfl (X.eqlPn rfl rfl (by kernel_rfl)) ?_
    refine L.nil ?_
    refine J.iteF rfl ?_
    refine J.skip ?_
    refine J.seq ?_
    refine J.quiet mixed (by kernel_rfl) ?_
    refine Qt.va rfl (fun w' hw => X.move (by conv => lhs; whnf)) ?_
    refine Qt.va rfl (fun w' hw => X.nilCheck rfl) ?_
    refine Qt.va rfl (fun w' hw => X.fieldAddr rfl Tryd.underlying42 rfl sz_3 (by decide)) ?_
    refine Qt.va rfl (fun w' hw => X.load rfl sc_3 (by first | exact Ld.blk (hb.ext hw) rfl)) ?_
    refine Qt.va rfl (fun w' hw => X.mul rfl rfl (by omega)) ?_
    refine Qt.va rfl (fun w' hw => X.move (by conv => lhs; whnf)) ?_
    refine Qt.va rfl (fun w' hw => X.nilCheck rfl) ?_
    refine Qt.va rfl (fun w' hw => X.fieldAddr rfl Tryd.underlying42 rfl sz_22 (by decide)) ?_
    refine Qt.va rfl (fun w' hw => X.load rfl sc_22 (by first | exact Ld.blk (hb.ext hw) rfl)) ?_
    refine Qt.va rfl (fun w' hw => X.len rfl Tryd.underlying22) ?_
    refine Qt.va rfl (fun w' hw => X.sub rfl rfl (by omega)) ?_
    refine Qt.va rfl (fun w' hw => X.assign (by conv => lhs; whnf)) ?_
    refine Qt.nil (fun w2 hq => ?_)
    replace hb := hb.ext hq
    refine J.ret ?_
    refine fin1 ?_
    exact ⟨rfl, hq⟩
end
end Go.Proofs.YtadfopdjhbjekaaDoor
namespace Go.Proofs.YtadfopdjhbjekaaDoor
set_option maxRecDepth 100000
open Go.RowKit H
open Lo Byts Seal Fram
set_option linter.unusedVariables false
section
variable {G : Lg} {v : Dk} {N : Nat} {C : Nat → Prop} {w w' : World}
theorem Dk.At.off {r : Option Nat} (h : v.At N C w) (hg : w.grownBy w' r) (hr : ∀ g, r = some g → ∃ t, IsT w g t ∧ t ≠ 22 ∧ t ≠ 119 ∧ t ≠ 121 ∧ (t ≠ 5 ∨ ∀ x, v.Cl x → sblk x ≠ some g)) : v.At N C w' := by
  have n1 : some v.kb ≠ r := fun e => by obtain ⟨t, ht, h1, _⟩ := hr _ e.symm; exact h1 (ht.fun_ h.kT.1)
  have n2 : some v.d ≠ r := fun e => by obtain ⟨t, ht, _, h1, _⟩ := hr _ e.symm; exact h1 (ht.fun_ h.dT)
  have dat : ∀ {x : Value} {zs : List Int}, v.Cl x → Dat w x zs → Dat w' x zs := by
    rintro x zs hx ⟨b, off, c, cs, rfl, hl, hb, hc⟩
    refine ⟨b, off, c, cs, rfl, hl, hb.grown hg (fun e => ?_), hc⟩
    obtain ⟨t, ht, _, _, _, h4⟩ := hr _ e.symm
    rcases h4 with h4 | h4
    · exact h4 (ht.fun_ hb.isT)
    · exact h4 _ hx rfl
  refine ⟨h.hb.grown hg n2, h.hk.kept hg (.inr n1), h.hp.kept hg ?_, h.hC, fun b hb => Nat.lt_of_lt_of_le (h.hL b hb) hg.size, h.hCN, fun x hx => dat (.inl ⟨x, hx, rfl⟩) (h.kd x hx), fun x hx => ⟨(h.pd x hx).1, dat (.inr ⟨x, hx, rfl⟩) (h.pd x hx).2⟩, h.hN, h.h1, h.hl⟩
  cases ho : v.pend.ownBlock with
  | none => exact .inl rfl
  | some g => exact .inr (fun e => by obtain ⟨t, ht, _, _, h3, _⟩ := hr g e.symm; exact h3 (ht.fun_ (own_isT h.hp ho).1))
namespace Lg
theorem At.tput {w1 w2 : World} {tA : Option Addr} {tc : Nat} {l : Ls} (h : G.At v N C w) (hg1 : w.grownBy w1 G.ts.ownBlock) (ho : w1.ownsRow N 35 1 (.slice tA l.tm.length tc) l.tm.length (nums .u64 l.tm))
    (hor : ∀ g, Value.ownBlock (.slice tA l.tm.length tc) = some g → G.ts.ownBlock = some g ∨ w.heap.size ≤ g) (hg2 : w1.grownBy w2 (some G.p)) (hb : Blk w2 G.p 42 (Lg.cs ⟨G.p, G.sA, G.sc, tA, tc, l⟩ v)) (hl : l.sm = G.st.sm) :
    Lg.At ⟨G.p, G.sA, G.sc, tA, tc, l⟩ v N C w2 ∧ Chg (G.LS v C w) w w2 ∧ Gr G ⟨G.p, G.sA, G.sc, tA, tc, l⟩ w.heap.size := by
  have hd1 : v.At N C w1 := h.hd.off hg1 fun g hg => ⟨_, (own_isT h.ht hg).1, by decide, by decide, by decide, .inl (by decide)⟩
  have hb1 : Blk w1 G.p 42 (G.cs v) := h.hb.grown hg1 (fun e => own_blk_ne h.ht h.hb (by decide) e.symm)
  have hs1 := h.hs.kept hg1 fun g hg e => absurd ((own_isT h.ht e).1.fun_ (h.hs.own hg).1) (by decide)
  have c1 : Chg (G.LS v C w) w w1 := Chg.of_grown hg1 fun g hg => .inr (.inr (.inr (.inr (.inr hg))))
  have c12 : Chg (fun g => g = G.p) w1 w2 := Chg.of_grown hg2 fun g hg => by injection hg with hg; exact hg.symm
  have c2 : Chg (G.LS v C w) w w2 := c1.trans c12 fun g _ e => .inr (.inr (.inr (.inl e)))
  have hT := hb1.isT
  refine ⟨⟨hd1.off hg2 fun g hg => ⟨_, by injection hg with hg; subst hg; exact hT, by decide, by decide, by decide, .inl (by decide)⟩, hb, ?_, ho.kept hg2 (.inr fun e => absurd (hT.fun_ (own_isT ho e).1) (by decide)), ?_, h.hN, h.tab.low (h.below c2) h.tN, h.tN⟩, c2, ⟨rfl, fun g hg => .inl ?_, hor⟩⟩
  · show Sm .u8 5 N w2 G.sA l.sm.length G.sc l.sm
    rw [hl]
    exact hs1.kept hg2 fun g hg e => by injection e with e; subst e; exact absurd (hT.fun_ (hs1.own hg).1) (by decide)
  · show ∀ x, v.Cl x → ∀ g, sblk x = some g → Value.ownBlock (.slice G.sA l.sm.length G.sc) ≠ some g
    rw [hl]
    exact h.sep
  · have hg : Value.ownBlock (.slice G.sA l.sm.length G.sc) = some g := hg
    rwa [hl] at hg
theorem At.sput {w1 w2 : World} {sA : Option Addr} {sc : Nat} {l : Ls} (h : G.At v N C w) (hg1 : w.grownBy w1 G.ss.ownBlock) (ho : w1.ownsRow N 5 1 (.slice sA l.sm.length sc) l.sm.length (nums .u8 l.sm))
    (hor : ∀ g, Value.ownBlock (.slice sA l.sm.length sc) = some g → G.ss.ownBlock = some g ∨ w.heap.size ≤ g) (hg2 : w1.grownBy w2 (some G.p)) (hb : Blk w2 G.p 42 (Lg.cs ⟨G.p, sA, sc, G.tA, G.tc, l⟩ v)) (hl : l.tm = G.st.tm) :
    Lg.At ⟨G.p, sA, sc, G.tA, G.tc, l⟩ v N C w2 ∧ Chg (G.LS v C w) w w2 ∧ Gr G ⟨G.p, sA, sc, G.tA, G.tc, l⟩ w.heap.size := by
  have hd1 : v.At N C w1 := h.hd.off hg1 fun g hg => ⟨_, (h.hs.own hg).1, by decide, by decide, by decide, .inr fun x hx e => h.sep x hx g e hg⟩
  have hb1 : Blk w1 G.p 42 (G.cs v) := h.hb.grown hg1 (fun e => absurd ((h.hs.own e.symm).1.fun_ h.hb.isT) (by decide))
  have ht1 : w1.ownsRow N 35 1 G.ts G.st.tm.length (nums .u64 G.st.tm) := h.ht.kept hg1 (by
    cases e : G.ts.ownBlock with
    | none => exact .inl rfl
    | some g => exact .inr fun e2 => absurd ((own_isT h.ht e).1.fun_ (h.hs.own e2.symm).1) (by decide))
  have c1 : Chg (G.LS v C w) w w1 := Chg.of_grown hg1 fun g hg => .inr (.inr (.inr (.inr (.inl hg))))
  have c12 : Chg (fun g => g = G.p) w1 w2 := Chg.of_grown hg2 fun g hg => by injection hg with hg; exact hg.symm
  have c2 : Chg (G.LS v C w) w w2 := c1.trans c12 fun g _ e => .inr (.inr (.inr (.inl e)))
  have hT := hb1.isT
  refine ⟨⟨hd1.off hg2 fun g hg => ⟨_, by injection hg with hg; subst hg; exact hT, by decide, by decide, by decide, .inl (by decide)⟩, hb, .inl (ho.kept hg2 (.inr fun e => absurd (hT.fun_ (own_isT ho e).1) (by decide))), ?_, fun x hx g hg e => ?_, h.hN, h.tab.low (h.below c2) h.tN, h.tN⟩, c2, ⟨rfl, hor, fun g hg => .inl ?_⟩⟩
  · show w2.ownsRow N 35 1 (.slice G.tA l.tm.length G.tc) l.tm.length (nums .u64 l.tm)
    rw [hl]
    exact ht1.kept hg2 (.inr fun e => absurd (hT.fun_ (own_isT ht1 e).1) (by decide))
  · rcases hor g e with h1 | h1
    · exact h.sep x hx g hg h1
    · have : Dat w x [] → False := fun hd => by have := hd.len; simp at this
      have hdat : ∃ zs, Dat w x zs := by
        rcases hx with ⟨y, hy, rfl⟩ | ⟨y, hy, rfl⟩
        · exact ⟨_, h.hd.kd y hy⟩
        · exact ⟨_, (h.hd.pd y hy).2⟩
      obtain ⟨zs, b, off, c, cs, rfl, _, hbk, _⟩ := hdat
      have e2 : b = g := by injection hg
      have := hbk.lt
      omega
  · have hg : Value.ownBlock (.slice G.tA l.tm.length G.tc) = some g := hg
    rwa [hl] at hg
theorem At.toL (h : G.At v N C w) : G.To v N C v.abs G.st w w := ⟨G, v, h, rfl, rfl, rfl, rfl, Chg.of_ext (Ext.refl _), Gr.refl _ _⟩
end Lg
theorem lsync (h : G.At v N C w) {m : Nat} (hok : v.abs.Ok m) (hm : m ≤ 1000000) : Calls Tryd.prog 16 #[G.ptr] w fun e w' => e = .returned (.int .i64 (syncL v.abs G.st).2.2) ∧ G.To v N C (syncL v.abs G.st).1 (syncL v.abs G.st).2.1 w w' := by
  have hb := h.hb
  refine enter Tryd.func16 rfl (by kernel_rfl) ?_
  refine J.seq ?_
  refine J.region ?_
  refine L.va rfl (X.assign (by conv => lhs; whnf)) ?_
  refine L.nil ?_
  refine J.seq ?_
  refine J.seq ?_
  refine J.region ?_
  refine L.va rfl (X.move (by conv => lhs; whnf)) ?_
  refine L.call rfl en_52 rfl (lfine h) ?_
  rintro e _ ⟨rfl, rfl⟩
  refine ⟨_, rfl, ?_⟩
  refine L.va rfl (X.assign (by conv => lhs; whnf)) ?_
  refine L.nil ?_
  refine J.seq ?_
  refine J.region ?_
  refine L.va rfl (X.move (by conv => lhs; whnf)) ?_
  refine L.va rfl (X.neq rfl rfl) ?_
  refine L.nil ?_
  refine J.ndec rfl (fun h1 => ?_) (fun h1 => ?_)
  · have e : syncL v.abs G.st = (v.abs, G.st, G.st.bad) := if_pos h1
    rw [e]
    refine J.seq ?_
    refine J.region ?_
    refine L.va rfl (X.move (by conv => lhs; whnf)) ?_
    refine L.va rfl (X.assign (by conv => lhs; whnf)) ?_
    refine L.nil ?_
    refine J.ret ?_
    refine thn_ret <| ?_
    refine fin1 ?_
    exact ⟨rfl, h.toL⟩
  · have e : syncL v.abs G.st = ((v.abs.do_ ⟨2, 0, [], true, []⟩).1, { G.st with bad := (v.abs.do_ ⟨2, 0, [], true, []⟩).2.2 }, (v.abs.do_ ⟨2, 0, [], true, []⟩).2.2) := if_neg (by omega)
    rw [e]
    obtain ⟨r, hr⟩ : ∃ r, r = v.abs.do_ ⟨2, 0, [], true, []⟩ := ⟨_, rfl⟩
    have K := h.hd.flush_anyF hok hm ⟨2, 0, [], true, []⟩ rfl
    rw [← hr] at K ⊢
    refine J.skip ?_
    refine J.seq ?_
    refine J.region ?_
    refine L.va rfl (X.move (by conv => lhs; whnf)) ?_
    refine L.va rfl (X.move (by conv => lhs; whnf)) ?_
    refine L.va rfl (X.nilCheck rfl) ?_
    refine L.va rfl (X.fieldAddr rfl Tryd.underlying42 rfl sz_39 (by decide)) ?_
    refine L.va rfl (X.load rfl sc_39 (by first | exact Ld.blk hb rfl)) ?_
    refine L.call rfl en_39 rfl (K) ?_
    rintro e w1 ⟨rfl, ⟨v1, p1, p2, p3, p4, p5, p6⟩, _⟩
    refine ⟨_, rfl, ?_⟩
    have H1 := h.disk p1 p2 p5 p6
    have hb1 := H1.hb
    have c1 : Chg (G.LS v C w) w w1 := Lg.chg_kq (Chg.of_ext (Ext.refl _)) rfl rfl (Lg.Gr.refl _ _) p5
    refine L.va rfl (X.nilCheck rfl) ?_
    refine L.va rfl (X.fieldAddr rfl Tryd.underlying42 rfl sz_24 (by decide)) ?_
    refine L.store rfl rfl (by conv => lhs; whnf) rfl sz_24 (hb1) (by first | decide | exact Nat.le_of_ble_eq_true rfl) ?_
    intro w2 hb2 hg2 hs2
    obtain ⟨H2, c2, g2⟩ := H1.put' (l := { G.st with bad := r.2.2 }) (sA := G.sA) (sc := G.sc) (tA := G.tA) (tc := G.tc) hg2 hb2 H1.hs rfl H1.ht rfl
    refine L.nil ?_
    refine J.seq ?_
    refine J.region ?_
    refine L.va rfl (X.move (by conv => lhs; whnf)) ?_
    refine L.va rfl (X.nilCheck rfl) ?_
    refine L.va rfl (X.fieldAddr rfl Tryd.underlying42 rfl sz_24 (by decide)) ?_
    refine L.va rfl (X.load rfl sc_24 (by first | exact Ld.blk hb2 rfl)) ?_
    refine L.va rfl (X.assign (by conv => lhs; whnf)) ?_
    refine L.nil ?_
    refine J.ret ?_
    refine fin1 ?_
    exact ⟨rfl, _, v1, H2, p2, p3, p4, rfl, Lg.chg_trans c1 p2 p3 (Lg.Gr.refl _ _) c2, (Lg.Gr.refl G _).trans g2 c1.size⟩
end
end Go.Proofs.YtadfopdjhbjekaaDoor
namespace Go.Proofs.YtadfopdjhbjekaaDoor
set_option maxRecDepth 100000
open Go.RowKit H
open Lo Byts Seal Fram
set_option linter.unusedVariables false
theorem secL_len (ep nx : Int) (body : List Int) (h : body.length ≤ 1001) : (secL ep nx body).length = 1024 := by
  unfold secL sec
  rw [List.length_append, hd_length _ _ _ _ h]
  rfl
theorem be2_is (i : Nat) : be 2 (i : Int) = [IntKind.u8.wrap ((i : Int) / 2 ^ min (8 : Int).toNat IntKind.i64.bits), IntKind.u8.wrap (i : Int)] := by
  have e : be 2 (i : Int) = [(i : Int) / 256 % 256, (i : Int) / 1 % 256] := rfl
  rw [e, Int.ediv_one]
  rfl
theorem shB_bytes {i : Nat} {p : Int} {ch : List Int} (h : Bytes ch) : Bytes (shB i p ch) := by
  intro z hz
  unfold shB at hz
  rcases List.mem_append.1 hz with hz | hz
  · exact be_bytes _ _ z hz
  · rcases List.mem_append.1 hz with hz | hz
    · exact be_bytes _ _ z hz
    · exact h z hz
theorem chunk_le (l : Ls) (i : Nat) : (chunk l i).length ≤ 991 := by unfold chunk; rw [List.length_take]; omega
theorem chunk_bytes {l : Ls} (h : Bytes l.sm) (i : Nat) : Bytes (chunk l i) := fun z hz => h z (List.mem_of_mem_drop (List.mem_of_mem_take hz))
theorem Lg.At.cskeep {G : Lg} {v v' : Dk} {N : Nat} {C : Nat → Prop} {w w' : World} (h : G.At v N C w) (hv : v'.At N C w') (hd : v'.d = v.d) (k : Kq v.kb v.d C w w') (hF : v.Fr v' w.heap.size) : Blk w' G.p 42 (G.cs v) := by
  have := (h.disk hv hd k hF).hb
  rwa [show G.cs v' = G.cs v by unfold Lg.cs Dk.ptr; rw [hd]] at this
section
variable {G : Lg} {v : Dk} {N : Nat} {C : Nat → Prop} {w w' : World}
theorem lwrite (h : G.At v N C w) {m : Nat} (hok : v.abs.Ok m) (hm : m ≤ 1000000) (i : Nat) (hi : i ≤ G.st.tm.length) (hi2 : i * 991 ≤ G.st.sm.length) (h8 : i ≤ 8192) (hfr : G.st.fr ≤ 8192) (hn : 0 ≤ G.st.nx ∧ G.st.nx ≤ 4611686018427387904) (hep : 0 ≤ G.st.ep ∧ G.st.ep ≤ 18446744073709551615) (hby : Bytes G.st.sm) (hsl : G.st.sm.length ≤ 9000000) (htt : ∀ t ∈ G.st.tm, 0 ≤ t ∧ t ≤ 4611686018427387904) :
    Calls Tryd.prog 53 #[G.ptr, .int .i64 (i : Int)] w fun e w' => e = .returned (.int .i64 (wrL v.abs G.st i).2.2) ∧ G.To v N C (wrL v.abs G.st i).1 (wrL v.abs G.st i).2.1 w w' := by
  have hb := h.hb
  have ht := Reads.of_own h.ht
  have htl : G.st.tm.length = G.st.tm.length := rfl
  have hsb := h.hs.bd
  have htb := own_bd h.ht
  have hNw := h.hd.nsz
  obtain ⟨p, hp⟩ : ∃ p, p = prevL G.st i := ⟨_, rfl⟩
  have hpb : 0 ≤ p ∧ p ≤ 18446744073709551615 := by
    rw [hp]
    unfold prevL
    split
    · omega
    · have : i - 1 < G.st.tm.length := by omega
      rw [List.getD, List.getElem?_eq_getElem this]
      have := htt _ (List.getElem_mem this)
      show 0 ≤ G.st.tm[i - 1] ∧ G.st.tm[i - 1] ≤ 18446744073709551615
      omega
  refine enter Tryd.func53 rfl (by kernel_rfl) ?_
  refine J.seq ?_
  refine J.region ?_
  refine L.va rfl (X.assign (by conv => lhs; whnf)) ?_
  refine L.nil ?_
  refine J.seq ?_
  refine J.region ?_
  refine L.va rfl (X.assign (by conv => lhs; whnf)) ?_
  refine L.nil ?_
  refine J.cut (X := Unit) [5, 11, 12, 13, 14, 15, 16, 17, 18, 19, 20] (fun _ => [(5, .int .u64 p)]) (fun _ w' => w' = w) ?_ ?_
  · refine J.seq ?_
    refine J.region ?_
    refine L.va rfl (X.move (by conv => lhs; whnf)) ?_
    refine L.va rfl (X.gtr rfl rfl) ?_
    refine L.nil ?_
    refine J.dec rfl (fun h0 => ?_) (fun h0 => ?_)
    · have hA := ht.some_ (by omega)
      obtain ⟨k, rfl⟩ : ∃ k, i = k + 1 := ⟨i - 1, by omega⟩
      have ep : p = G.st.tm.getD (((k + 1 : Nat) : Int) - 1).toNat 0 := by
        rw [hp, prevL, if_neg (by omega), show (((k + 1 : Nat) : Int) - 1).toNat = k by omega]
        rfl
      rw [ep]
      refine J.region ?_
      refine L.va rfl (X.move (by conv => lhs; whnf)) ?_
      refine L.va rfl (X.nilCheck rfl) ?_
      refine L.va rfl (X.fieldAddr rfl Tryd.underlying42 rfl sz_40 (by decide)) ?_
      refine L.va rfl (X.load rfl sc_40 (by first | exact Ld.blk hb rfl | exact Ld.num ht (by omega) | exact hA)) ?_
      refine L.va rfl (X.move (by conv => lhs; whnf)) ?_
      refine L.va rfl (X.sub rfl rfl (by omega)) ?_
      refine L.va rfl ((by first | exact X.index1n rfl rfl Tryd.underlying40 sz_35 (by first | exact Option.some_ne_none _ | exact ht.some_ (by omega) | exact hA) (by omega) | exact X.index1 rfl rfl Tryd.underlying40 sz_35 (by first | exact Option.some_ne_none _ | exact ht.some_ (by omega) | exact hA) (by omega))) ?_
      refine L.va rfl (X.load rfl sc_35 (by first | exact Ld.blk hb rfl | exact Ld.num ht (by omega) | exact hA)) ?_
      refine L.va rfl (X.assign (by conv => lhs; whnf)) ?_
      refine L.nil ?_
      refine ⟨(), At1 (by first | rfl | exact at_int rfl (by omega) | exact at_slice rfl (by omega) | exact at_int rfl (by simp)), (by (iterate 11 refine Agr.lk rfl ?_); exact Agr.rfl'), ?_⟩
      rfl
    · have e0 : p = 0 := by rw [hp, prevL, if_pos (by omega)]
      rw [e0]
      refine J.skip ?_
      refine ⟨(), At1 (by first | rfl | exact at_int rfl (by omega) | exact at_slice rfl (by omega) | exact at_int rfl (by simp)), (by (iterate 2 refine Agr.lk rfl ?_); exact Agr.rfl'), ?_⟩
      rfl
  · rintro _ g w1 rfl
    refine J.seq ?_
    refine J.region ?_
    refine L.va rfl (X.move (by conv => lhs; whnf)) ?_
    refine L.va rfl (X.shr rfl rfl (by omega)) ?_
    refine L.va rfl ((by first | exact X.conv8 rfl is_3 Tryd.underlying5 (by omega) | exact X.convw rfl is_3 Tryd.underlying5)) ?_
    refine L.va rfl (X.move (by conv => lhs; whnf)) ?_
    refine L.va rfl ((by first | exact X.conv8 rfl is_3 Tryd.underlying5 (by omega) | exact X.convw rfl is_3 Tryd.underlying5)) ?_
    refine L.bslice (vs := [_, _]) rfl (Evs.cons (by conv => lhs; whnf) (Evs.cons (by conv => lhs; whnf) Evs.nil)) rfl rfl rfl rfl Tryd.underlying22 sz_5 zr_5 (by decide) ?_
    intro b2 w2 hb2 hs2 hk2 he2
    have hk2 : Blk w2 b2 5 (nums .u8 (be 2 (i : Int))).toArray := by rw [be2_is]; exact hk2
    have ho2 : w2.ownsRow w1.heap.size 5 1 (.slice (some ⟨b2, 0, none⟩) 2 2) 2 (nums .u8 (be 2 (i : Int))) := blk_own1 (q := 2) hk2 (by omega) (by decide) (by simp [nums, be_length])
    have e08 : be 2 (i : Int) ++ (be 8 p).take 0 = be 2 (i : Int) := by simp
    refine L.va rfl (X.assign (by conv => lhs; whnf)) ?_
    refine L.nil ?_
    refine J.seq ?_
    refine J.seq ?_
    refine J.region ?_
    refine L.va rfl (X.move (by conv => lhs; whnf)) ?_
    refine L.nil ?_
    refine J.block ?_
    refine J.loop (X := Nat × Option Addr × Nat) [6, 7, 27, 28, 29, 30, 31, 32, 33, 34, 35, 36, 37, 38, 39] (fun (k, B, d) => [(27, .int .i64 (k : Int)), (6, .slice B (2 + k) d)]) (fun (k, B, d) w' => k ≤ 8 ∧ w'.ownsRow w1.heap.size 5 1 (.slice B (2 + k) d) (2 + k) (nums .u8 (be 2 (i : Int) ++ (be 8 p).take k)) ∧ Ext w1 w') (fun (k, _) => 8 - k) ((0, some ⟨b2, 0, none⟩, 2)) (At2 (by first | rfl | exact at_int rfl (by omega) | exact at_slice rfl (by omega) | exact at_int rfl (by simp)) (by first | rfl | exact at_int rfl (by omega) | exact at_slice rfl (by omega) | exact at_int rfl (by simp))) ?_ ?_
    · exact ⟨by omega, by rw [e08]; exact ho2, he2⟩
    · rintro ⟨k, B, d⟩ g w3 ⟨hk, ho3, he3⟩
      have z3 := he3.le
      refine J.seq ?_
      refine J.region ?_
      refine L.va rfl (X.lss rfl rfl) ?_
      refine L.nil ?_
      refine J.seq ?_
      refine J.dec rfl (fun hlt => ?_) (fun hlt => ?_)
      · have hk8 : k < 8 := by omega
        have hbx := byte_at p (7 - k) hpb.1 (by omega) (z := 56 - 8 * (k : Int)) (by omega)
        have hgd := be_getD 8 p k hk8
        refine J.skip ?_
        refine J.seq ?_
        refine J.block ?_
        refine J.seq ?_
        refine J.region ?_
        refine L.va rfl (X.move (by conv => lhs; whnf)) ?_
        refine L.va rfl (X.assign (by conv => lhs; whnf)) ?_
        refine L.nil ?_
        refine J.region ?_
        refine L.va rfl (X.move (by conv => lhs; whnf)) ?_
        refine L.va rfl (X.move (by conv => lhs; whnf)) ?_
        refine L.va rfl (X.move (by conv => lhs; whnf)) ?_
        refine L.va rfl (X.mul rfl rfl (by omega)) ?_
        refine L.va rfl (X.sub rfl rfl (by omega)) ?_
        refine L.va rfl (X.shr rfl rfl (by omega)) ?_
        refine L.va rfl ((by first | exact X.conv8 rfl is_35 Tryd.underlying5 (by omega) | exact X.convw rfl is_35 Tryd.underlying5)) ?_
        refine L.bslice (vs := [_]) rfl (Evs.cons (by conv => lhs; whnf) Evs.nil) rfl rfl rfl rfl Tryd.underlying22 sz_5 zr_5 (by decide) ?_
        intro b4 w4 hb4 hs4 hk4 he4
        rw [hbx] at hk4
        have e4 : (be 2 (i : Int) ++ (be 8 p).take k) ++ [p / 256 ^ (7 - k) % 256] = be 2 (i : Int) ++ (be 8 p).take (k + 1) := by
          rw [List.append_assoc]
          congr 1
          have hl : k < (be 8 p).length := by rw [be_length]; exact hk8
          rw [List.take_succ_eq_append_getElem hl]
          congr 2
          have := be_getD 8 p k hk8
          rw [show 7 - k = 8 - 1 - k by omega, ← this]
          simp [List.getD, hl]
        refine L.appendQ (q := 2 + (k + 1)) (ys := (be 2 (i : Int) ++ (be 8 p).take k) ++ [p / 256 ^ (7 - k) % 256]) rfl rfl rfl Tryd.underlying22 el_5 (ho3.ext he4) ((blk_reads (q := 1) (l := nums .u8 [p / 256 ^ (7 - k) % 256]) hk4 (by omega : b4 < w4.heap.size) rfl)) (by omega) (by simp) (by unfold maxLen; omega) (by omega) ?_
        intro A5 c5 w5 ho5 hg5 hb5 hor5
        rw [e4] at ho5
        refine L.va rfl (X.assign (by conv => lhs; whnf)) ?_
        refine L.nil ?_
        refine J.region ?_
        refine L.va rfl (X.add rfl rfl (by omega)) ?_
        refine L.va rfl (X.move (by conv => lhs; whnf)) ?_
        refine L.nil ?_
        refine ⟨(k + 1, A5, c5), At2 (by first | rfl | exact at_int rfl (by omega) | exact at_slice rfl (by omega) | exact at_int rfl (by simp)) (by first | rfl | exact at_int rfl (by omega) | exact at_slice rfl (by omega) | exact at_int rfl (by simp)), (by (iterate 15 refine Agr.lk rfl ?_); exact Agr.lk rfl (Agr.hav rfl Agr.rfl')), ?_⟩
        exact ⟨⟨by omega, ho5, (he3.trans he4).low hb5 (Nat.le_refl _)⟩, by show 8 - (k + 1) < 8 - k; omega⟩
      · obtain rfl : k = 8 := by omega
        have eB : be 2 (i : Int) ++ (be 8 p).take 8 = be 2 (i : Int) ++ be 8 p := by rw [List.take_of_length_le (by rw [be_length]; omega)]
        rw [eB] at ho3
        have hb3 := hb.ext he3
        have hcl := chunk_le G.st i
        refine J.exit ?_
        refine J.cut (X := Option Addr × Nat) [6, 40, 41, 42, 43, 44, 45, 46, 47, 48, 49, 50, 51, 52, 53, 54, 55, 56, 57] (fun (B, d) => [(6, .slice B (shB i p (chunk G.st i)).length d)]) (fun (B, d) w' => w'.ownsRow w1.heap.size 5 1 (.slice B (shB i p (chunk G.st i)).length d) (shB i p (chunk G.st i)).length (nums .u8 (shB i p (chunk G.st i))) ∧ Ext w1 w') ?_ ?_
        · obtain ⟨a, ha⟩ : ∃ a, a = ((i : Int) * 991).toNat := ⟨_, rfl⟩
          obtain ⟨j, hj⟩ : ∃ j, j = (min (((i : Int) + 1) * 991) (G.st.sm.length : Int)).toNat := ⟨_, rfl⟩
          have ea : a = i * 991 := by omega
          have ej : j = min ((i + 1) * 991) G.st.sm.length := by omega
          have ec : (G.st.sm.drop a).take (j - a) = chunk G.st i := by
            unfold chunk
            rw [ea, List.take_eq_take_iff, List.length_drop]
            omega
          have hcl2 : (chunk G.st i).length = j - a := by rw [← ec, List.length_take, List.length_drop]; omega
          have esh : (be 2 (i : Int) ++ be 8 p) ++ chunk G.st i = shB i p (chunk G.st i) := by unfold shB; rw [List.append_assoc]
          have el : (shB i p (chunk G.st i)).length = 2 + 8 + (j - a) := by rw [← esh, List.length_append, List.length_append, be_length, be_length, hcl2]
          have hrd := part_nums (i := a) (j := j) h.hs.reads (by omega) (by omega) hsb.1
          rw [ec] at hrd
          refine J.draw (ℓ := 1000000) (S := (fun w' => Ext w1 w')) mixed (fun w4 hSE hS_h => ?_)
          have hS : ((fun w' => Ext w1 w')) w4 := he3.trans hSE
          have z4 := hS.le
          refine D.va 0 rfl (by kernel_rfl) (fun _ _ _ h => h) rfl (fun w' hw => X.move (by conv => lhs; whnf)) hS ?_
          refine D.va 1 rfl (by kernel_rfl) (fun _ _ _ h => h) rfl (fun w' hw => X.move (by conv => lhs; whnf)) hS ?_
          refine D.va 2 rfl (by kernel_rfl) (fun _ _ _ h => h) rfl (fun w' hw => X.nilCheck rfl) hS ?_
          refine D.va 3 rfl (by kernel_rfl) (fun _ _ _ h => h) rfl (fun w' hw => X.fieldAddr rfl Tryd.underlying42 rfl sz_22 (by decide)) hS ?_
          refine D.va 4 rfl (by kernel_rfl) (fun _ _ _ h => h) rfl (fun w' hw => X.load rfl sc_22 (by first | exact Ld.blk (hb.ext hw) rfl)) hS ?_
          refine D.va 5 rfl (by kernel_rfl) (fun _ _ _ h => h) rfl (fun w' hw => X.move (by conv => lhs; whnf)) hS ?_
          refine D.va 6 rfl (by kernel_rfl) (fun _ _ _ h => h) rfl (fun w' hw => X.mul rfl rfl (by omega)) hS ?_
          refine D.va 7 rfl (by kernel_rfl) (fun _ _ _ h => h) rfl (fun w' hw => X.move (by conv => lhs; whnf)) hS ?_
          refine D.va 8 rfl (by kernel_rfl) (fun _ _ _ h => h) rfl (fun w' hw => X.add rfl rfl (by omega)) hS ?_
          refine D.va 9 rfl (by kernel_rfl) (fun _ _ _ h => h) rfl (fun w' hw => X.mul rfl rfl (by omega)) hS ?_
          refine D.va 10 rfl (by kernel_rfl) (fun _ _ _ h => h) rfl (fun w' hw => X.move (by conv => lhs; whnf)) hS ?_
          refine D.va 11 rfl (by kernel_rfl) (fun _ _ _ h => h) rfl (fun w' hw => X.nilCheck rfl) hS ?_
          refine D.va 12 rfl (by kernel_rfl) (fun _ _ _ h => h) rfl (fun w' hw => X.fieldAddr rfl Tryd.underlying42 rfl sz_22 (by decide)) hS ?_
          refine D.va 13 rfl (by kernel_rfl) (fun _ _ _ h => h) rfl (fun w' hw => X.load rfl sc_22 (by first | exact Ld.blk (hb.ext hw) rfl)) hS ?_
          refine D.va 14 rfl (by kernel_rfl) (fun _ _ _ h => h) rfl (fun w' hw => X.len rfl Tryd.underlying22) hS ?_
          refine D.va 15 rfl (by kernel_rfl) (fun _ _ _ h => h) rfl (fun w' hw => X.min2 rfl rfl) hS ?_
          refine D.va 16 rfl (by kernel_rfl) (fun _ _ _ h => h) rfl (fun w' hw => (by first | exact X.slicen rfl rfl rfl Tryd.underlying22 sz_5 (by omega) | exact X.slice rfl rfl rfl Tryd.underlying22 sz_5 (by omega))) hS ?_
          rw [← ha, ← hj]
          refine D.one 17 (by kernel_rfl) rfl ?_
          refine L.appendQ (q := 2 + 8 + (j - a)) (ys := (be 2 (i : Int) ++ be 8 p) ++ chunk G.st i) rfl rfl rfl Tryd.underlying22 el_5 (ho3.ext hSE) ((hrd.ext hS)) (by omega) (by simp) (by unfold maxLen; omega) (by omega) ?_
          intro A5 c5 w5 ho5 hg5 hb5 hor5
          have hS1 := hS.low hb5 (Nat.le_refl _)
          refine L.nil ?_
          refine ⟨fun _ => hS1, ?_⟩
          rw [esh] at ho5
          refine D.va 18 rfl (by kernel_rfl) (fun _ _ _ h => h) rfl (fun w' hw => X.assign (by conv => lhs; whnf)) hS1 ?_
          refine D.done (by kernel_rfl) ?_
          replace hb := hb.ext hS1
          refine ⟨(A5, c5), At1 (by rw [el]; rfl), (by (iterate 19 refine Agr.lk rfl ?_); exact Agr.rfl'), ?_⟩
          rw [el]
          exact ⟨ho5, hS1⟩
        · rintro ⟨B5, d5⟩ g w5 ⟨ho5, he5⟩
          obtain ⟨bd, hbd⟩ : ∃ bd, bd = shB i p (chunk G.st i) := ⟨_, rfl⟩
          have hbl : bd.length ≤ 1001 := by
            rw [hbd]
            unfold shB
            rw [List.length_append, List.length_append, be_length, be_length]
            omega
          have hbb : Bytes bd := by rw [hbd]; exact shB_bytes (chunk_bytes hby i)
          rw [← hbd] at ho5 ⊢
          have hb5 := hb.ext he5
          have z5 := he5.le
          have H5 := h.ext he5
          have wr : wrL v.abs G.st i = ((v.abs.do_ ⟨1, ((G.st.fr + i : Nat) : Int), secL G.st.ep G.st.nx bd, true, []⟩).1, if (v.abs.do_ ⟨1, ((G.st.fr + i : Nat) : Int), secL G.st.ep G.st.nx bd, true, []⟩).2.2 = 0 then { G.st with tm := G.st.tm.take i ++ [G.st.nx], nx := G.st.nx + 1 } else G.st, (v.abs.do_ ⟨1, ((G.st.fr + i : Nat) : Int), secL G.st.ep G.st.nx bd, true, []⟩).2.2) := by rw [hbd, hp]; rfl
          rw [wr]
          refine J.cut (X := Nat) [8, 9, 58, 59, 60, 61, 62, 63, 64, 65, 66, 67, 68, 69, 70, 71] (fun b => [(8, .slice (some ⟨b, 0, none⟩) 1024 1024), (9, .int .i64 0)]) (fun b w' => Blk w' b 5 (nums .u8 (secL G.st.ep G.st.nx bd)).toArray ∧ w5.heap.size ≤ b ∧ Ext w5 w') ?_ ?_
          · refine J.draw (ℓ := 1000000) (S := Ext w5) mixed (fun w6 hS hS_h => ?_)
            refine D.va 0 rfl (by kernel_rfl) (fun _ _ _ h => h) rfl (fun w' hw => X.move (by conv => lhs; whnf)) hS ?_
            refine D.va 1 rfl (by kernel_rfl) (fun _ _ _ h => h) rfl (fun w' hw => X.nilCheck rfl) hS ?_
            refine D.va 2 rfl (by kernel_rfl) (fun _ _ _ h => h) rfl (fun w' hw => X.fieldAddr rfl Tryd.underlying42 rfl sz_35 (by decide)) hS ?_
            refine D.va 3 rfl (by kernel_rfl) (fun _ _ _ h => h) rfl (fun w' hw => X.load rfl sc_35 (by first | exact Ld.blk (hb5.ext hw) rfl)) hS ?_
            refine D.va 4 rfl (by kernel_rfl) (fun _ _ _ h => h) rfl (fun w' hw => X.move (by conv => lhs; whnf)) hS ?_
            refine D.va 5 rfl (by kernel_rfl) (fun _ _ _ h => h) rfl (fun w' hw => X.nilCheck rfl) hS ?_
            refine D.va 6 rfl (by kernel_rfl) (fun _ _ _ h => h) rfl (fun w' hw => X.fieldAddr rfl Tryd.underlying42 rfl sz_35 (by decide)) hS ?_
            refine D.va 7 rfl (by kernel_rfl) (fun _ _ _ h => h) rfl (fun w' hw => X.load rfl sc_35 (by first | exact Ld.blk (hb5.ext hw) rfl)) hS ?_
            refine D.va 8 rfl (by kernel_rfl) (fun _ _ _ h => h) rfl (fun w' hw => X.move (by conv => lhs; whnf)) hS ?_
            refine D.va 9 rfl (by kernel_rfl) (fun _ _ _ h => h) rfl (fun w' hw => X.build (l := [_, _, _, _]) (Evs.cons (by conv => lhs; whnf) (Evs.cons (by conv => lhs; whnf) (Evs.cons (by conv => lhs; whnf) (Evs.cons (by conv => lhs; whnf) Evs.nil)))) (bld_run Tryd.underlying87 (bp_87 Tryd.underlying87) zr_87 rfl)) hS ?_
            refine D.one 10 (by kernel_rfl) rfl ?_
            refine L.call rfl en_70 rfl (put_ok 1 G.st.ep G.st.nx B5 bd.length d5 bd w6 (tabx H5.tab hS) (by omega) (by omega) hep.1 hep.2 hn.1 (by omega) hbl (Reads.of_own (ho5.ext hS)) hbb) ?_
            rintro e w7 ⟨rfl, hk7, he7⟩
            refine ⟨_, rfl, ?_⟩
            have hS1 := hS.trans he7
            refine L.nil ?_
            refine ⟨fun _ => hS1, ?_⟩
            have q6 := hS.le
            refine D.va 11 rfl (by kernel_rfl) (fun _ _ _ h => h) rfl (fun w' hw => X.move (by conv => lhs; whnf)) hS1 ?_
            refine D.va 12 rfl (by kernel_rfl) (fun _ _ _ h => h) rfl (fun w' hw => X.extract rfl rfl) hS1 ?_
            refine D.va 13 rfl (by kernel_rfl) (fun _ _ _ h => h) rfl (fun w' hw => X.extract rfl rfl) hS1 ?_
            refine D.va 14 rfl (by kernel_rfl) (fun _ _ _ h => h) rfl (fun w' hw => X.assign (by conv => lhs; whnf)) hS1 ?_
            refine D.va 15 rfl (by kernel_rfl) (fun _ _ _ h => h) rfl (fun w' hw => X.assign (by conv => lhs; whnf)) hS1 ?_
            refine D.done (by kernel_rfl) ?_
            replace hb5 := hb5.ext hS1
            refine ⟨w6.heap.size + 1, At2 (by first | rfl | exact at_int rfl (by omega) | exact at_slice rfl (by omega) | exact at_int rfl (by simp)) (by first | rfl | exact at_int rfl (by omega) | exact at_slice rfl (by omega) | exact at_int rfl (by simp)), (by (iterate 16 refine Agr.lk rfl ?_); exact Agr.rfl'), ?_⟩
            exact ⟨hk7, by omega, hS1⟩
          · rintro b8 g w6 ⟨hk6, hb6, he6⟩
            have he06 := he5.trans he6
            have H6 := h.ext he06
            have hb6' := hb.ext he06
            have hsl : (secL G.st.ep G.st.nx bd).length = 1024 := secL_len _ _ _ hbl
            have ho6 : w6.ownsRow w1.heap.size 5 1 (.slice (some ⟨b8, 0, none⟩) 1024 1024) 1024 (nums .u8 (secL G.st.ep G.st.nx bd)) := blk_own1 hk6 (by omega) (by decide) (by simp [nums, hsl])
            refine J.seq ?_
            refine J.seq ?_
            refine J.region ?_
            refine L.va rfl (X.move (by conv => lhs; whnf)) ?_
            refine L.va rfl (X.neq rfl rfl) ?_
            refine L.nil ?_
            refine J.iteF rfl ?_
            refine J.skip ?_
            refine J.seq ?_
            obtain ⟨x, hx⟩ : ∃ x : Dd, x = ⟨1, ((G.st.fr + i : Nat) : Int), secL G.st.ep G.st.nx bd, true, []⟩ := ⟨_, rfl⟩
            rw [← hx]
            refine J.cut (X := Unit) [10, 75, 76, 77, 78, 79, 80, 81, 82, 83, 84, 85, 86] (fun _ => [(10, .int .i64 (v.abs.do_ x).2.2)]) (fun _ w' => v.ToF N C (v.abs.do_ x).1 w6 w') ?_ ?_
            · skip
              refine J.draw (ℓ := 1000000) (S := (fun w' => Blk w' G.p 42 (G.cs v))) mixed (fun w7 hSE hS_h => ?_)
              have hS : ((fun w' => Blk w' G.p 42 (G.cs v))) w7 := hb6'.ext hSE
              have H7 := H6.ext hSE
              have K := H7.hd.write_anyF hok hm x (by rw [hx]) (Nat.le_refl N) (some ⟨b8, 0, none⟩) 1024 (fun _ => .inl (by rw [hx]; exact Dat.of_own (ho6.ext hSE)))
              rw [show x.bytes.length = 1024 by rw [hx]; exact hsl, show x.n = (G.st.fr : Int) + (i : Int) by rw [hx]; show ((G.st.fr + i : Nat) : Int) = _; omega] at K
              refine D.va 0 rfl (by kernel_rfl) (fun _ _ _ h => h) rfl (fun w' hw => X.move (by conv => lhs; whnf)) hS ?_
              refine D.va 1 rfl (by kernel_rfl) (fun _ _ _ h => h) rfl (fun w' hw => X.nilCheck rfl) hS ?_
              refine D.va 2 rfl (by kernel_rfl) (fun _ _ _ h => h) rfl (fun w' hw => X.fieldAddr rfl Tryd.underlying42 rfl sz_39 (by decide)) hS ?_
              refine D.va 3 rfl (by kernel_rfl) (fun _ _ _ h => h) rfl (fun w' hw => X.load rfl sc_39 (by first | exact Ld.blk hw rfl)) hS ?_
              refine D.va 4 rfl (by kernel_rfl) (fun _ _ _ h => h) rfl (fun w' hw => X.move (by conv => lhs; whnf)) hS ?_
              refine D.va 5 rfl (by kernel_rfl) (fun _ _ _ h => h) rfl (fun w' hw => X.nilCheck rfl) hS ?_
              refine D.va 6 rfl (by kernel_rfl) (fun _ _ _ h => h) rfl (fun w' hw => X.fieldAddr rfl Tryd.underlying42 rfl sz_3 (by decide)) hS ?_
              refine D.va 7 rfl (by kernel_rfl) (fun _ _ _ h => h) rfl (fun w' hw => X.load rfl sc_3 (by first | exact Ld.blk hw rfl)) hS ?_
              refine D.va 8 rfl (by kernel_rfl) (fun _ _ _ h => h) rfl (fun w' hw => X.move (by conv => lhs; whnf)) hS ?_
              refine D.va 9 rfl (by kernel_rfl) (fun _ _ _ h => h) rfl (fun w' hw => X.add rfl rfl (by omega)) hS ?_
              refine D.va 10 rfl (by kernel_rfl) (fun _ _ _ h => h) rfl (fun w' hw => X.move (by conv => lhs; whnf)) hS ?_
              refine D.one 11 (by kernel_rfl) rfl ?_
              refine L.call rfl en_38 rfl (K) ?_
              rintro e w8 ⟨rfl, ⟨v1, p1, p2, p3, p4, p5, p6⟩, _⟩
              refine ⟨_, rfl, ?_⟩
              have hS1 := (H7.cskeep p1 p2 p5 p6)
              refine L.nil ?_
              refine ⟨fun _ => hS1, ?_⟩
              refine D.va 12 rfl (by kernel_rfl) (fun _ _ _ h => h) rfl (fun w' hw => X.assign (by conv => lhs; whnf)) hS1 ?_
              refine D.done (by kernel_rfl) ?_
              refine ⟨(), At1 (by first | rfl | exact at_int rfl (by omega) | exact at_slice rfl (by omega) | exact at_int rfl (by simp)), (by (iterate 13 refine Agr.lk rfl ?_); exact Agr.rfl'), ?_⟩
              exact ⟨v1, p1, p2, p3, p4, (Kq.of_ext hSE).trans p5, fun y hy => (p6 y hy).imp id fun h2 g hg => Nat.le_trans hSE.le (h2 g hg)⟩
            · rintro _ g w7 ⟨v1, p1, p2, p3, p4, p5, p6⟩
              have H7 := H6.disk p1 p2 p5 p6
              have hb7 := H7.hb
              have c7 : Chg (G.LS v C w1) w1 w7 := Lg.chg_kq (Chg.of_ext he06) rfl rfl (Lg.Gr.refl _ _) p5
              refine J.seq ?_
              refine J.region ?_
              refine L.va rfl (X.move (by conv => lhs; whnf)) ?_
              refine L.va rfl (X.neq rfl rfl) ?_
              refine L.nil ?_
              refine J.ndec rfl (fun h0 => ?_) (fun h0 => ?_)
              · rw [if_neg (by omega)]
                refine J.seq ?_
                refine J.region ?_
                refine L.va rfl (X.move (by conv => lhs; whnf)) ?_
                refine L.va rfl (X.assign (by conv => lhs; whnf)) ?_
                refine L.nil ?_
                refine J.ret ?_
                refine thn_ret <| ?_
                refine fin1 ?_
                exact ⟨rfl, G, v1, H7, p2, p3, p4, rfl, c7, Lg.Gr.refl _ _⟩
              · have h00 : (v.abs.do_ x).2.2 = 0 := by omega
                rw [if_pos h00, h00]
                have htl7 : (G.st.tm.take i ++ [G.st.nx]).length = i + 1 := by rw [List.length_append, List.length_take]; simp; omega
                refine J.skip ?_
                refine J.seq ?_
                refine J.draw (ℓ := 15) (S := (fun w' => Blk w' G.p 42 (G.cs v1))) mixed (fun w8 hSE hS_h => ?_)
                have hS : ((fun w' => Blk w' G.p 42 (G.cs v1))) w8 := hb7.ext hSE
                have H8 := H7.ext hSE
                have z8 := hSE.le
                refine D.va 0 rfl (by kernel_rfl) (fun _ _ _ h => h) rfl (fun w' hw => X.move (by conv => lhs; whnf)) hS ?_
                refine D.va 1 rfl (by kernel_rfl) (fun _ _ _ h => h) rfl (fun w' hw => X.move (by conv => lhs; whnf)) hS ?_
                refine D.va 2 rfl (by kernel_rfl) (fun _ _ _ h => h) rfl (fun w' hw => X.nilCheck rfl) hS ?_
                refine D.va 3 rfl (by kernel_rfl) (fun _ _ _ h => h) rfl (fun w' hw => X.fieldAddr rfl Tryd.underlying42 rfl sz_40 (by decide)) hS ?_
                refine D.va 4 rfl (by kernel_rfl) (fun _ _ _ h => h) rfl (fun w' hw => X.load rfl sc_40 (by first | exact Ld.blk hw rfl)) hS ?_
                refine D.va 5 rfl (by kernel_rfl) (fun _ _ _ h => h) rfl (fun w' hw => X.move (by conv => lhs; whnf)) hS ?_
                refine D.va 6 rfl (by kernel_rfl) (fun _ _ _ h => h) rfl (fun w' hw => (by first | exact X.sliceTon rfl rfl Tryd.underlying40 sz_35 (by omega) | exact X.sliceTo rfl rfl Tryd.underlying40 sz_35 (by omega))) hS ?_
                refine D.va 7 rfl (by kernel_rfl) (fun _ _ _ h => h) rfl (fun w' hw => X.move (by conv => lhs; whnf)) hS ?_
                refine D.va 8 rfl (by kernel_rfl) (fun _ _ _ h => h) rfl (fun w' hw => X.nilCheck rfl) hS ?_
                refine D.va 9 rfl (by kernel_rfl) (fun _ _ _ h => h) rfl (fun w' hw => X.fieldAddr rfl Tryd.underlying42 rfl sz_35 (by decide)) hS ?_
                refine D.va 10 rfl (by kernel_rfl) (fun _ _ _ h => h) rfl (fun w' hw => X.load rfl sc_35 (by first | exact Ld.blk hw rfl)) hS ?_
                refine D.one 11 (by kernel_rfl) rfl ?_
                refine L.bslice (vs := [_]) rfl (Evs.cons (by conv => lhs; whnf) Evs.nil) rfl rfl rfl rfl Tryd.underlying40 sz_35 zr_35 (by decide) ?_
                intro b9 w9 hb9 hs9 hk9 he9
                have hS1 := hS.ext he9
                refine L.nil ?_
                refine ⟨fun _ => hS1, ?_⟩
                have H9 := H8.ext he9
                have hoT := own_cutN H9.ht hi
                have hne9 : some G.p ≠ Value.ownBlock (.slice G.tA i G.tc) := fun e => own_blk_ne hoT H9.hb (by decide) e.symm
                have hz9 := H9.hd.nsz
                refine D.one 12 (by kernel_rfl) rfl ?_
                refine L.appendQ (q := i + 1) (ys := G.st.tm.take i ++ [G.st.nx]) rfl rfl rfl Tryd.underlying40 el_35 (hoT) ((blk_reads (q := 1) (l := nums .u64 [G.st.nx]) hk9 hk9.lt rfl)) (by omega) (by simp) (by unfold maxLen; omega) (by omega) ?_
                intro A10 c10 w10 ho10 hg10 hb10 hor10
                have hS2 := hS1.grown hg10 hne9
                refine L.nil ?_
                refine ⟨fun _ => hS2, ?_⟩
                refine D.va 13 rfl (by kernel_rfl) (fun _ _ _ h => h) rfl (fun w' hw => X.nilCheck rfl) hS2 ?_
                refine D.va 14 rfl (by kernel_rfl) (fun _ _ _ h => h) rfl (fun w' hw => X.fieldAddr rfl Tryd.underlying42 rfl sz_40 (by decide)) hS2 ?_
                refine D.one 15 (by kernel_rfl) rfl ?_
                refine L.store rfl rfl (by conv => lhs; whnf) rfl sz_40 (hS2) (by first | decide | exact Nat.le_of_ble_eq_true rfl) ?_
                intro w11 hk11 hg11 hs11
                refine L.nil ?_
                refine ⟨fun h => absurd rfl h, ?_⟩
                refine D.done (by kernel_rfl) ?_
                obtain ⟨H11, c11, g11⟩ := H9.tput (l := { G.st with tm := G.st.tm.take i ++ [G.st.nx] }) (tA := A10) (tc := c10) (by rw [show G.ts.ownBlock = Value.ownBlock (.slice G.tA i G.tc) from ob_len _ _ _ _ _]; exact hg10) (by show w10.ownsRow N 35 1 (.slice A10 (G.st.tm.take i ++ [G.st.nx]).length c10) (G.st.tm.take i ++ [G.st.nx]).length _; rw [htl7]; exact ho10) (fun b hb => by
                  rw [show Value.ownBlock (.slice A10 (G.st.tm.take i ++ [G.st.nx]).length c10) = Value.ownBlock (.slice A10 (i + 1) c10) from ob_len _ _ _ _ _] at hb
                  rcases hor10 with e | e
                  · exact .inl (by rw [← hb, e]; exact ob_len _ _ _ _ _)
                  · rw [e] at hb
                    injection hb with hb
                    exact .inr (by omega)) hg11 (by unfold Lg.cs Lg.ts; dsimp only; rw [htl7]; exact hk11) rfl
                have hb11 : Blk w11 G.p 42 #[.bool true, v1.ptr, .int .i64 (G.st.fr : Int), .int .i64 (G.st.ct : Int), .int .u64 G.st.ep, .int .u64 G.st.nx, G.ss, .slice A10 (G.st.tm.take i ++ [G.st.nx]).length c10, .int .i64 G.st.bad] := H11.hb
                have c12 := Lg.chg_trans (Lg.chg_ext (Lg.chg_ext c7 hSE) he9) p2 p3 (Lg.Gr.refl G _) c11
                have g12 := (Lg.Gr.refl G w1.heap.size).trans g11 (Nat.le_trans c7.size (Nat.le_trans hSE.le he9.le))
                refine J.seq ?_
                refine J.region ?_
                refine L.va rfl (X.move (by conv => lhs; whnf)) ?_
                refine L.va rfl (X.nilCheck rfl) ?_
                refine L.va rfl (X.fieldAddr rfl Tryd.underlying42 rfl sz_35 (by decide)) ?_
                refine L.va rfl (X.load rfl sc_35 (by first | exact Ld.blk hb11 rfl | exact hn)) ?_
                refine L.va rfl (X.addU rfl rfl (by omega)) ?_
                refine L.va rfl (X.nilCheck rfl) ?_
                refine L.va rfl (X.fieldAddr rfl Tryd.underlying42 rfl sz_35 (by decide)) ?_
                refine L.store rfl rfl (by conv => lhs; whnf) rfl sz_35 (hb11) (by first | decide | exact Nat.le_of_ble_eq_true rfl) ?_
                intro w12 hb12 hg12 hs12
                obtain ⟨H12, c13, g13⟩ := H11.put' (l := { G.st with tm := G.st.tm.take i ++ [G.st.nx], nx := G.st.nx + 1 }) (sA := G.sA) (sc := G.sc) (tA := A10) (tc := c10) hg12 hb12 H11.hs rfl H11.ht rfl
                refine L.nil ?_
                refine J.seq ?_
                refine J.region ?_
                refine L.va rfl (X.assign (by conv => lhs; whnf)) ?_
                refine L.nil ?_
                refine J.ret ?_
                refine fin1 ?_
                exact ⟨rfl, _, v1, H12, p2, p3, p4, rfl, Lg.chg_trans c12 p2 p3 g12 c13, g12.trans g13 c12.size⟩
end
end Go.Proofs.YtadfopdjhbjekaaDoor
namespace Go.Proofs.YtadfopdjhbjekaaDoor
set_option maxRecDepth 100000
open Go.RowKit H
open Lo Byts Seal Fram
set_option linter.unusedVariables false
theorem wrL_good {s : Ds} {l : Ls} {i : Nat} (h : (wrL s l i).2.2 = 0) : (wrL s l i).2.1 = { l with tm := l.tm.take i ++ [l.nx], nx := l.nx + 1 } := if_pos h
theorem wrL_Ok {s : Ds} {l : Ls} {i m : Nat} (hs : s.Ok m) (h : l.fr + i ≤ 20000) : (wrL s l i).1.Ok (m + 1) := hs.do_ _ (show ((l.fr + i : Nat) : Int) ≤ 9223372036854775807 by omega)
structure Wr (l1 l : Ls) (first j : Nat) : Prop where
  fr : l.fr = l1.fr
  ct : l.ct = l1.ct
  ep : l.ep = l1.ep
  nx : l.nx = l1.nx + j
  sm : l.sm = l1.sm
  bad : l.bad = l1.bad
  tl : first + j ≤ l.tm.length
  tt : ∀ t ∈ l.tm, 0 ≤ t ∧ t ≤ 4611686018427387904
theorem Wr.next {l1 l : Ls} {first j : Nat} (h : Wr l1 l first j) (h0 : 0 ≤ l1.nx) (hn : l1.nx + j ≤ 4611686018427387904) : Wr l1 { l with tm := l.tm.take (first + j) ++ [l.nx], nx := l.nx + 1 } first (j + 1) := by
  have hx := h.nx
  have ht := h.tl
  refine ⟨h.fr, h.ct, h.ep, by show l.nx + 1 = l1.nx + ((j + 1 : Nat) : Int); omega, h.sm, h.bad, ?_, ?_⟩
  · show first + (j + 1) ≤ (l.tm.take (first + j) ++ [l.nx]).length
    rw [List.length_append, List.length_take]
    simp
    omega
  · intro t ht'
    rcases List.mem_append.1 ht' with h1 | h1
    · exact h.tt t (List.mem_of_mem_take h1)
    · obtain rfl : t = l.nx := by simpa using h1
      omega
section
variable {G : Lg} {v : Dk} {N : Nat} {C : Nat → Prop} {w w' : World}
theorem lappend (h : G.At v N C w) {m : Nat} (hok : v.abs.Ok m) (hm : m + 8192 ≤ 1000000) (hL : Lo.Ok G.st v.kp.length) (A : Option Addr) (n c : Nat) (zs : List Int) (hr : Reads w w.heap.size 1 A n (nums .u8 zs)) (hz : Bytes zs) (hn : n ≤ 1000000) :
    Calls Tryd.prog 15 #[G.ptr, .slice A n c] w fun e w' => e = .returned (.int .i64 (appL v.abs G.st zs).2.2) ∧ G.To v N C (appL v.abs G.st zs).1 (appL v.abs G.st zs).2.1 w w' := by
  have hb := h.hb
  have hzl : zs.length = n := by have := hr.1; simpa [nums] using this
  obtain ⟨f1, f2, hep, n1, n2, hsb, hsl, htl, htt, htc⟩ := hL
  have hkl := h.hd.h1
  have hsb2 := h.hs.bd
  have hNw := h.hd.nsz
  refine enter Tryd.func15 rfl (by kernel_rfl) ?_
  refine J.seq ?_
  refine J.region ?_
  refine L.va rfl (X.assign (by conv => lhs; whnf)) ?_
  refine L.nil ?_
  refine J.seq ?_
  refine J.seq ?_
  refine J.region ?_
  refine L.va rfl (X.move (by conv => lhs; whnf)) ?_
  refine L.call rfl en_52 rfl (lfine h) ?_
  rintro e _ ⟨rfl, rfl⟩
  refine ⟨_, rfl, ?_⟩
  refine L.va rfl (X.assign (by conv => lhs; whnf)) ?_
  refine L.nil ?_
  refine J.seq ?_
  refine J.region ?_
  refine L.va rfl (X.move (by conv => lhs; whnf)) ?_
  refine L.va rfl (X.neq rfl rfl) ?_
  refine L.nil ?_
  refine J.ndec rfl (fun h1 => ?_) (fun h1 => ?_)
  · have e : appL v.abs G.st zs = (v.abs, G.st, G.st.bad) := if_pos h1
    rw [e]
    refine J.seq ?_
    refine J.region ?_
    refine L.va rfl (X.move (by conv => lhs; whnf)) ?_
    refine L.va rfl (X.assign (by conv => lhs; whnf)) ?_
    refine L.nil ?_
    refine J.ret ?_
    refine thn_ret <| ?_
    refine fin1 ?_
    exact ⟨rfl, h.toL⟩
  · have h1' : G.st.bad = 0 := by omega
    have htl := htl h1'
    by_cases hlong : 60000 < n
    · have e : appL v.abs G.st zs = (v.abs, G.st, 4) := by unfold appL; rw [if_neg (by omega), if_pos (by omega)]
      rw [e]
      refine J.skip ?_
      refine J.seq ?_
      refine J.region ?_
      refine L.va rfl (X.move (by conv => lhs; whnf)) ?_
      refine L.call rfl en_41 rfl (fput_long A n c w hlong (by omega)) ?_
      rintro e _ ⟨rfl, rfl⟩
      refine ⟨_, rfl, ?_⟩
      refine L.va rfl (X.move (by conv => lhs; whnf)) ?_
      refine L.va rfl (X.extract rfl rfl) ?_
      refine L.va rfl (X.extract rfl rfl) ?_
      refine L.va rfl (X.assign (by conv => lhs; whnf)) ?_
      refine L.va rfl (X.assign (by conv => lhs; whnf)) ?_
      refine L.nil ?_
      refine J.seq ?_
      refine J.seq ?_
      refine J.region ?_
      refine L.va rfl (X.move (by conv => lhs; whnf)) ?_
      refine L.va rfl (X.neq rfl rfl) ?_
      refine L.nil ?_
      refine J.iteT rfl ?_
      refine J.seq ?_
      refine J.region ?_
      refine L.va rfl (X.move (by conv => lhs; whnf)) ?_
      refine L.va rfl (X.assign (by conv => lhs; whnf)) ?_
      refine L.nil ?_
      refine J.ret ?_
      refine thn_ret <| ?_
      refine fin1 ?_
      exact ⟨rfl, h.toL⟩
    · obtain ⟨f, hf⟩ : ∃ f, f = frm smZ zs := ⟨_, rfl⟩
      have hfl : f.length = 8 + n := by rw [hf, frm_length smZ (fun _ => rfl), hzl]
      obtain ⟨first, hfi⟩ : ∃ q, q = G.st.sm.length / 991 := ⟨_, rfl⟩
      obtain ⟨last, hla⟩ : ∃ q, q = (G.st.sm.length + (8 + n) - 1) / 991 := ⟨_, rfl⟩
      have e : appL v.abs G.st zs = if G.st.ct * 991 < G.st.sm.length + (8 + n) ∨ 4611686018427387904 ≤ G.st.nx + ((last - first : Nat) : Int) then (v.abs, G.st, 12) else wrN v.abs { G.st with sm := G.st.sm ++ f } first (last + 1 - first) := by
        unfold appL
        rw [if_neg (by omega), if_neg (by omega), ← hf]
        dsimp only
        rw [hfl, ← hfi, ← hla]
      have ei : (G.st.sm.length : Int) / 991 = (first : Int) := by omega
      have el : ((G.st.sm.length : Int) + ((8 + n : Nat) : Int) - 1) / 991 = (last : Int) := by omega
      have hfb : Bytes f := by
        rw [hf]
        intro z hz'
        unfold frm at hz'
        rcases List.mem_append.1 hz' with h2 | h2
        · exact fhd_bytes zs hz z h2
        · exact smZ_bytes _ z h2
      refine J.skip ?_
      refine J.seq ?_
      refine J.region ?_
      refine L.va rfl (X.move (by conv => lhs; whnf)) ?_
      refine L.call rfl en_41 rfl (fput_ok A n c zs w h.tab (by omega) hr hz) ?_
      rintro e w1 ⟨A1, c1, rfl, hr1, he1, hc1, hc1'⟩
      refine ⟨_, rfl, ?_⟩
      have he1 : Ext w w1 := he1
      rw [← hf] at hr1
      rw [hzl] at hr1 hc1 ⊢
      have H1 := h.ext he1
      have hb1 := hb.ext he1
      refine L.va rfl (X.move (by conv => lhs; whnf)) ?_
      refine L.va rfl (X.extract rfl rfl) ?_
      refine L.va rfl (X.extract rfl rfl) ?_
      refine L.va rfl (X.assign (by conv => lhs; whnf)) ?_
      refine L.va rfl (X.assign (by conv => lhs; whnf)) ?_
      refine L.nil ?_
      refine J.seq ?_
      refine J.seq ?_
      refine J.region ?_
      refine L.va rfl (X.move (by conv => lhs; whnf)) ?_
      refine L.va rfl (X.neq rfl rfl) ?_
      refine L.nil ?_
      refine J.iteF rfl ?_
      refine J.skip ?_
      refine J.seq ?_
      refine J.region ?_
      refine L.va rfl (X.move (by conv => lhs; whnf)) ?_
      refine L.va rfl (X.nilCheck rfl) ?_
      refine L.va rfl (X.fieldAddr rfl Tryd.underlying42 rfl sz_22 (by decide)) ?_
      refine L.va rfl (X.load rfl sc_22 (by first | exact Ld.blk hb1 rfl)) ?_
      refine L.va rfl (X.len rfl Tryd.underlying22) ?_
      refine L.va rfl (X.quo rfl rfl (by omega)) ?_
      refine L.va rfl (X.assign (by conv => lhs; whnf)) ?_
      refine L.nil ?_
      rw [ei]
      refine J.seq ?_
      refine J.region ?_
      refine L.va rfl (X.move (by conv => lhs; whnf)) ?_
      refine L.va rfl (X.nilCheck rfl) ?_
      refine L.va rfl (X.fieldAddr rfl Tryd.underlying42 rfl sz_22 (by decide)) ?_
      refine L.va rfl (X.load rfl sc_22 (by first | exact Ld.blk hb1 rfl)) ?_
      refine L.va rfl (X.len rfl Tryd.underlying22) ?_
      refine L.va rfl (X.move (by conv => lhs; whnf)) ?_
      refine L.va rfl (X.len rfl Tryd.underlying22) ?_
      refine L.va rfl (X.add rfl rfl (by omega)) ?_
      refine L.va rfl (X.sub rfl rfl (by omega)) ?_
      refine L.va rfl (X.quo rfl rfl (by omega)) ?_
      refine L.va rfl (X.assign (by conv => lhs; whnf)) ?_
      refine L.nil ?_
      rw [el]
      refine J.seq ?_
      refine J.seq ?_
      refine J.region ?_
      refine L.va rfl (X.move (by conv => lhs; whnf)) ?_
      refine L.va rfl (X.len rfl Tryd.underlying22) ?_
      refine L.va rfl (X.move (by conv => lhs; whnf)) ?_
      refine L.call rfl en_19 rfl (lroom H1 (by omega)) ?_
      rintro e w2 ⟨rfl, he2⟩
      refine ⟨_, rfl, ?_⟩
      have he2 : Ext w1 w2 := he2
      have he02 := he1.trans he2
      have H2 := h.ext he02
      have hb2 := hb1.ext he2
      refine L.va rfl (X.gtr rfl rfl) ?_
      refine L.va rfl (X.move (by conv => lhs; whnf)) ?_
      refine L.caseDec (k := 46) rfl (fun h3 => ?_) (fun h3 => ?_)
      · rw [e, if_pos (.inl (by omega))]
        refine L.no rfl ?_
        refine L.no rfl ?_
        refine L.no rfl ?_
        refine L.no rfl ?_
        refine L.no rfl ?_
        refine L.no rfl ?_
        refine L.no rfl ?_
        refine L.no rfl ?_
        refine L.no rfl ?_
        refine L.no rfl ?_
        refine L.va rfl (X.pickT rfl (by conv => lhs; whnf)) ?_
        refine L.nil ?_
        refine J.iteT rfl ?_
        refine J.seq ?_
        refine J.region ?_
        refine L.va rfl (X.assign (by conv => lhs; whnf)) ?_
        refine L.nil ?_
        refine J.ret ?_
        refine thn_ret <| ?_
        refine fin1 ?_
        exact ⟨rfl, G, v, H2, rfl, rfl, rfl, rfl, Chg.of_ext he02, Lg.Gr.refl _ _⟩
      · refine L.va rfl (X.move (by conv => lhs; whnf)) ?_
        refine L.va rfl (X.nilCheck rfl) ?_
        refine L.va rfl (X.fieldAddr rfl Tryd.underlying42 rfl sz_35 (by decide)) ?_
        refine L.va rfl (X.load rfl sc_35 (by first | exact Ld.blk hb2 rfl)) ?_
        refine L.va rfl (X.move (by conv => lhs; whnf)) ?_
        refine L.va rfl (X.move (by conv => lhs; whnf)) ?_
        refine L.va rfl (X.sub rfl rfl (by omega)) ?_
        refine L.va rfl ((by first | exact X.convU rfl is_3 Tryd.underlying35 (by omega) | exact X.convw rfl is_3 Tryd.underlying35)) ?_
        refine L.va rfl (X.addU rfl rfl (by omega)) ?_
        refine L.va rfl (X.geq rfl rfl) ?_
        refine L.va rfl (X.pickF rfl (by conv => lhs; whnf)) ?_
        refine L.nil ?_
        refine J.dec rfl (fun h4 => ?_) (fun h4 => ?_)
        · rw [e, if_pos (.inr (by omega))]
          refine J.seq ?_
          refine J.region ?_
          refine L.va rfl (X.assign (by conv => lhs; whnf)) ?_
          refine L.nil ?_
          refine J.ret ?_
          refine thn_ret <| ?_
          refine fin1 ?_
          exact ⟨rfl, G, v, H2, rfl, rfl, rfl, rfl, Chg.of_ext he02, Lg.Gr.refl _ _⟩
        · rw [e, if_neg (by omega)]
          obtain ⟨l1, hl1⟩ : ∃ l1 : Ls, l1 = { G.st with sm := G.st.sm ++ f } := ⟨_, rfl⟩
          have l1l : l1.sm.length = G.st.sm.length + (8 + n) := by rw [hl1]; show (G.st.sm ++ f).length = _; rw [List.length_append, hfl]
          rw [← hl1]
          have hr2 := (hr1.ext he2).more he2.le
          have z2 := he02.le
          refine J.skip ?_
          refine J.seq ?_
          refine J.region ?_
          refine L.va rfl (X.move (by conv => lhs; whnf)) ?_
          refine L.va rfl (X.move (by conv => lhs; whnf)) ?_
          refine L.va rfl (X.nilCheck rfl) ?_
          refine L.va rfl (X.fieldAddr rfl Tryd.underlying42 rfl sz_22 (by decide)) ?_
          refine L.va rfl (X.load rfl sc_22 (by first | exact Ld.blk hb2 rfl)) ?_
          refine L.va rfl (X.move (by conv => lhs; whnf)) ?_
          refine L.appendSm rfl rfl rfl Tryd.underlying22 el_5 H2.hs hr2 (by omega) (by unfold maxLen; omega) (by omega) ?_
          intro A3 c3 w3 ho3 hg3 hor3
          have hb3 : Blk w3 G.p 42 (G.cs v) := hb2.grown hg3 (fun e => absurd ((H2.hs.own e.symm).1.fun_ hb2.isT) (by decide))
          refine L.va rfl (X.nilCheck rfl) ?_
          refine L.va rfl (X.fieldAddr rfl Tryd.underlying42 rfl sz_22 (by decide)) ?_
          refine L.store rfl rfl (by conv => lhs; whnf) rfl sz_22 (hb3) (by first | decide | exact Nat.le_of_ble_eq_true rfl) ?_
          intro w4 hb4 hg4 hs4
          obtain ⟨H4, c4, g4⟩ := H2.sput (l := l1) (sA := A3) (sc := c3) hg3 (by rw [l1l, hl1]; exact ho3) (fun b hb => by rw [l1l] at hb; exact hor3 b hb) hg4 (by unfold Lg.cs Lg.ss; dsimp only; rw [l1l, hl1]; exact hb4) (by rw [hl1])
          have c04 : Chg (G.LS v C w) w w4 := Lg.chg_trans (Chg.of_ext he02) rfl rfl (Lg.Gr.refl G _) c4
          have g04 : Lg.Gr G ⟨G.p, A3, c3, G.tA, G.tc, l1⟩ w.heap.size := (Lg.Gr.refl G w.heap.size).trans g4 z2
          obtain ⟨k, hk⟩ : ∃ k, k = last + 1 - first := ⟨_, rfl⟩
          have hfl2 : first ≤ last := by omega
          have hW : Wr l1 l1 first 0 := by
            refine ⟨rfl, rfl, rfl, by simp, rfl, rfl, ?_, ?_⟩
            · rw [hl1]; show first + 0 ≤ G.st.tm.length; omega
            · rw [hl1]; exact htt
          have hl1b : Bytes l1.sm := by
            rw [hl1]
            intro z hz'
            rcases List.mem_append.1 (show z ∈ G.st.sm ++ f from hz') with h2 | h2
            · exact hsb z h2
            · exact hfb z h2
          have hl1x : l1.nx = G.st.nx := by rw [hl1]
          have hl1f : l1.fr = G.st.fr := by rw [hl1]
          have hl1e : l1.ep = G.st.ep := by rw [hl1]
          have hl1d : l1.bad = 0 := by rw [hl1]; exact h1'
          rw [← hk]
          refine L.nil ?_
          refine J.seq ?_
          refine J.seq ?_
          refine J.region ?_
          refine L.va rfl (X.move (by conv => lhs; whnf)) ?_
          refine L.va rfl (X.assign (by conv => lhs; whnf)) ?_
          refine L.nil ?_
          refine J.block ?_
          refine J.loop (X := Nat × Lg × Dk) [4, 10, 11, 68, 69, 70, 71, 72, 73, 74, 75, 76, 77, 78, 79, 80, 81, 82] (fun (j, _, _) => [(10, .int .i64 ((first : Int) + (j : Int)))]) (fun (j, G2, v2) w' => j ≤ k ∧ G2.At v2 N C w' ∧ v2.d = v.d ∧ v2.kb = v.kb ∧ v2.abs.Ok (m + j) ∧ Wr l1 G2.st first j ∧ wrN v.abs l1 first k = wrN v2.abs G2.st (first + j) (k - j) ∧ Chg (G.LS v C w) w w' ∧ Lg.Gr G G2 w.heap.size) (fun (j, _, _) => k - j) ((0, ⟨G.p, A3, c3, G.tA, G.tc, l1⟩, v)) (At1 (by first | rfl | exact at_int rfl (by omega) | exact at_slice rfl (by omega) | exact at_int rfl (by simp))) ?_ ?_
          · exact ⟨Nat.zero_le _, H4, rfl, rfl, hok, hW, rfl, c04, g04⟩
          · rintro ⟨j, G2, v2⟩ g w5 ⟨hj, H5, d5, k5, ok5, W5, e5, c5, g5⟩
            have hx5 := W5.nx
            have hb5 := H5.hb
            rw [g5.p] at hb5
            refine J.seq ?_
            refine J.seq ?_
            refine J.region ?_
            refine L.va rfl (X.move (by conv => lhs; whnf)) ?_
            refine L.va rfl (X.move (by conv => lhs; whnf)) ?_
            refine L.va rfl (X.leq rfl rfl) ?_
            refine L.nil ?_
            refine J.dec rfl (fun hlt => ?_) (fun hlt => ?_)
            · have hjk : j < k := by omega
              obtain ⟨k', hk'⟩ : ∃ k', k - j = k' + 1 := ⟨k - j - 1, by omega⟩
              have K := lwrite H5 ok5 (by omega) (first + j) W5.tl (by rw [W5.sm, l1l]; omega) (by omega) (by rw [W5.fr, hl1f]; omega) (by omega) (by rw [W5.ep, hl1e]; exact hep) (by rw [W5.sm]; exact hl1b) (by rw [W5.sm, l1l]; omega) W5.tt
              rw [show G2.ptr = G.ptr by unfold Lg.ptr; rw [g5.p], show ((first + j : Nat) : Int) = (first : Int) + (j : Int) by omega] at K
              rw [hk'] at e5
              have eN : wrN v2.abs G2.st (first + j) (k' + 1) = if (wrL v2.abs G2.st (first + j)).2.2 = 0 then wrN (wrL v2.abs G2.st (first + j)).1 (wrL v2.abs G2.st (first + j)).2.1 (first + j + 1) k' else ((wrL v2.abs G2.st (first + j)).1, { (wrL v2.abs G2.st (first + j)).2.1 with bad := (wrL v2.abs G2.st (first + j)).2.2 }, (wrL v2.abs G2.st (first + j)).2.2) := rfl
              rw [eN] at e5
              have hgood := wrL_good (s := v2.abs) (l := G2.st) (i := first + j)
              have hwok := wrL_Ok (l := G2.st) (i := first + j) ok5 (by rw [W5.fr, hl1f]; omega)
              obtain ⟨r, hr0⟩ : ∃ r, r = wrL v2.abs G2.st (first + j) := ⟨_, rfl⟩
              rw [← hr0] at K e5 hgood hwok
              refine J.skip ?_
              refine J.seq ?_
              refine J.block ?_
              refine J.seq ?_
              refine J.region ?_
              refine L.va rfl (X.move (by conv => lhs; whnf)) ?_
              refine L.va rfl (X.move (by conv => lhs; whnf)) ?_
              refine L.call rfl en_53 rfl (K) ?_
              rintro e w6 ⟨rfl, G6, v6, H6, d6, k6, a6, s6, c6, g6⟩
              refine ⟨_, rfl, ?_⟩
              have c06 := Lg.chg_trans c5 d5 k5 g5 c6
              have g06 := g5.trans g6 c5.size
              have hb6 := H6.hb
              rw [g06.p] at hb6
              refine L.va rfl (X.assign (by conv => lhs; whnf)) ?_
              refine L.nil ?_
              refine J.seq ?_
              refine J.region ?_
              refine L.va rfl (X.move (by conv => lhs; whnf)) ?_
              refine L.va rfl (X.neq rfl rfl) ?_
              refine L.nil ?_
              refine J.ndec rfl (fun h0 => ?_) (fun h0 => ?_)
              · rw [if_neg (by omega)] at e5
                rw [e5]
                refine J.seq ?_
                refine J.region ?_
                refine L.va rfl (X.move (by conv => lhs; whnf)) ?_
                refine L.va rfl (X.move (by conv => lhs; whnf)) ?_
                refine L.va rfl (X.nilCheck rfl) ?_
                refine L.va rfl (X.fieldAddr rfl Tryd.underlying42 rfl sz_24 (by decide)) ?_
                refine L.store rfl rfl (by conv => lhs; whnf) rfl sz_24 (hb6) (by first | decide | exact Nat.le_of_ble_eq_true rfl) ?_
                intro w7 hb7 hg7 hs7
                obtain ⟨H7, c7, g7⟩ := H6.put' (l := { r.2.1 with bad := r.2.2 }) (sA := G6.sA) (sc := G6.sc) (tA := G6.tA) (tc := G6.tc) (by rw [g06.p]; exact hg7) (by rw [g06.p]; unfold Lg.cs Lg.ss Lg.ts; dsimp only; rw [← s6]; exact hb7) (by show Sm _ _ _ _ _ r.2.1.sm.length _ r.2.1.sm; rw [← s6]; exact H6.hs) (by show Value.ownBlock (.slice G6.sA r.2.1.sm.length G6.sc) = _; rw [← s6]) (by show World.ownsRow _ _ _ _ (.slice G6.tA r.2.1.tm.length G6.tc) r.2.1.tm.length (nums .u64 r.2.1.tm); rw [← s6]; exact H6.ht) (by show Value.ownBlock (.slice G6.tA r.2.1.tm.length G6.tc) = _; rw [← s6])
                refine L.nil ?_
                refine J.seq ?_
                refine J.region ?_
                refine L.va rfl (X.move (by conv => lhs; whnf)) ?_
                refine L.va rfl (X.assign (by conv => lhs; whnf)) ?_
                refine L.nil ?_
                refine J.ret ?_
                refine inB_ret <|  thn_ret <|  thn_ret <|  inB_ret <|  thn_ret <| ?_
                refine fin1 ?_
                exact ⟨rfl, _, v6, H7, d6.trans d5, k6.trans k5, a6, rfl, Lg.chg_trans c06 (d6.trans d5) (k6.trans k5) g06 c7, g06.trans g7 c06.size⟩
              · have h00 : r.2.2 = 0 := by omega
                rw [if_pos h00] at e5
                have hgood := hgood h00
                refine J.skip ?_
                refine J.region ?_
                refine L.va rfl (X.move (by conv => lhs; whnf)) ?_
                refine L.va rfl (X.add rfl rfl (by omega)) ?_
                refine L.va rfl (X.assign (by conv => lhs; whnf)) ?_
                refine L.nil ?_
                refine ⟨(j + 1, G6, v6), At1 (by first | rfl | exact at_int rfl (by omega) | exact at_slice rfl (by omega) | exact at_int rfl (by simp)), (by (iterate 12 refine Agr.lk rfl ?_); exact Agr.lk rfl (Agr.hav rfl Agr.rfl')), ?_⟩
                refine ⟨⟨by omega, H6, d6.trans d5, k6.trans k5, by rw [a6]; exact hwok, ?_, ?_, c06, g06⟩, by show k - (j + 1) < k - j; omega⟩
                · rw [s6, hgood]
                  exact W5.next (by omega) (by omega)
                · rw [e5, a6, s6, show k' = k - (j + 1) by omega, Nat.add_assoc]
            · have hjk : j = k := by omega
              have e6 : wrN v2.abs G2.st (first + j) (k - j) = (v2.abs, G2.st, 0) := by rw [hjk, Nat.sub_self]; rfl
              rw [e5, e6]
              refine J.exit ?_
              refine J.seq ?_
              refine J.region ?_
              refine L.va rfl (X.assign (by conv => lhs; whnf)) ?_
              refine L.nil ?_
              refine J.ret ?_
              refine fin1 ?_
              exact ⟨rfl, G2, v2, H5, d5, k5, rfl, rfl, c5, g5⟩
end
end Go.Proofs.YtadfopdjhbjekaaDoor
namespace Go.Proofs.YtadfopdjhbjekaaDoor.H
open Go.RowKit Go.Proofs.YtadfopdjhbjekaaDoor
set_option linter.unusedVariables false
set_option linter.unusedSimpArgs false
section
variable {P : Program} {m n : Nat} {ops rest : List Oper} {Q : Exit → Fr → World → Prop} {f : Fr} {w w' : World} {o : Oper} {v : Value}
def LI (m : Nat) (P : Program) (n : Nat) (ops : List Oper) (Q : Exit → Fr → World → Prop) (l : List Oper) (f : Fr) (w : World) : Prop :=
  l.all (fitO n) = true → ∀ a, Rep n f a → wpListIn Fence.wide m P ops.toArray (lft n Q) l a w
theorem LI.nil (h : Q .normal f w) : LI m P n ops Q [] f w := fun _ _ hr => ⟨f, hr, h⟩
theorem J.listIn {id : Nat} {l : List Oper} (h : LI m P n l Q l f w) : J P n (.region id l.toArray false) Q f w := by
  intro hf a hr
  simp only [fitC] at hf
  exact wpIn_wide.1 (wpIn_region_lit (h hf a hr))
theorem LI.val (hg : wn ops f o.guard = true) (hx : (execOp (ev f) o).run P w = .ok (.value v) w') (h : LI m P n ops Q rest (putO f o.dst v) w') : LI m P n ops Q (o :: rest) f w := by
  intro hf a hr
  simp only [List.all_cons, Bool.and_eq_true] at hf
  refine wpListIn_step fun K hK => ?_
  rw [wanted_eq hr, hg, if_pos rfl]
  refine ⟨fun _ _ => trivial, ?_⟩
  rw [Fence.wide_round, Oper.semAt_none, hr.eval, hx]
  exact hK _ _ (h hf.2 _ (hr.put v hf.1))
theorem LI.va {k : Nat} {op : Op} {ty : TypeId} {pos : String} {aft : Array Edge} {g : Option (Nat × Bool)} (hg : wn ops f g = true) (hx : (execOp (ev f) ⟨some k, op, ty, pos, aft, g⟩).run P w = .ok (.value v) w') (h : LI m P n ops Q rest (lk [(k, v)] f) w') : LI m P n ops Q (⟨some k, op, ty, pos, aft, g⟩ :: rest) f w := LI.val hg hx h
theorem LI.yield {r fn : Nat} {tmps : Array Value} {assign body : Code} {R : Ending → World → Prop} (hg : wn ops f o.guard = true) (hx : (execOp (ev f) o).run P w = .ok (.round r fn tmps assign body) w') (hR : RoundIn Fence.wide (m - 1) P r fn tmps assign body w' R)
    (h : ∀ e w'', R e w'' → ∃ v, e = .returned v ∧ LI m P n ops Q rest (putO f o.dst v) w'') : LI m P n ops Q (o :: rest) f w := by
  intro hf a hr
  simp only [List.all_cons, Bool.and_eq_true] at hf
  refine wpListIn_step fun K hK => ?_
  rw [wanted_eq hr, hg, if_pos rfl]
  refine ⟨fun _ _ => trivial, ?_⟩
  rw [Fence.wide_round, Oper.semAt_none, hr.eval, hx]
  refine ⟨by simp [Fence.wide], hR.mono fun e w'' hq => ?_⟩
  obtain ⟨v, rfl, hl⟩ := h e w'' hq
  exact hK _ _ (hl hf.2 _ (hr.put v hf.1))
theorem X.yield {ρ : Operand → Value} {d : Option Tmp} {ty : TypeId} {pos : String} {aft : Array Edge} {g : Option (Nat × Bool)} {c : Operand} {l : List Operand} {ts : Array TypeId} {vs : List Value} {r fn : Nat} {tmps : Array Value} {assign body : Code} (hfn : ρ c = .func (.yield r) #[] #[]) (hv : l.map ρ = vs)
    (hy : (Instr.yield r vs.toArray).run P w = .ok (.round r fn tmps assign body) w') : (execOp ρ ⟨d, .call { callee := .value c, args := l.toArray, argTypes := ts }, ty, pos, aft, g⟩).run P w = .ok (.round r fn tmps assign body) w' := by
  subst hv
  simp only [execOp, resolve, hfn, Deferred.ofValue, Sem.run_bind, Sem.run_pure, Result.andThen_ok, invoke, List.map_toArray, Array.append_empty, Array.empty_append]
  simp only [Go.invoke, Array.append_empty]
  exact hy
theorem wpListIn_of {r m : Nat} {ops : Array Oper} {Q : Exit → Act → World → Prop} (hQ : ¬ LetsOut Q) : ∀ (l : List Oper) (a : Act) (w : World), (∀ o ∈ l, ∀ c, o.op ≠ .defer c) → wpList P ops Q l a w → wpListIn (Fence.wide.inRound r) m P ops Q l a w
  | [], a, w, _, h => h
  | o :: rest, a, w, hd, h => by
    have ih := fun a w => wpListIn_of (r := r) (m := m) (ops := ops) hQ rest a w (fun o' ho => hd o' (by simp [ho]))
    unfold wpList at h
    unfold wpListIn
    by_cases hw : Region.wanted o (yielded ops a.tmps) = true
    · rw [if_pos hw] at h ⊢
      rcases h with h | ⟨_, h⟩
      · refine ⟨fun _ _ => trivial, ?_⟩
        rw [Fence.inRound_round, Oper.semAt_some _ _ _ (hd o (by simp))]
        unfold Oper.wp at h
        revert h
        generalize (execOp a.eval o).run P w = x
        intro h
        cases x with
        | ok v w' =>
          cases v with
          | value v => exact ih _ _ h
          | skip => exact ih _ _ h
          | defer d => exact ih _ _ h
          | enter fn args =>
            refine ⟨by simp [Fence.wide], CallsIn.inRound r (callsIn_wide.2 (Calls.mono h fun e w'' hq => ?_))⟩
            cases e with
            | returned v => exact ih _ _ hq
            | panicked chain => exact hq
            | outgrown => exact hq
          | row row args =>
            refine ⟨by simp [Fence.wide], fun c cs _ => ?_⟩
            obtain ⟨v, w'', hq, hs⟩ := h c cs
            exact ⟨v, w'', ih _ _ hq, stepsIn_wide.2 hs⟩
          | _ => exact h.elim
        | halt x w' =>
          cases x with
          | panic v => exact h
          | _ => exact h.elim
      · exact absurd h hQ
    · rw [if_neg hw] at h ⊢
      exact ⟨fun _ _ => trivial, ih _ _ h⟩
theorem rep0 {l : List Value} (hle : l.length ≤ n) : Rep n (lk (args l 0) fun _ => undef) { tmps := l.toArray ++ Array.replicate (n - l.toArray.size) undef, defers := [] } := by
  refine ⟨by simp; omega, rfl, ?_⟩
  intro j
  have key : ∀ (l : List Value) (i j : Nat), lk ((List.range' i l.length).zip l) (fun _ => undef) j = if i ≤ j then l.getD (j - i) undef else undef := by
    intro l
    induction l with
    | nil => intro i j; simp [lk]
    | cons a l ih =>
      intro i j
      simp only [List.length_cons, List.range'_succ, List.zip_cons_cons, lk]
      rw [ih (i + 1) j]
      cases hb : Nat.beq j i with
      | true =>
        have := Nat.eq_of_beq_eq_true hb
        subst this
        simp
      | false =>
        have hne : j ≠ i := fun e => by subst e; rw [Nat.beq_refl] at hb; cases hb
        by_cases hij : i + 1 ≤ j
        · rw [if_pos hij, if_pos (by omega), show j - i = (j - (i + 1)) + 1 by omega]
          simp
        · rw [if_neg hij, if_neg (by omega)]
          rfl
  show (l.toArray ++ Array.replicate (n - l.toArray.size) undef).getD j undef = _
  unfold args
  rw [key l 0 j, if_pos (Nat.zero_le _), Nat.sub_zero, Array.getD_eq_getD_getElem?, Array.getElem?_append]
  by_cases hj : j < l.length
  · simp [hj, List.getD]
  · simp only [List.size_toArray, hj, if_false, List.getD, List.getElem?_eq_none (Nat.le_of_not_lt hj)]
    rw [Array.getElem?_replicate]
    split <;> rfl
def JX (P : Program) (n : Nat) (c : Code) (K : Exit → Act → World → Prop) (f : Fr) (w : World) : Prop := ∀ a, Rep n f a → c.wp P K a w
section
variable {c x y : Code} {K : Exit → Act → World → Prop}
theorem enterM {id : FuncId} {fn : Func} {l : List Value} {R : Ending → World → Prop} (hf : P.funcs[id]? = some fn) (hb : fn.body = some c) (hk : Nat.ble l.length fn.ntmps = true)
    (h : JX P fn.ntmps c (bodyPostM Fence.wide 1 P fn R) (lk (args l 0) fun _ => undef) w) : Calls P id l.toArray w R :=
  callsIn_wide.1 (callsIn_of_wp_marks hf hb trivial (wpIn_wide.2 (h _ (rep0 (Nat.le_of_ble_eq_true hk)))) rfl)
theorem JX.seq (hx : fitC n x = true) (h : J P n x (thn (JX P n y K) fun _ _ _ => False) f w) : JX P n (.seq x y) K f w := by
  intro a hr
  refine wp_seq (wp_mono (h hx a hr) ?_)
  rintro e a' w' ⟨f', hr', hq⟩
  cases e
  case normal => exact hq a' hr'
  all_goals exact hq.elim
theorem JX.seqX (h : JX P n x (fun e a w => e = .normal ∧ y.wp P K a w) f w) : JX P n (.seq x y) K f w := by
  intro a hr
  refine wp_seq (wp_mono (h a hr) ?_)
  rintro e a' w' ⟨rfl, hq⟩
  exact hq
theorem JX.block {id : Nat} (h : JX P n c (fun e a w => e = .normal ∧ K .normal a w) f w) : JX P n (.block id c) K f w := by
  intro a hr
  refine wp_block (wp_mono (h a hr) ?_)
  rintro e a' w' ⟨rfl, hq⟩
  exact hq
theorem JX.rangeF {o : Operand} {ps : Array Tmp} {assign body : Code} {gf : Nat} {cs : List Value} (hx : ev f o = .func (.func gf) #[] cs.toArray) (he : Ent P gf)
    (h : ∀ (fn : Nat) (a : Act), Rep n f a → ∀ rec : Loop, rec = { state := .ready, pending := none, fn, tmps := a.tmps, params := ps, assign, body, defers := w.heap.size } →
      Calls P gf (#[.func (.yield (w.heap.size + 1)) #[] #[]] ++ cs.toArray) ((w.alloc (.deferred (some []))).alloc (.loop rec)) fun e w3 => (∃ v, e = .returned v) ∧ w3.heap[w.heap.size + 1]? = some (.loop rec) ∧
        K .normal { a with defers := [{ target := .collected w.heap.size, args := #[] }] } (w3.putObj (w.heap.size + 1) (.loop { rec with state := .exhausted }))) :
    JX P n (.rangeFunc o ps assign body) K f w := by
  intro a hr
  refine wpIn_wide.1 (wpIn_rangeFunc (n := 1) ?_)
  intro fn _
  obtain ⟨rec, hrec⟩ : ∃ rec : Loop, rec = { state := .ready, pending := none, fn, tmps := a.tmps, params := ps, assign, body, defers := w.heap.size } := ⟨_, rfl⟩
  have h1 : (Instr.enterLoop fn a.tmps ps assign body Fence.wide.round).run P w = .ok (w.heap.size + 1, [{ target := .collected w.heap.size, args := #[] }]) ((w.alloc (.deferred (some []))).alloc (.loop rec)) := by
    rw [hrec, Fence.wide_round]
    exact run_enterLoop_outer _ _ _ _ _
  have h2 : ∀ W : World, (resolve a.eval (rangeCall o (w.heap.size + 1)) 0).run P W = .ok { target := .fn (.func gf) cs.toArray, args := #[.func (.yield (w.heap.size + 1)) #[] #[]] } W := fun W => by
    rw [hr.eval]
    simp only [resolve, hx]
    simp [go_sem, ev]
  have h3 : ∀ W : World, (Go.invoke (.fn (.func gf) cs.toArray) #[.func (.yield (w.heap.size + 1)) #[] #[]]).run P W = .ok (.enter gf (#[.func (.yield (w.heap.size + 1)) #[] #[]] ++ cs.toArray)) W := fun W => by
    simp only [Go.invoke, he.run]
  have h4 := h fn a hr rec hrec
  refine ⟨_, _, _, _, _, gf, _, _, h1, h2 _, fun _ _ => trivial, h3 _, fun h => by simp [Fence.wide] at h, callsIn_wide.2 (h4.mono ?_)⟩
  rintro e w3 ⟨⟨v, rfl⟩, hl, hk⟩
  have h5 := run_endLoop (P := P) hl (by rw [hrec]; simp)
  have h6 : rec.pending = none := by rw [hrec]
  refine ⟨none, w3.putObj (w.heap.size + 1) (.loop { rec with state := .exhausted }), h5.trans (congrArg (fun j => Result.ok j _) h6), ?_⟩
  show K .normal { tmps := a.tmps, defers := [{ target := .collected w.heap.size, args := #[] }] ++ a.defers } _
  rw [hr.defers]
  exact hk
theorem wpQuiet_dfr {C : World → Prop} {ops : Array Oper} {D : List Deferred} {Q : Act → Prop} : ∀ (l : List Oper) (a : Act), wpQuiet P ops C Q l a → wpQuiet P ops C (fun a' => ∃ a0, Q a0 ∧ a' = { a0 with defers := D }) l { a with defers := D }
  | [], a, h => ⟨a, h, rfl⟩
  | o :: rest, a, h => by
    have ev_ : Act.eval { a with defers := D } = a.eval := by
      funext x
      cases x <;> rfl
    have put_ : ∀ v, Act.put { a with defers := D } o.dst v = { a.put o.dst v with defers := D } := fun v => by
      cases o.dst <;> rfl
    unfold wpQuiet at h ⊢
    show if Region.wanted o (yielded ops a.tmps) then _ else _
    by_cases hw : Region.wanted o (yielded ops a.tmps) = true
    · rw [if_pos hw] at h ⊢
      obtain ⟨v, h1, h2⟩ := h
      refine ⟨v, fun w' hw' => ?_, ?_⟩
      · have := h1 w' hw'
        unfold Oper.quietAt at this ⊢
        rw [ev_]
        exact this
      · rw [put_]
        exact wpQuiet_dfr rest _ h2
    · rw [if_neg hw] at h ⊢
      rw [put_]
      exact wpQuiet_dfr rest _ h
theorem tailM {fn : Func} {R : Ending → World → Prop} {D id : Nat} {l : List Oper} {a : Act} (hr : Rep n f a) (hm : P.follows .mixedOrders = true) (hB : Region.lexB .any l.toArray = true) (hfit : l.all (fitO n) = true)
    (hD : w.heap[D]? = some (.deferred (some [])))
    (hq : Qt P n l (Ext w) (fun f' => ∀ w', Ext w w' → fin P fn.results R .ret f' (w'.putObj D (.deferred none))) l f) :
    (Code.seq (.region id l.toArray true) .ret).wp P (bodyPostM Fence.wide 1 P fn R) { a with defers := [{ target := .collected D, args := #[] }] } w := by
  refine wp_seq (wp_region_quiet (C := Ext w) hm hB (Ext.drew w) (wpQuiet_mono ?_ (wpQuiet_dfr l a (hq hfit a hr))))
  rintro a' ⟨a0, ⟨f', hr', hf⟩, rfl⟩ w' hw'
  refine wp_ret ?_
  obtain ⟨v, hv, hR⟩ := hf w' hw'
  have hD' : w'.heap[D]? = some (.deferred (some [])) := (hw'.block D (Array.getElem?_eq_some_iff.1 hD).1).trans hD
  refine ⟨by simp, .inl ⟨D, _, rfl, run_takeDeferred hD', ?_⟩⟩
  exact ⟨v, by rw [results_eq hr']; exact hv, hR⟩
end
def JI (r m : Nat) (P : Program) (n : Nat) (c : Code) (Q : Exit → Fr → World → Prop) (f : Fr) (w : World) : Prop :=
  fitC n c = true → ∀ a, Rep n f a → c.wpIn (Fence.wide.inRound r) m P (lft n Q) a w
section
variable {r : Nat} {c x y : Code}
theorem JI.seq (h : JI r m P n x (thn (JI r m P n y Q) Q) f w) : JI r m P n (.seq x y) Q f w := by
  intro hf a hr
  simp only [fitC, Bool.and_eq_true] at hf
  refine wpIn_seq (wpIn_mono (h hf.1 a hr) ?_)
  rintro e a' w' ⟨f', hr', hq⟩
  cases e
  case normal => exact hq hf.2 a' hr'
  all_goals exact ⟨f', hr', hq⟩
theorem JI.block {id : Nat} (h : JI r m P n c (fun e f w => e = .normal ∧ Q .normal f w) f w) : JI r m P n (.block id c) Q f w := by
  intro hf a hr
  simp only [fitC] at hf
  refine wpIn_block (wpIn_mono (h hf a hr) ?_)
  rintro e a' w' ⟨f', hr', rfl, hq⟩
  exact ⟨f', hr', hq⟩
def noDf (o : Oper) : Bool := match o.op with
  | .defer _ => false
  | _ => true
theorem JI.region {id : Nat} {l : List Oper} (hnd : l.all noDf = true) (hQ : ∀ f w, ¬ Q .outgrown f w) (h : L P n l Q l f w) : JI r m P n (.region id l.toArray false) Q f w := by
  intro hf a hr
  simp only [fitC] at hf
  refine wpIn_region_lit (wpListIn_of ?_ _ _ _ (fun o ho c e => ?_) (h hf a hr))
  · rintro ⟨a', w', f', _, hq⟩
    exact hQ f' w' hq
  · have := List.all_eq_true.1 hnd o ho
    unfold noDf at this
    rw [e] at this
    cases this
theorem round_of {assign body : Code} {a : Act} {fn : Nat} {R : Ending → World → Prop} (hr : Rep n f a) (hf1 : fitC n assign = true) (hf2 : fitC n body = true)
    (h : JI r m P n assign (fun e f' w' => e = .normal ∧ ∃ w2, (Instr.beginRound r).run P w' = .ok () w2 ∧ JI r m P n body (fun e f3 w3 => e = .normal ∧ ∃ v w4, (Instr.endRound r none).run P w3 = .ok v w4 ∧ R (.returned v) w4) f' w2) f w) :
    RoundIn Fence.wide m P r fn a.tmps assign body w R := by
  refine roundIn_of_wpIn trivial ?_
  have ha : ({ tmps := a.tmps, defers := [] } : Act) = a := by
    have := hr.defers
    cases a
    cases this
    rfl
  rw [ha]
  refine wpIn_mono (h hf1 a hr) ?_
  rintro e a' w' ⟨f', hr', rfl, w2, hb, hj⟩
  refine ⟨w2, hb, wpIn_mono (hj hf2 a' hr') ?_⟩
  rintro e a3 w3 ⟨f3, hr3, rfl, v, w4, he, hR⟩
  exact ⟨v, w4, he, hR⟩
end
end
end Go.Proofs.YtadfopdjhbjekaaDoor.H
namespace Go.Proofs.YtadfopdjhbjekaaDoor
set_option maxRecDepth 100000
open Go.RowKit H
open Byts Fram
set_option linter.unusedVariables false
structure Bo where
  A : Option Addr
  c : Nat
  l : List Int
def Bo.v (b : Bo) : Value := .slice b.A b.l.length b.c
theorem own_low {w : World} {base base' e sz n : Nat} {v : Value} {xs : List Value} (h : w.ownsRow base e sz v n xs) (hb : base' ≤ base) : w.ownsRow base' e sz v n xs := by
  refine ⟨h.1, ?_⟩
  rcases h.2 with h1 | ⟨b, cap, cur, h1, h2, h3⟩
  · exact .inl h1
  · exact .inr ⟨b, cap, cur, h1, Nat.le_trans hb h2, h3⟩
theorem frames_ (A : Option Addr) (n c : Nat) (y : Nat) (w : World) : Calls Tryd.prog 46 #[.slice A n c, .pointer (some ⟨y, 0, none⟩)] w fun e w' =>
    ∃ b1 b2, e = .returned (.func (.func 68) #[] #[.pointer (some ⟨b1, 0, none⟩), .pointer (some ⟨b2, 0, none⟩)]) ∧ w.heap.size ≤ b1 ∧ w.heap.size ≤ b2 ∧ Blk w' b1 22 #[.slice A n c] ∧ Blk w' b2 102 #[.pointer (some ⟨y, 0, none⟩)] ∧ Ext w w' := by
  refine enter Tryd.func46 rfl (by kernel_rfl) ?_
  refine J.seq ?_
  refine J.region ?_
  refine L.box rfl (by conv => lhs; whnf) ?_
  intro b1 w1 hb1 hs1 hk1 he1
  refine L.box rfl (by conv => lhs; whnf) ?_
  intro b2 w2 hb2 hs2 hk2 he2
  refine L.va rfl (X.assign (by conv => lhs; whnf)) ?_
  refine L.nil ?_
  refine J.seq ?_
  refine J.region ?_
  refine L.va rfl (X.makeFn rfl) ?_
  refine L.va rfl (X.assign (by conv => lhs; whnf)) ?_
  refine L.nil ?_
  refine J.ret ?_
  refine fin1 ?_
  exact ⟨b1, b2, rfl, by omega, by omega, hk1.ext he2, hk2, he1.trans he2⟩
theorem frames1 (l b1 b2 y : Nat) (A : Option Addr) (n c N : Nat) (zs : List Int) (w0 : World) (Inv : Nat → List Bo → World → Prop) (Fin : Nat → List Bo → Int → World → Prop)
    (ht : Tab w0) (hN : N = w0.heap.size) (hr : Reads w0 N 1 A n (nums .u8 zs)) (hz : ∀ z ∈ zs, 0 ≤ z ∧ z < 256) (hnc : n ≤ c) (hc0 : c ≤ 9223372036854775807)
    (hI : ∀ p bs W, Inv p bs W → Below N w0 W ∧ Blk W b1 22 #[.slice A n c] ∧ Blk W b2 102 #[.pointer (some ⟨y, 0, none⟩)] ∧ Blk W y 24 #[.int .i64 0])
    (hE : ∀ p bs W W', Inv p bs W → Ext W W' → Inv p bs W')
    (hY : ∀ p bs W b, Inv p bs W → W.ownsRow N 5 1 b.v b.l.length (nums .u8 b.l) → p < n → gE smZ (zs.drop p) = 0 → b.l = gB smZ (zs.drop p) →
      ∃ fn tmps assign body, (Instr.yield l #[.int .i64 ((p + gStep (zs.drop p) : Nat) : Int), b.v]).run Tryd.prog W = .ok (.round l fn tmps assign body) W ∧ RoundIn Fence.wide (1 - 1) Tryd.prog l fn tmps assign body W fun e W' => e = .returned (.bool true) ∧ Inv (p + gStep (zs.drop p)) (bs ++ [b]) W')
    (hS : ∀ p bs W W' e, Inv p bs W → Blk W' y 24 #[.int .i64 e] → W.grownBy W' (some y) → p < n → gE smZ (zs.drop p) = e → e ≠ 0 → Fin p bs e W')
    (hF : ∀ p bs W, Inv p bs W → n ≤ p → Fin p bs 0 W)
    (w : World) (h0 : Inv 0 [] w) :
    Calls Tryd.prog 68 #[.func (.yield l) #[] #[], .pointer (some ⟨b1, 0, none⟩), .pointer (some ⟨b2, 0, none⟩)] w fun e w' => e = .returned (.tuple #[]) ∧ ∃ p bs e', Fin p bs e' w' := by
  have hl : zs.length = n := by have := hr.1; simpa [nums] using this
  refine enter Tryd.func68 rfl (by kernel_rfl) ?_
  refine J.seq ?_
  refine J.region ?_
  refine L.va rfl (X.assign (by conv => lhs; whnf)) ?_
  refine L.nil ?_
  refine J.block ?_
  refine J.loop (X := Nat × List Bo) [4, 5, 6, 7, 8, 9, 10, 11, 12, 13, 14, 15, 16, 17, 18, 19, 20, 21, 22, 23, 24, 25, 26, 27, 28, 29, 30, 31, 32] (fun (p, bs) => [(4, .int .i64 (p : Int))]) (fun (p, bs) w' => p ≤ n ∧ Inv p bs w') (fun (p, _) => n - p) ((0, [])) (At1 (by first | rfl | exact at_int rfl (by omega) | exact at_slice rfl (by omega) | exact at_int rfl (by simp))) ?_ ?_
  · exact ⟨Nat.zero_le _, h0⟩
  · rintro ⟨p, bs⟩ g w2 ⟨hp, hI2⟩
    obtain ⟨hB2, k1, k2, ky⟩ := hI p bs w2 hI2
    refine J.seq ?_
    refine J.seq ?_
    refine J.region ?_
    refine L.va rfl (X.move (by conv => lhs; whnf)) ?_
    refine L.va rfl (X.load rfl sc_22 (by first | exact Ld.blk k1 rfl | exact Ld.blk k2 rfl)) ?_
    refine L.va rfl (X.len rfl Tryd.underlying22) ?_
    refine L.va rfl (X.lss rfl rfl) ?_
    refine L.nil ?_
    refine J.dec rfl (fun hlt => ?_) (fun hlt => ?_)
    · have hlt : p < n := by omega
      have hr2 := hr.below hB2
      have ht2 := ht.below hB2 (by omega)
      have hsz := hB2.size
      have hr3 := part_nums hr2 (i := p) (j := n) (by omega) (Nat.le_refl _) hnc
      rw [List.take_of_length_le (by rw [List.length_drop]; omega)] at hr3
      refine J.skip ?_
      refine J.block ?_
      refine J.seq ?_
      refine J.region ?_
      refine L.va rfl (X.load rfl sc_22 (by first | exact Ld.blk k1 rfl | exact Ld.blk k2 rfl)) ?_
      refine L.va rfl (X.move (by conv => lhs; whnf)) ?_
      refine L.va rfl ((by first | exact X.sliceFromn rfl rfl Tryd.underlying22 sz_5 (by omega) | exact X.sliceFrom rfl rfl Tryd.underlying22 sz_5 (by omega))) ?_
      refine L.call rfl en_9 rfl (fgetO_any _ (n - p) (c - p) (zs.drop p) w2 ht2 (hr3.more (by omega)) (fun z h ↦ hz z (List.mem_of_mem_drop h)) (by omega) (by omega)) ?_
      rintro e w4 ⟨A4, c4, rfl, ho4, hb4⟩
      refine ⟨_, rfl, ?_⟩
      have hI4 := hE p bs w2 w4 hI2 hb4
      obtain ⟨hB4, k41, k42, ky4⟩ := hI p bs w4 hI4
      refine L.va rfl (X.move (by conv => lhs; whnf)) ?_
      refine L.va rfl (X.extract rfl rfl) ?_
      refine L.va rfl (X.extract rfl rfl) ?_
      refine L.va rfl (X.extract rfl rfl) ?_
      refine L.va rfl (X.assign (by conv => lhs; whnf)) ?_
      refine L.va rfl (X.assign (by conv => lhs; whnf)) ?_
      refine L.va rfl (X.assign (by conv => lhs; whnf)) ?_
      refine L.nil ?_
      refine J.seq ?_
      refine J.seq ?_
      refine J.region ?_
      refine L.va rfl (X.move (by conv => lhs; whnf)) ?_
      refine L.va rfl (X.neq rfl rfl) ?_
      refine L.nil ?_
      refine J.ndec rfl (fun hbad => ?_) (fun hbad => ?_)
      · skip
        refine J.seq ?_
        refine J.region ?_
        refine L.va rfl (X.load rfl sc_102 (by first | exact Ld.blk k41 rfl | exact Ld.blk k42 rfl | exact Ld.blk ky4 rfl)) ?_
        refine L.va rfl (X.move (by conv => lhs; whnf)) ?_
        refine L.va rfl (X.nilCheck rfl) ?_
        refine L.store rfl rfl (by conv => lhs; whnf) rfl sz_24 (ky4) (by first | decide | exact Nat.le_of_ble_eq_true rfl) ?_
        intro w5 hk5 hg5 hs5
        refine L.nil ?_
        refine J.ret ?_
        refine thn_ret <|  inB_ret <|  thn_ret <|  inB_ret <| ?_
        refine fin0 (.inl rfl) ?_
        exact ⟨rfl, p, bs, _, hS p bs w4 w5 _ hI4 hk5 hg5 hlt rfl hbad⟩
      · have hok : gE smZ (zs.drop p) = 0 := hbad
        obtain ⟨h8, hle, hst⟩ := gN_ok (fun z h => hz z (List.mem_of_mem_drop h)) hok
        rw [List.length_drop] at hle
        rw [← hst]
        obtain ⟨fn, tmps, asn, bdy, hy, hR⟩ := hY p bs w4 ⟨A4, c4, gB smZ (zs.drop p)⟩ hI4 (own_low ho4 (by omega)) hlt hok rfl
        refine J.skip ?_
        refine J.seq ?_
        refine J.region ?_
        refine L.va rfl (X.move (by conv => lhs; whnf)) ?_
        refine L.va rfl (X.move (by conv => lhs; whnf)) ?_
        refine L.va rfl (X.add rfl rfl (by omega)) ?_
        refine L.va rfl (X.assign (by conv => lhs; whnf)) ?_
        refine L.nil ?_
        refine J.seq ?_
        refine J.listIn (m := 1) ?_
        refine LI.va rfl (X.move (by conv => lhs; whnf)) ?_
        refine LI.va rfl (X.move (by conv => lhs; whnf)) ?_
        refine LI.va rfl (X.move (by conv => lhs; whnf)) ?_
        refine LI.yield rfl (X.yield rfl rfl (hy)) (hR) ?_
        rintro e w5 ⟨rfl, hI5⟩
        refine ⟨_, rfl, ?_⟩
        refine LI.va rfl (X.not rfl) ?_
        refine LI.nil ?_
        refine J.iteF rfl ?_
        refine J.skip ?_
        refine ⟨(p + gStep (zs.drop p), bs ++ [⟨A4, c4, gB smZ (zs.drop p)⟩]), At1 (by first | rfl | exact at_int rfl (by omega) | exact at_slice rfl (by omega) | exact at_int rfl (by simp)), (by (iterate 26 refine Agr.lk rfl ?_); exact Agr.lk rfl (Agr.hav rfl Agr.rfl')), ?_⟩
        exact ⟨⟨by omega, hI5⟩, by show n - (p + gStep (zs.drop p)) < n - p; omega⟩
    · refine J.exit ?_
      refine thn_exit <| thn_exit <| inB_eq ?_
      refine fin0 (.inr rfl) ?_
      exact ⟨rfl, p, bs, 0, hF p bs w2 hI2 (by omega)⟩
end Go.Proofs.YtadfopdjhbjekaaDoor
namespace Go.Proofs.YtadfopdjhbjekaaDoor
set_option maxRecDepth 100000
open Go.RowKit H
open Byts Fram
set_option linter.unusedVariables false
structure FrJ (N M l D b1 b2 y : Nat) (A : Option Addr) (n c : Nat) (rec : Loop) (w0 : World) (er : Int) (bs : List Bo) (W : World) : Prop where
  bel : Below N w0 W
  lp : W.heap[l]? = some (.loop rec)
  df : W.heap[D]? = some (.deferred (some []))
  k1 : Blk W b1 22 #[.slice A n c]
  k2 : Blk W b2 102 #[.pointer (some ⟨y, 0, none⟩)]
  ky : Blk W y 24 #[.int .i64 er]
  el : ∀ b ∈ bs, W.ownsRow N 5 1 b.v b.l.length (nums .u8 b.l)
  lt : b1 < M
theorem blk_put {W : World} {b l t : Nat} {cs : Array Value} {o : Loop} (h : Blk W b t cs) (hl : W.heap[l]? = some (.loop o)) (o' : Obj) : Blk (W.putObj l o') b t cs := by
  have hne : b ≠ l := fun e => by
    subst e
    have h2 : W.heap[b]? = some (.cells cs t (0, 0)) := h
    rw [hl] at h2
    cases h2
  exact (World.putObj_heap_other hne).trans h
theorem blk_one {W : World} {g t t' : Nat} {cs cs' : Array Value} (h : Blk W g t cs) (h' : Blk W g t' cs') : t = t' := by
  have h1 : W.heap[g]? = some (.cells cs t (0, 0)) := h
  have h2 : W.heap[g]? = some (.cells cs' t' (0, 0)) := h'
  rw [h1] at h2
  injection h2 with h2
  injection h2
theorem own_blk {w : World} {base e size n : Nat} {v : Value} {xs : List Value} (h : w.ownsRow base e size v n xs) {g : Nat} (hg : v.ownBlock = some g) : (∃ cs, Blk w g e cs) ∧ base ≤ g := by
  rcases h.2 with ⟨rfl, _⟩ | ⟨b, cap, cur, rfl, hb, hh, _⟩
  · cases hg
  · obtain rfl : b = g := by injection hg
    exact ⟨⟨cur, hh⟩, hb⟩
section
variable {N M l D b1 b2 y : Nat} {A : Option Addr} {n c : Nat} {rec : Loop} {w0 : World} {er : Int} {bs : List Bo} {W W' : World} {S : Nat → Prop}
theorem FrJ.chg (h : FrJ N M l D b1 b2 y A n c rec w0 er bs W) (hC : Chg S W W') (hN : N ≤ W.heap.size) (h1 : ∀ g, S g → N ≤ g)
    (h2 : ∀ g, S g → ∃ t cs, Blk W g t cs ∧ t ≠ 5 ∧ t ≠ 102 ∧ t ≠ 24 ∧ g ≠ b1) : FrJ N M l D b1 b2 y A n c rec w0 er bs W' := by
  have nl : ∀ g (o : Obj), W.heap[g]? = some o → (∀ cs t, o ≠ .cells cs t (0, 0)) → W'.heap[g]? = some o := fun g o hg ho => by
    refine (hC.block g (Array.getElem?_eq_some_iff.1 hg).1 fun hS => ?_).trans hg
    obtain ⟨t, cs, hb, _⟩ := h2 g hS
    have hb : W.heap[g]? = some (.cells cs t (0, 0)) := hb
    rw [hg] at hb
    exact ho cs t (Option.some.inj hb)
  refine ⟨h.bel.trans (hC.below hN h1), nl _ _ h.lp (fun _ _ e => by cases e), nl _ _ h.df (fun _ _ e => by cases e), hC.blk h.k1 fun hS => ?_, hC.blk h.k2 fun hS => ?_, hC.blk h.ky fun hS => ?_, fun b hb => hC.own (h.el b hb) fun g hg hS => ?_, h.lt⟩
  · obtain ⟨t, cs, _, _, _, _, hne⟩ := h2 _ hS
    exact hne rfl
  · obtain ⟨t, cs, hb, _, hne, _⟩ := h2 _ hS
    exact hne (blk_one hb h.k2)
  · obtain ⟨t, cs, hb, _, _, hne, _⟩ := h2 _ hS
    exact hne (blk_one hb h.ky)
  · obtain ⟨t, cs, hb', hne, _⟩ := h2 _ hS
    obtain ⟨⟨cs', h5⟩, _⟩ := own_blk (h.el b hb) hg
    exact hne (blk_one hb' h5)
theorem FrJ.ext (h : FrJ N M l D b1 b2 y A n c rec w0 er bs W) (he : Ext W W') (hN : N ≤ W.heap.size) : FrJ N M l D b1 b2 y A n c rec w0 er bs W' :=
  h.chg (S := fun _ => False) (Chg.of_ext he) hN (fun _ h => h.elim) (fun _ h => h.elim)
theorem FrJ.put (h : FrJ N M l D b1 b2 y A n c rec w0 er bs W) (hN : N ≤ l) (hD : D ≠ l) (rec' : Loop) : FrJ N M l D b1 b2 y A n c rec' w0 er bs (W.putObj l (.loop rec')) := by
  have hlt := (Array.getElem?_eq_some_iff.1 h.lp).1
  refine ⟨?_, World.putObj_heap_same hlt, (World.putObj_heap_other hD).trans h.df, blk_put h.k1 h.lp _, blk_put h.k2 h.lp _, blk_put h.ky h.lp _, fun b hb => ownsRow_putObj (h.el b hb) _ h.lp rfl, h.lt⟩
  exact h.bel.trans (Chg.below (S := fun g => g = l) (Chg.of_grown (grownBy_putObj' W l _) fun g e => by injection e with e; exact e.symm) (by omega) (fun g e => by omega))
theorem FrJ.snoc (h : FrJ N M l D b1 b2 y A n c rec w0 er bs W) {b : Bo} (hb : W.ownsRow N 5 1 b.v b.l.length (nums .u8 b.l)) : FrJ N M l D b1 b2 y A n c rec w0 er (bs ++ [b]) W :=
  ⟨h.bel, h.lp, h.df, h.k1, h.k2, h.ky, fun b' hb' => by
    rcases List.mem_append.1 hb' with h1 | h1
    · exact h.el b' h1
    · rw [List.mem_singleton] at h1
      rw [h1]
      exact hb, h.lt⟩
structure FrK (M bo bu p : Nat) (bs : List Bo) (W : World) : Prop where
  ku : Blk W bu 3 #[.int .i64 (p : Int)]
  ro : ∃ Ao co, Blk W bo 29 #[.slice Ao bs.length co] ∧ W.ownsRow M 22 1 (.slice Ao bs.length co) bs.length (bs.map Bo.v)
theorem FrK.chg {bo bu p : Nat} (h : FrK M bo bu p bs W) (hC : Chg S W W') (h2 : ∀ g, S g → ∀ t cs, Blk W g t cs → t ≠ 3 ∧ t ≠ 29 ∧ t ≠ 22) : FrK M bo bu p bs W' := by
  obtain ⟨Ao, co, r1, r2⟩ := h.ro
  refine ⟨hC.blk h.ku fun hS => (h2 _ hS _ _ h.ku).1 rfl, Ao, co, hC.blk r1 fun hS => (h2 _ hS _ _ r1).2.1 rfl, hC.own r2 fun g hg hS => ?_⟩
  obtain ⟨⟨cs, h5⟩, _⟩ := own_blk r2 hg
  exact (h2 _ hS _ _ h5).2.2 rfl
theorem FrK.ext {bo bu p : Nat} (h : FrK M bo bu p bs W) (he : Ext W W') : FrK M bo bu p bs W' := h.chg (S := fun _ => False) (Chg.of_ext he) (fun _ h => h.elim)
theorem FrK.put {bo bu p : Nat} (h : FrK M bo bu p bs W) (hl : W.heap[l]? = some (.loop rec)) (rec' : Loop) : FrK M bo bu p bs (W.putObj l (.loop rec')) := by
  obtain ⟨Ao, co, r1, r2⟩ := h.ro
  exact ⟨blk_put h.ku hl _, Ao, co, blk_put r1 hl _, ownsRow_putObj r2 _ hl rfl⟩
end
theorem fold2 (T : Array Value) (v u : Value) : ((#[12, 13] : Array Tmp).zip #[v, u]).foldl (fun tmps (t, a) => tmps.setIfInBounds t a) T = (T.setIfInBounds 12 v).setIfInBounds 13 u := by
  simp
theorem fall (A : Option Addr) (n c : Nat) (zs : List Int) (w : World) (ht : Tab w) (hr : Reads w w.heap.size 1 A n (nums .u8 zs)) (hz : ∀ z ∈ zs, 0 ≤ z ∧ z < 256) (hnc : n ≤ c) (hc0 : c ≤ 9223372036854775807) (hn : n ≤ 1000000) :
    Calls Tryd.prog 11 #[.slice A n c] w fun e w' => ∃ Ao co bs p er, e = .returned (.tuple #[.slice Ao (bs : List Bo).length co, .int .i64 ((p : Nat) : Int), .int .i64 er]) ∧ allF zs 0 = (bs.map Bo.l, p, er) ∧
      w'.ownsRow w.heap.size 22 1 (.slice Ao bs.length co) bs.length (bs.map Bo.v) ∧ (∀ b ∈ bs, w'.ownsRow w.heap.size 5 1 b.v b.l.length (nums .u8 b.l)) ∧ Below w.heap.size w w' := by
  have hl : zs.length = n := by have := hr.1; simpa [nums] using this
  refine enterM Tryd.func11 rfl (by kernel_rfl) ?_
  refine JX.seq rfl ?_
  refine J.region ?_
  refine L.va rfl (X.assign (by conv => lhs; whnf)) ?_
  refine L.va rfl (X.assign (by conv => lhs; whnf)) ?_
  refine L.va rfl (X.assign (by conv => lhs; whnf)) ?_
  refine L.nil ?_
  refine JX.seq rfl ?_
  refine J.region ?_
  refine L.alloc rfl zr_29 ?_
  intro bo w1 hbo hs1 kbo1 he1
  refine L.nil ?_
  refine JX.seq rfl ?_
  refine J.region ?_
  refine L.alloc rfl zr_3 ?_
  intro bu w2 hbu hs2 kbu2 he2
  refine L.alloc rfl zr_24 ?_
  intro y w3 hy hs3 ky3 he3
  have kbu3 := kbu2.ext he3
  refine L.store rfl rfl (by conv => lhs; whnf) rfl sz_3 (kbu3) (by first | decide | exact Nat.le_of_ble_eq_true rfl) ?_
  intro w4 kbu4 hg4 hs4
  have ky4 : Blk w4 y 24 #[.int .i64 0] := ky3.grown hg4 (by intro e; injection e with e; omega)
  refine L.store rfl rfl (by conv => lhs; whnf) rfl sz_24 (ky4) (by first | decide | exact Nat.le_of_ble_eq_true rfl) ?_
  intro w5 ky5 hg5 hs5
  refine L.nil ?_
  refine JX.seqX ?_
  refine JX.seq rfl ?_
  refine J.region ?_
  refine L.va rfl (X.move (by conv => lhs; whnf)) ?_
  refine L.call rfl en_46 rfl (frames_ A n c y w5) ?_
  rintro e w6 ⟨b1, b2, rfl, hb1, hb2, k1, k2, he6⟩
  refine ⟨_, rfl, ?_⟩
  refine L.nil ?_
  refine JX.block ?_
  refine JX.rangeF (cs := [.pointer (some ⟨b1, 0, none⟩), .pointer (some ⟨b2, 0, none⟩)]) rfl en_68 ?_
  intro fn a hra rec hrec
  have he03 : Ext w w3 := (he1.trans he2).trans he3
  have he04 : Ext w w4 := he03.grw hg4 (by intro g e; injection e with e; omega)
  have he05 : Ext w w5 := he04.grw hg5 (by intro g e; injection e with e; omega)
  have he06 : Ext w w6 := he05.trans he6
  have kbo5 : Blk w5 bo 29 #[.slice none 0 0] := ((kbo1.ext (he2.trans he3)).grown hg4 (by intro e; injection e with e; omega)).grown hg5 (by intro e; injection e with e; omega)
  have kbu5 : Blk w5 bu 3 #[.int .i64 0] := kbu4.grown hg5 (by intro e; injection e with e; omega)
  have z6 := he06.le
  obtain ⟨W1, hW1⟩ : ∃ W1, (w6.alloc (.deferred (some []))).alloc (.loop rec) = W1 := ⟨_, rfl⟩
  rw [hW1]
  have zW : W1.heap.size = w6.heap.size + 2 := by rw [← hW1]; simp
  have he7 : Ext w6 W1 := by rw [← hW1]; exact ((Below.refl _ w6).alloc (Nat.le_refl _) _).alloc (by simp) _
  have hL1 : W1.heap[w6.heap.size + 1]? = some (.loop rec) := by
    rw [← hW1]; have := World.alloc_heap_new (w6.alloc (.deferred (some []))) (.loop rec); rwa [World.size_alloc] at this
  have hK1 : W1.heap[w6.heap.size]? = some (.deferred (some [])) := by
    rw [← hW1]; exact (Below.heap_alloc _ _ _ (by simp)).trans (World.alloc_heap_new w6 _)
  have J0 : FrJ w.heap.size (w6.heap.size + 2) (w6.heap.size + 1) w6.heap.size b1 b2 y A n c rec w 0 [] W1 :=
    ⟨he06.trans he7, hL1, hK1, k1.ext he7, k2.ext he7, (ky5.ext he6).ext he7, fun b hb => by (cases hb), by have := k1.lt; omega⟩
  have K0 : FrK (w6.heap.size + 2) bo bu 0 [] W1 := ⟨(kbu5.ext he6).ext he7, none, 0, (kbo5.ext he6).ext he7, own_nil _ _ _ _⟩
  refine (frames1 (w6.heap.size + 1) b1 b2 y A n c w.heap.size zs w
    (fun p bs W => AllSt zs p (bs.map Bo.l) ∧ w6.heap.size + 2 ≤ W.heap.size ∧ FrJ w.heap.size (w6.heap.size + 2) (w6.heap.size + 1) w6.heap.size b1 b2 y A n c rec w 0 bs W ∧ FrK (w6.heap.size + 2) bo bu p bs W)
    (fun p bs e W => allF zs 0 = (bs.map Bo.l, p, e) ∧ FrJ w.heap.size (w6.heap.size + 2) (w6.heap.size + 1) w6.heap.size b1 b2 y A n c rec w e bs W ∧ FrK (w6.heap.size + 2) bo bu p bs W)
    ht rfl hr hz hnc hc0 (fun p bs W h => ⟨h.2.2.1.bel, h.2.2.1.k1, h.2.2.1.k2, h.2.2.1.ky⟩)
    (fun p bs W W' h he => ⟨h.1, Nat.le_trans h.2.1 he.le, h.2.2.1.ext he (by have := h.2.1; omega), h.2.2.2.ext he⟩) ?_ ?_
    (fun p bs W h hp => ⟨h.1.done (by omega), h.2.2⟩) W1 ⟨AllSt.start zs, by omega, J0, K0⟩).mono ?_
  · rintro p bs W b ⟨st, hsz, hJ, hK⟩ hb hp hge hbl
    have hrun := run_yield (P := Tryd.prog) (args := #[.int .i64 ((p + gStep (zs.drop p) : Nat) : Int), b.v]) hJ.lp (by rw [hrec]; rfl)
    refine ⟨rec.fn, _, rec.assign, rec.body, hrun, ?_⟩
    have hT : (rec.params.zip #[.int .i64 ((p + gStep (zs.drop p) : Nat) : Int), b.v]).foldl (fun tmps (t, a) => tmps.setIfInBounds t a) rec.tmps = ((a.put (some 12) (.int .i64 ((p + gStep (zs.drop p) : Nat) : Int))).put (some 13) b.v).tmps := by
      have hpar : rec.params = #[12, 13] := congrArg Loop.params hrec
      have htmp : rec.tmps = a.tmps := congrArg Loop.tmps hrec
      rw [hpar, htmp]
      exact fold2 _ _ _
    have hasn := congrArg Loop.assign hrec
    have hbdy := congrArg Loop.body hrec
    dsimp only at hasn hbdy
    rw [hT, hasn, hbdy]
    refine round_of ((hra.put (d := some 12) _ rfl).put (d := some 13) _ rfl) (by kernel_rfl) (by kernel_rfl) ?_
    refine JI.seq ?_
    refine JI.region (by rfl) (by intro _ _ h; cases (And.left h)) ?_
    refine L.va rfl (X.assign (by conv => lhs; whnf)) ?_
    refine L.nil ?_
    refine JI.region (by rfl) (by intro _ _ h; cases (And.left h)) ?_
    refine L.va rfl (X.assign (by conv => lhs; whnf)) ?_
    refine L.nil ?_
    refine ⟨rfl, _, run_beginRound hJ.lp (by rw [hrec]), ?_⟩
    have hN6 : w.heap.size ≤ w6.heap.size + 1 := by omega
    have J2 := hJ.put hN6 (by omega) { rec with state := .busy }
    have K2 := hK.put hJ.lp { rec with state := .busy }
    have hb2 : (W.putObj (w6.heap.size + 1) (.loop { rec with state := .busy })).ownsRow w.heap.size 5 1 b.v b.l.length (nums .u8 b.l) := ownsRow_putObj hb _ hJ.lp rfl
    have hz2 : w6.heap.size + 2 ≤ (W.putObj (w6.heap.size + 1) (.loop { rec with state := .busy })).heap.size := by simp; exact hsz
    generalize W.putObj (w6.heap.size + 1) (.loop { rec with state := .busy }) = W2 at J2 K2 hb2 hz2 ⊢
    have J2 := J2.snoc hb2
    obtain ⟨Ao, co, r1, r2⟩ := K2.ro
    have ku2 := K2.ku
    refine JI.block ?_
    refine JI.seq ?_
    refine JI.region (by rfl) (by intro _ _ h; cases (And.left h)) ?_
    refine L.va rfl (X.load rfl sc_29 (by first | exact Ld.blk r1 rfl)) ?_
    refine L.va rfl (X.move (by conv => lhs; whnf)) ?_
    refine L.bslice (vs := [_]) rfl (Evs.cons (by conv => lhs; whnf) Evs.nil) rfl rfl rfl rfl Tryd.underlying29 sz_22 zr_22 (by decide) ?_
    intro b6 W3 hb6 hs6 kb6 he6'
    have ho3 := r2.ext he6'
    have few := st.few
    have stl := st.le
    rw [List.length_map] at few
    refine L.appendV (q := bs.length + 1) (ys := bs.map Bo.v ++ [b.v]) rfl rfl rfl Tryd.underlying29 el_22 (ho3) ((blk_reads (q := 1) (l := [b.v]) kb6 kb6.lt rfl)) (by first | rfl | exact strs_ones _ | assumption) (by omega) (by simp) (by unfold maxLen; omega) (by omega) ?_
    intro A7 c7 W4 ho7 hg7 hb7 hor7
    have r3 := r1.ext he6'
    have ku3 := ku2.ext he6'
    have nb : ∀ {g : Nat} {t : Nat} {cs : Array Value}, Blk W3 g t cs → t ≠ 22 → some g ≠ Value.ownBlock (.slice Ao bs.length co) := fun hk ht e => by
      obtain ⟨⟨cs', h5⟩, _⟩ := own_blk ho3 e.symm
      exact ht (blk_one hk h5)
    have r4 := r3.grown hg7 (nb r3 (by decide))
    have ku4 := ku3.grown hg7 (nb ku3 (by decide))
    have hne : bo ≠ bu := by omega
    refine L.store rfl rfl (by conv => lhs; whnf) rfl sz_29 (r4) (by first | decide | exact Nat.le_of_ble_eq_true rfl) ?_
    intro W5 r5 hg8 hs8
    have ku5 := ku4.grown hg8 (by intro e; injection e with e; exact hne e.symm)
    refine L.nil ?_
    refine JI.region (by rfl) (by intro _ _ h; cases (And.left h)) ?_
    refine L.va rfl (X.move (by conv => lhs; whnf)) ?_
    refine L.store rfl rfl (by conv => lhs; whnf) rfl sz_3 (ku5) (by first | decide | exact Nat.le_of_ble_eq_true rfl) ?_
    intro W6 ku6 hg9 hs9
    have r6 := r5.grown hg9 (by intro e; injection e with e; exact hne e)
    refine L.nil ?_
    have hC : Chg (fun g => g = bo ∨ g = bu ∨ Value.ownBlock (.slice Ao bs.length co) = some g) W3 W6 :=
      ((Chg.of_grown hg7 fun g e => .inr (.inr e)).trans (Chg.of_grown hg8 fun g e => .inl (by injection e with e; exact e.symm)) (fun _ _ h => h)).trans (Chg.of_grown hg9 fun g e => .inr (.inl (by injection e with e; exact e.symm))) (fun _ _ h => h)
    have hC2 : Chg (fun g => g = bo ∨ g = bu) W4 W6 :=
      (Chg.of_grown hg8 fun g e => .inl (by injection e with e; exact e.symm)).trans (Chg.of_grown hg9 fun g e => .inr (by injection e with e; exact e.symm)) (fun _ _ h => h)
    have zW3 := he6'.le
    have zC := hC.size
    have J6 := (J2.ext he6' (by omega)).chg hC (by omega) (fun g hS => by
      rcases hS with rfl | rfl | e
      · omega
      · omega
      · have := (own_blk ho3 e).2
        omega) (fun g hS => by
      rcases hS with rfl | rfl | e
      · exact ⟨_, _, r3, by decide, by decide, by decide, by omega⟩
      · exact ⟨_, _, ku3, by decide, by decide, by decide, by omega⟩
      · obtain ⟨⟨cs', h5⟩, hM⟩ := own_blk ho3 e
        have := J2.lt
        exact ⟨_, _, h5, by decide, by decide, by decide, by omega⟩)
    have ho6 := hC2.own ho7 (fun g hg hS => by
      obtain ⟨⟨cs', h5⟩, _⟩ := own_blk ho7 hg
      rcases hS with rfl | rfl
      · exact absurd (blk_one h5 r4) (by decide)
      · exact absurd (blk_one h5 ku4) (by decide))
    have hend : (Instr.endRound (w6.heap.size + 1) none).run Tryd.prog W6 = .ok (.bool true) (W6.putObj (w6.heap.size + 1) (.loop rec)) := by
      have := run_endRound (P := Tryd.prog) none J6.lp
      rw [this, hrec]
      rfl
    have K6 : FrK (w6.heap.size + 2) bo bu (p + gStep (zs.drop p)) (bs ++ [b]) W6 := ⟨ku6, A7, c7, by rw [List.length_append]; exact r6, by rw [List.length_append, List.map_append]; exact ho6⟩
    have st6 := st.next hz (by omega) hge
    refine ⟨rfl, rfl, _, _, hend, rfl, ?_, by simp; omega, J6.put hN6 (by omega) rec, K6.put J6.lp rec⟩
    rw [List.map_append, List.map_cons, List.map_nil, hbl]
    exact st6
  · rintro p bs W W' er ⟨st, hsz, hJ, hK⟩ hy' hg hp hge he0
    have hC : Chg (fun g => g = y) W W' := Chg.of_grown hg fun g e => by injection e with e; exact e.symm
    have hky := hJ.ky
    refine ⟨by have := st.bad (by omega) (by rw [hge]; exact he0); rwa [hge] at this, ⟨hJ.bel.trans (hC.below (by omega) (fun g e => by rw [e, hy]; omega)), ?_, ?_, hC.blk hJ.k1 fun e => ?_, hC.blk hJ.k2 fun e => ?_, hy', fun b hb => hC.own (hJ.el b hb) fun g hg' e => ?_, hJ.lt⟩, hK.chg hC fun g e t cs hb => ?_⟩
    · refine (hC.block _ (Array.getElem?_eq_some_iff.1 hJ.lp).1 fun e => ?_).trans hJ.lp
      have h2 : W.heap[y]? = some (.cells #[.int .i64 0] 24 (0, 0)) := hky
      rw [← e, hJ.lp] at h2
      cases h2
    · refine (hC.block _ (Array.getElem?_eq_some_iff.1 hJ.df).1 fun e => ?_).trans hJ.df
      have h2 : W.heap[y]? = some (.cells #[.int .i64 0] 24 (0, 0)) := hky
      rw [← e, hJ.df] at h2
      cases h2
    · have := blk_one hJ.k1 (by rw [e]; exact hky)
      exact absurd this (by decide)
    · have := blk_one hJ.k2 (by rw [e]; exact hky)
      exact absurd this (by decide)
    · obtain ⟨⟨cs, h5⟩, _⟩ := own_blk (hJ.el b hb) hg'
      rw [e] at h5
      exact absurd (blk_one h5 hky) (by decide)
    · rw [e] at hb
      have := blk_one hb hky
      subst this
      exact ⟨by decide, by decide, by decide⟩
  · rintro e w3' ⟨rfl, p, bs, er, hfin, hJ, hK⟩
    refine ⟨⟨_, rfl⟩, hJ.lp, rfl, rfl, ?_⟩
    have hN6 : w.heap.size ≤ w6.heap.size + 1 := by omega
    have J2 := hJ.put hN6 (by omega) { rec with state := .exhausted }
    have K2 := hK.put hJ.lp { rec with state := .exhausted }
    generalize w3'.putObj (w6.heap.size + 1) (.loop { rec with state := .exhausted }) = W2 at J2 K2 ⊢
    obtain ⟨Ao, co, r1, r2⟩ := K2.ro
    refine tailM hra (by kernel_rfl) (by kernel_rfl) rfl J2.df ?_
    refine Qt.va rfl (fun w' hw => X.load rfl sc_29 (Ld.blk (r1.ext hw) rfl)) ?_
    refine Qt.va rfl (fun w' hw => X.load rfl sc_3 (Ld.blk (K2.ku.ext hw) rfl)) ?_
    refine Qt.va rfl (fun w' hw => X.load rfl sc_24 (Ld.blk (J2.ky.ext hw) rfl)) ?_
    refine Qt.va rfl (fun w' hw => X.assign (by conv => lhs; whnf)) ?_
    refine Qt.va rfl (fun w' hw => X.assign (by conv => lhs; whnf)) ?_
    refine Qt.va rfl (fun w' hw => X.assign (by conv => lhs; whnf)) ?_
    refine Qt.nil ?_
    intro w' hw
    refine fin3 ?_
    have hD' : w'.heap[w6.heap.size]? = some (.deferred (some [])) := (hw.block _ (Array.getElem?_eq_some_iff.1 J2.df).1).trans J2.df
    refine ⟨Ao, co, bs, p, er, rfl, hfin, own_low (ownsRow_putObj (r2.ext hw) _ hD' rfl) (by omega), fun b hb => ownsRow_putObj ((J2.el b hb).ext hw) _ hD' rfl, ?_⟩
    have hC : Chg (fun g => g = w6.heap.size) w' (w'.putObj w6.heap.size (.deferred none)) := Chg.of_grown (grownBy_putObj' w' _ _) fun g e => by injection e with e; exact e.symm
    have zz := J2.bel.size
    exact (J2.bel.trans (Below.mono hw (by omega))).trans (hC.below (by have := hw.le; omega) (fun g e => by omega))
end Go.Proofs.YtadfopdjhbjekaaDoor
namespace Go.Proofs.YtadfopdjhbjekaaDoor
set_option maxRecDepth 100000
open Go.RowKit H
open Lo Byts Seal Fram
set_option linter.unusedVariables false
def stO (fr ct : Nat) (ep : Int) (o : Lo.Os) : Ls := ⟨fr, ct, ep, o.nx, o.sm, o.tm, 0⟩
theorem opI_succ (s : Ds) (fr : Nat) (ep : Int) (i : Nat) : opI s fr ep (i + 1) = opStep ep i (s.now (fr + i)) (opI s fr ep i) := rfl
structure New (G : Lg) (n : Nat) : Prop where
  p : n ≤ G.p
  s : ∀ g, G.ss.ownBlock = some g → n ≤ g
  t : ∀ g, G.ts.ownBlock = some g → n ≤ g
theorem New.gr {G G' : Lg} {n m : Nat} (h : New G n) (g : Lg.Gr G G' m) (hm : n ≤ m) : New G' n :=
  ⟨by rw [g.p]; exact h.p, fun b hb => (g.s b hb).elim (h.s b) (fun e => by omega), fun b hb => (g.t b hb).elim (h.t b) (fun e => by omega)⟩
theorem Kq.of_chg {kb d : Nat} {C : Nat → Prop} {w w1 w2 : World} {G : Lg} {v1 : Dk} (h : Kq kb d C w w1) (k : Chg (G.LS v1 C w1) w1 w2) (hk : v1.kb = kb) (hd : v1.d = d) (hn : New G w.heap.size) : Kq kb d C w w2 :=
  ⟨k.os.trans h.os, k.tape.trans h.tape, k.output.trans h.output, Nat.le_trans h.size k.size, fun g hg h1 h2 h3 => by
    have e := h.block g hg h1 h2 h3
    refine (k.block g (Nat.lt_of_lt_of_le hg h.size) ?_).trans e
    rintro (h4 | h4 | ⟨h4, h5⟩ | h4 | h4 | h4)
    · exact h1 (h4.trans hk)
    · exact h2 (h4.trans hd)
    · exact h5 (h3 (h4.same e))
    · have := hn.p; omega
    · have := hn.s g h4; omega
    · have := hn.t g h4; omega⟩
theorem Kq.ext_ {kb d : Nat} {C : Nat → Prop} {w w1 w2 : World} (h : Kq kb d C w w1) (k : Ext w1 w2) : Kq kb d C w w2 := h.trans (.of_ext k)
structure Opened (v : Dk) (N : Nat) (C : Nat → Prop) (fr ct : Nat) (ep : Int) (w : World) (G : Lg) (v' : Dk) (Ao : Option Addr) (co : Nat) (bs : List Bo) (w' : World) : Prop where
  at_ : G.At v' N C w'
  d : v'.d = v.d
  kb : v'.kb = v.kb
  ab : v'.abs = rdN v.abs ct
  st : G.st = openL v.abs fr ct ep
  rec_ : bs.map Bo.l = recs (opI v.abs fr ep ct).sm
  row : w'.ownsRow w.heap.size 22 1 (.slice Ao bs.length co) bs.length (bs.map Bo.v)
  els : ∀ b ∈ bs, w'.ownsRow w.heap.size 5 1 b.v b.l.length (nums .u8 b.l)
  kq : Kq v.kb v.d C w w'
  new : New G w.heap.size
  ok : Lo.Ok G.st v'.kp.length
theorem openL_ok {s : Ds} (hB : Byte s) {fr ct : Nat} {ep : Int} (hfc : fr + ct ≤ s.kept.length) (h1 : 1 ≤ ct) (hep : 0 ≤ ep ∧ ep ≤ 18446744073709551615) : Lo.Ok (openL s fr ct ep) s.kept.length := by
  have ho := opI_ok hB ep hfc
  have hu := used_le ho.sb
  have h2 := ho.c2
  have h3 := ho.sl
  have h4 := ho.sg
  refine ⟨hfc, h1, hep, ho.n1, ho.n2, fun z hz => ho.sb z (List.mem_of_mem_take hz), ?_, fun _ => ?_, fun t ht => ho.tt t (List.mem_of_mem_take ht), ?_⟩
  · show ((opI s fr ep ct).sm.take _).length ≤ ct * 991
    rw [List.length_take]; omega
  · show ((opI s fr ep ct).tm.take _).length = (((opI s fr ep ct).sm.take _).length + 990) / 991
    rw [List.length_take, List.length_take]; omega
  · show ((opI s fr ep ct).tm.take _).length ≤ ct
    rw [List.length_take]; omega
theorem rd_do {s : Ds} (hoff : s.off = false) (i a : Nat) (ha : a < s.kept.length) : (rdN s i).do_ ⟨0, (a : Int), [], true, []⟩ = (rdN s (i + 1), s.now a, 0) := by
  have h : (rdN s i).do_ ⟨0, (a : Int), [], true, []⟩ = ({ rdN s i with rd := (rdN s i).rd + 1 }, (rdN s i).now a, 0) := by
    unfold Ds.do_
    rw [if_neg (show ¬ (0 : Int) = 3 by decide), if_neg (show ¬ (0 : Int) = 4 by decide), if_neg (show ¬ (rdN s i).off = true by show ¬ s.off = true; rw [hoff]; decide), if_neg, if_pos (show (0 : Int) = 0 from rfl)]
    · rfl
    · rintro ⟨_, h | h⟩
      · have h : (a : Int) < 0 := h
        omega
      · have h : (s.kept.length : Int) ≤ (a : Int) := h
        omega
  rw [h]
  have e : s.rd + (i : Int) + 1 = s.rd + ((i + 1 : Nat) : Int) := by omega
  show (({ s with rd := s.rd + (i : Int) + 1 } : Ds), s.now a, (0 : Int)) = _
  rw [e]
  rfl
theorem rdN_ok {s : Ds} {m : Nat} (h : s.Ok m) (i : Nat) : (rdN s i).Ok (m + i) := by
  have h2 := h.hm
  refine ⟨h.hn, h.hk, h.hp, ?_, h.hl⟩
  show s.pend.length ≤ m + i ∧ (0 ≤ s.rd + (i : Int) ∧ s.rd + (i : Int) ≤ ((m + i : Nat) : Int)) ∧ (0 ≤ s.wr ∧ s.wr ≤ ((m + i : Nat) : Int)) ∧ (0 ≤ s.fl ∧ s.fl ≤ ((m + i : Nat) : Int))
  omega
theorem Reads.fresh {w w' : World} {B n c K : Nat} {A : Option Addr} {xs : List Value} (h : Reads w B 1 A n xs) (hf : ∀ g, Value.ownBlock (.slice A n c) = some g → K ≤ g) {r : Option Nat} (hg : w.grownBy w' r) (hb : ∀ b, r = some b → b < K) : Reads w' B 1 A n xs := by
  refine ⟨h.1, fun h0 => ?_⟩
  obtain ⟨g, off, u, rfl, hB, hu, hc⟩ := h.at_ (k := 0) h0
  obtain ⟨ad, e2, _, hcs⟩ := h.2 h0
  injection e2 with e2
  subst e2
  have hK := hf g rfl
  refine ⟨_, rfl, hB, fun j u hu => ?_⟩
  have h1 := hcs j u hu
  rw [Addr.add_mid] at h1 ⊢
  have hlt : g < w.heap.size := by
    apply Classical.byContradiction
    intro hn
    have hno : w.heap[g]? = none := Array.getElem?_eq_none (by omega)
    simp [World.cell?, hno] at h1
  rw [← h1]
  exact World.cell?_of_block (a := ⟨g, off + j, none⟩) (hg.block g hlt (fun e => by have := hb g e.symm; omega))
theorem not_LS {G : Lg} {v : Dk} {N : Nat} {C : Nat → Prop} {w w' : World} (h : G.At v N C w) {g t : Nat} (hge : w.heap.size ≤ g) (ht : IsT w' g t) (hne : t ≠ 121) : ¬ G.LS v C w' g := by
  have lt : ∀ {g t : Nat}, IsT w g t → g < w.heap.size := fun ⟨cs, hc⟩ => by
    have hc : Blk w _ _ cs := hc
    exact hc.lt
  rintro (h1 | h1 | ⟨h1, _⟩ | h1 | h1 | h1)
  · have := lt h.hd.kT.1; omega
  · have := lt h.hd.dT; omega
  · exact hne (ht.fun_ h1)
  · have := h.hb.lt; omega
  · have := lt (h.hs.own h1).1; omega
  · have := lt (own_isT h.ht h1).1; omega
section
variable {v : Dk} {N : Nat} {C : Nat → Prop} {w w' : World}
theorem lopen (h : v.At N C w) {m : Nat} (hok : v.abs.Ok m) (hm : m + 8192 ≤ 1000000) (hoff : v.off = false) (hB : Byte v.abs) (ht : Tab w) (tN : 0 < N) (fr ct : Nat) (hfc : fr + ct ≤ v.kp.length) (hc1 : 1 ≤ ct) (hct : ct ≤ 1000) (ep : Int) (hep : 0 ≤ ep ∧ ep ≤ 18446744073709551615) :
    Calls Tryd.prog 14 #[v.ptr, .int .i64 (fr : Int), .int .i64 (ct : Int), .int .u64 ep] w fun e w' => ∃ G v' Ao co bs, e = .returned (.tuple #[G.ptr, .slice Ao (bs : List Bo).length co, .int .i64 0]) ∧ Opened v N C fr ct ep w G v' Ao co bs w' := by
  have hkl := h.h1
  have hak : v.abs.kept.length = v.kp.length := v.klen
  have hNw := h.nsz
  have ooI := fun i (hi : i ≤ ct) => opI_ok hB (fr := fr) ep (i := i) (by omega)
  refine enter Tryd.func14 rfl (by kernel_rfl) ?_
  refine J.seq ?_
  refine J.region ?_
  refine L.va rfl (X.assign (by conv => lhs; whnf)) ?_
  refine L.va rfl (X.assign (by conv => lhs; whnf)) ?_
  refine L.va rfl (X.assign (by conv => lhs; whnf)) ?_
  refine L.nil ?_
  refine J.seq ?_
  refine J.seq ?_
  refine J.region ?_
  refine L.va rfl (X.move (by conv => lhs; whnf)) ?_
  refine L.va rfl (X.lss rfl rfl) ?_
  refine L.va rfl (X.move (by conv => lhs; whnf)) ?_
  refine L.caseDecF (k := 23) rfl (by omega) ?_
  refine L.va rfl (X.move (by conv => lhs; whnf)) ?_
  refine L.va rfl (X.lss rfl rfl) ?_
  refine L.va rfl (X.pickF rfl (by conv => lhs; whnf)) ?_
  refine L.va rfl (X.move (by conv => lhs; whnf)) ?_
  refine L.caseDecF (k := 27) rfl (by omega) ?_
  refine L.va rfl (X.move (by conv => lhs; whnf)) ?_
  refine L.va rfl (X.move (by conv => lhs; whnf)) ?_
  refine L.call rfl en_47 rfl (h.len_) ?_
  rintro e _ ⟨rfl, rfl⟩
  refine ⟨_, rfl, ?_⟩
  refine L.va rfl (X.gtr rfl rfl) ?_
  refine L.va rfl (X.pickF rfl (by conv => lhs; whnf)) ?_
  refine L.va rfl (X.move (by conv => lhs; whnf)) ?_
  refine L.caseDecF (k := 33) rfl (by omega) ?_
  refine L.va rfl (X.move (by conv => lhs; whnf)) ?_
  refine L.va rfl (X.move (by conv => lhs; whnf)) ?_
  refine L.call rfl en_47 rfl (h.len_) ?_
  rintro e _ ⟨rfl, rfl⟩
  refine ⟨_, rfl, ?_⟩
  refine L.va rfl (X.move (by conv => lhs; whnf)) ?_
  refine L.va rfl (X.sub rfl rfl (by omega)) ?_
  refine L.va rfl (X.gtr rfl rfl) ?_
  refine L.va rfl (X.pickF rfl (by conv => lhs; whnf)) ?_
  refine L.nil ?_
  refine J.decF rfl (by omega) ?_
  refine J.skip ?_
  refine J.seq ?_
  refine J.region ?_
  refine L.va rfl (X.move (by conv => lhs; whnf)) ?_
  refine L.va rfl (X.move (by conv => lhs; whnf)) ?_
  refine L.va rfl (X.move (by conv => lhs; whnf)) ?_
  refine L.va rfl (X.move (by conv => lhs; whnf)) ?_
  refine L.va rfl (X.build (l := [_, _, _, _, _, _, _, _, _]) (Evs.cons (by conv => lhs; whnf) (Evs.cons (by conv => lhs; whnf) (Evs.cons (by conv => lhs; whnf) (Evs.cons (by conv => lhs; whnf) (Evs.cons (by conv => lhs; whnf) (Evs.cons (by conv => lhs; whnf) Evs.nil)))))) (bld_run Tryd.underlying42 (bp_42 Tryd.underlying42) zr_42 rfl)) ?_
  refine L.boxA (l := [_, _, _, _, _, _, _, _, _]) rfl rfl ?_
  intro b1 w1 hb1 hs1 hk1 he1
  have H0 : Lg.At ⟨b1, none, 0, none, 0, stO fr ct ep (opI v.abs fr ep 0)⟩ v N C w1 := by
    refine ⟨h.ext he1, hk1, .inl (own_nil _ _ _ _), own_nil _ _ _ _, (fun x hx g hg e => by cases e), (by show N ≤ b1; omega), tabx ht he1, tN⟩
  have N0 : New ⟨b1, none, 0, none, 0, stO fr ct ep (opI v.abs fr ep 0)⟩ w.heap.size := ⟨by show _ ≤ b1; omega, (fun g hg => by cases hg), (fun g hg => by cases hg)⟩
  have ch0 : (opI v.abs fr ep 0).ch = true := rfl
  have kq1 : Kq v.kb v.d C w w1 := .of_ext he1
  refine L.va rfl (X.assign (by conv => lhs; whnf)) ?_
  refine L.nil ?_
  refine J.seq ?_
  refine J.region ?_
  refine L.va rfl (X.assign (by conv => lhs; whnf)) ?_
  refine L.nil ?_
  refine J.seq ?_
  refine J.seq ?_
  refine J.region ?_
  refine L.va rfl (X.move (by conv => lhs; whnf)) ?_
  refine L.va rfl (X.move (by conv => lhs; whnf)) ?_
  refine L.nil ?_
  refine J.block ?_
  refine J.loop (X := Nat × Lg × Dk × Bool) [8, 9, 10, 12, 13, 14, 15, 16, 17, 48, 49, 50, 51, 52, 53, 54, 55, 56, 57, 58, 59, 60, 61, 62, 63, 64, 65, 66, 67, 68, 69, 70, 71, 72, 73, 74, 75, 76, 77, 78, 79, 80, 81, 82, 83, 84, 85, 86, 87, 88, 89, 90, 91, 92, 93, 94, 95, 96, 97, 98, 99, 100, 101, 102, 103, 104, 105, 106, 107, 108, 109, 110, 111, 112] (fun (i, _, _, c) => [(48, .int .i64 (i : Int)), (12, .bool c)]) (fun (i, G, v2, c) w' => i ≤ ct ∧ c = (opI v.abs fr ep i).ch ∧ G.At v2 N C w' ∧ v2.d = v.d ∧ v2.kb = v.kb ∧ v2.abs = rdN v.abs i ∧ G.st = stO fr ct ep (opI v.abs fr ep i) ∧ Kq v.kb v.d C w w' ∧ New G w.heap.size ∧ G.p = b1) (fun (i, _) => ct - i) ((0, ⟨b1, none, 0, none, 0, stO fr ct ep (opI v.abs fr ep 0)⟩, v, true)) (At2 (by first | rfl | exact at_int rfl (by omega) | exact at_slice rfl (by omega) | exact at_int rfl (by simp)) (by first | rfl | exact at_int rfl (by omega) | exact at_slice rfl (by omega) | exact at_int rfl (by simp))) ?_ ?_
  · exact ⟨Nat.zero_le _, rfl, H0, rfl, rfl, by unfold rdN; simp, rfl, kq1, N0, rfl⟩
  · rintro ⟨i, G, v2, c⟩ g w2 ⟨hi, hc, H2, d2, k2, a2, s2, q2, n2, p2⟩
    obtain ⟨gp, sA, sc, tA, tc, st⟩ := G
    dsimp only at s2 p2
    subst s2 p2
    obtain ⟨o, hO⟩ : ∃ o, o = opI v.abs fr ep i := ⟨_, rfl⟩
    have oo := ooI i hi
    rw [← hO] at oo hc H2 n2
    have n1 := oo.n1
    have n2' := oo.n2
    have osl := oo.sl
    have oc2 := oo.c2
    refine J.seq ?_
    refine J.region ?_
    refine L.va rfl (X.lss rfl rfl) ?_
    refine L.nil ?_
    refine J.seq ?_
    refine J.dec rfl (fun hlt => ?_) (fun hlt => ?_)
    · have hi' : i < ct := by omega
      obtain ⟨zs, hzs⟩ : ∃ zs, zs = v.abs.now (fr + i) := ⟨_, rfl⟩
      have eS : opI v.abs fr ep (i + 1) = opStep ep i zs o := by rw [opI_succ, ← hO, ← hzs]
      have hzb : Bytes zs := by rw [hzs]; exact now_bytes hB (by omega)
      have hzl : zs.length = 1024 := by rw [hzs]; exact nowI_mem (p := fun y : List Int => y.length = 1024) (by omega) hok.hk (fun y hy => (hok.hp y hy).2) _ (Nat.le_refl _)
      have hpl := pBy_le hzb
      have ok2 : v2.abs.Ok (m + i) := by rw [a2]; exact rdN_ok hok i
      have K := H2.hd.read_anyF ok2 (by omega) ⟨0, ((fr + i : Nat) : Int), [], true, []⟩ rfl
      rw [a2, rd_do hoff i (fr + i) (by omega), ← hzs, show v2.ptr = v.ptr by unfold Dk.ptr; rw [d2]] at K
      dsimp only at K
      rw [show ((fr + i : Nat) : Int) = (fr : Int) + (i : Int) by omega] at K
      refine J.skip ?_
      refine J.seq ?_
      refine J.block ?_
      refine J.seq ?_
      refine J.region ?_
      refine L.va rfl (X.move (by conv => lhs; whnf)) ?_
      refine L.va rfl (X.assign (by conv => lhs; whnf)) ?_
      refine L.nil ?_
      refine J.seq ?_
      refine J.region ?_
      refine L.va rfl (X.move (by conv => lhs; whnf)) ?_
      refine L.va rfl (X.move (by conv => lhs; whnf)) ?_
      refine L.va rfl (X.move (by conv => lhs; whnf)) ?_
      refine L.va rfl (X.add rfl rfl (by omega)) ?_
      refine L.call rfl en_48 rfl (K) ?_
      rintro e w3 ⟨A3, n3, c3, rfl, ho3, v3, p1, p2, p3, p4, p5, p6⟩
      refine ⟨_, rfl, ?_⟩
      have H3 := H2.disk p1 p2 p5 p6
      have q3 : Kq v.kb v.d C w w3 := q2.trans (by rw [← k2, ← d2]; exact p5)
      have d3 : v3.d = v.d := p2.trans d2
      have k3 : v3.kb = v.kb := p3.trans k2
      obtain rfl : n3 = 1024 := by have := ho3.1; simpa [nums, hzl] using this.symm
      refine L.va rfl (X.move (by conv => lhs; whnf)) ?_
      refine L.va rfl (X.extract rfl rfl) ?_
      refine L.va rfl (X.extract rfl rfl) ?_
      refine L.va rfl (X.assign (by conv => lhs; whnf)) ?_
      refine L.va rfl (X.assign (by conv => lhs; whnf)) ?_
      refine L.nil ?_
      refine J.seq ?_
      refine J.seq ?_
      refine J.region ?_
      refine L.va rfl (X.move (by conv => lhs; whnf)) ?_
      refine L.va rfl (X.neq rfl rfl) ?_
      refine L.nil ?_
      refine J.iteF rfl ?_
      refine J.skip ?_
      refine J.seq ?_
      refine J.region ?_
      refine L.va rfl (X.move (by conv => lhs; whnf)) ?_
      refine L.va rfl (X.move (by conv => lhs; whnf)) ?_
      refine L.call rfl en_49 rfl (lread A3 c3 zs ep w3 H3.tab (Reads.of_own ho3) hzb (own_bd ho3).1 (by have := (own_bd ho3).2; unfold maxLen at this; omega)) ?_
      rintro e w4 ⟨A4, c4, rfl, hr4, he4⟩
      refine ⟨_, rfl, ?_⟩
      have he4 : Ext w3 w4 := he4
      have H4 := H3.ext he4
      have q4 := q3.ext_ he4
      cases hko : okP zs ep
      · have eP : pcV false zs A4 c4 = .agg #[.int .i64 0, .int .u64 0, .int .u64 0, .slice none 0 0] := rfl
        rw [eP]
        have oS : opStep ep i zs o = ⟨o.nx, false, o.tm, o.sm⟩ := by
          unfold opStep opNx
          rw [hko, Bool.and_false, Bool.false_and]
          rfl
        refine L.va rfl (X.move (by conv => lhs; whnf)) ?_
        refine L.va rfl (X.extract rfl rfl) ?_
        refine L.va rfl (X.extract rfl rfl) ?_
        refine L.alloc rfl zr_105 ?_
        intro b5 w5 hb5 hs5 hk5 he5
        refine L.storeAgg (vs := [_, _, _, _]) rfl rfl rfl rfl sz_105 (hk5) rfl ?_
        intro w6 hk6 hg6 hs6
        have he46 : Ext w4 w6 := he5.grw hg6 (by intro g hg; injection hg with hg; omega)
        have H6 := H4.ext he46
        have q6 := q4.ext_ he46
        refine L.va rfl (X.assign (by conv => lhs; whnf)) ?_
        refine L.nil ?_
        refine J.seq ?_
        refine J.seq ?_
        refine J.region ?_
        refine L.va rfl (X.move (by conv => lhs; whnf)) ?_
        refine L.nil ?_
        refine J.iteF rfl ?_
        refine J.skip ?_
        refine J.seq ?_
        refine J.region ?_
        refine L.va rfl (X.move (by conv => lhs; whnf)) ?_
        refine L.va rfl (X.move (by conv => lhs; whnf)) ?_
        cases c
        · refine L.caseBF (k := 81) rfl (by rfl) ?_
          refine L.no rfl ?_
          refine L.va rfl (X.pickF rfl (by conv => lhs; whnf)) ?_
          refine L.va rfl (X.move (by conv => lhs; whnf)) ?_
          refine L.no rfl ?_
          refine L.no rfl ?_
          refine L.no rfl ?_
          refine L.no rfl ?_
          refine L.va rfl (X.pickF rfl (by conv => lhs; whnf)) ?_
          refine L.va rfl (X.assign (by conv => lhs; whnf)) ?_
          refine L.nil ?_
          refine J.seq ?_
          refine J.region ?_
          refine L.va rfl (X.move (by conv => lhs; whnf)) ?_
          refine L.nil ?_
          refine J.iteF rfl ?_
          refine J.skip ?_
          refine J.region ?_
          refine L.va rfl (X.add rfl rfl (by omega)) ?_
          refine L.va rfl (X.move (by conv => lhs; whnf)) ?_
          refine L.nil ?_
          refine ⟨(i + 1, ⟨gp, sA, sc, tA, tc, stO fr ct ep o⟩, v3, false), At2 (by first | rfl | exact at_int rfl (by omega) | exact at_slice rfl (by omega) | exact at_int rfl (by simp)) (by first | rfl | exact at_int rfl (by omega) | exact at_slice rfl (by omega) | exact at_int rfl (by simp)), (by (iterate 39 refine Agr.lk rfl ?_); exact Agr.lk rfl (Agr.hav rfl Agr.rfl')), ?_⟩
          refine ⟨⟨by omega, by rw [eS, oS], H6, d3, k3, p4, by rw [eS, oS]; rfl, q6, n2, rfl⟩, by show ct - (i + 1) < ct - i; omega⟩
        · refine L.caseBT (k := 81) rfl (by rfl) ?_
          refine L.va rfl (X.move (by conv => lhs; whnf)) ?_
          refine L.va rfl (X.pickT rfl (by conv => lhs; whnf)) ?_
          refine L.va rfl (X.move (by conv => lhs; whnf)) ?_
          refine L.caseBF (k := 84) rfl (by rfl) ?_
          refine L.no rfl ?_
          refine L.no rfl ?_
          refine L.no rfl ?_
          refine L.no rfl ?_
          refine L.va rfl (X.pickF rfl (by conv => lhs; whnf)) ?_
          refine L.va rfl (X.assign (by conv => lhs; whnf)) ?_
          refine L.nil ?_
          refine J.seq ?_
          refine J.region ?_
          refine L.va rfl (X.move (by conv => lhs; whnf)) ?_
          refine L.nil ?_
          refine J.iteF rfl ?_
          refine J.skip ?_
          refine J.region ?_
          refine L.va rfl (X.add rfl rfl (by omega)) ?_
          refine L.va rfl (X.move (by conv => lhs; whnf)) ?_
          refine L.nil ?_
          refine ⟨(i + 1, ⟨gp, sA, sc, tA, tc, stO fr ct ep o⟩, v3, false), At2 (by first | rfl | exact at_int rfl (by omega) | exact at_slice rfl (by omega) | exact at_int rfl (by simp)) (by first | rfl | exact at_int rfl (by omega) | exact at_slice rfl (by omega) | exact at_int rfl (by simp)), (by (iterate 40 refine Agr.lk rfl ?_); exact Agr.lk rfl (Agr.hav rfl Agr.rfl')), ?_⟩
          refine ⟨⟨by omega, by rw [eS, oS], H6, d3, k3, p4, by rw [eS, oS]; rfl, q6, n2, rfl⟩, by show ct - (i + 1) < ct - i; omega⟩
      · obtain ⟨hr4', hf4⟩ := hr4 hko
        have eP : pcV true zs A4 c4 = .agg #[.int .i64 (pAt zs), .int .u64 (pPrev zs), .int .u64 (sB smZ zs), .slice A4 (pBy zs).length c4] := rfl
        rw [eP]
        have hq := okP_iff.1 hko
        have hpp := pBy_pos hko
        obtain ⟨nx1, hnx⟩ : ∃ x, x = max o.nx (sB smZ zs + 1) := ⟨_, rfl⟩
        have eN : opNx ep zs o = nx1 := by unfold opNx; rw [if_pos hko, hnx]
        have gp3 : gp < w3.heap.size := H3.hb.lt
        refine L.va rfl (X.move (by conv => lhs; whnf)) ?_
        refine L.va rfl (X.extract rfl rfl) ?_
        refine L.va rfl (X.extract rfl rfl) ?_
        refine L.alloc rfl zr_105 ?_
        intro b5 w5 hb5 hs5 hk5 he5
        refine L.storeAgg (vs := [_, _, _, _]) rfl rfl rfl rfl sz_105 (hk5) rfl ?_
        intro w6 hk6 hg6 hs6
        have he46 : Ext w4 w6 := he5.grw hg6 (by intro g hg; injection hg with hg; omega)
        have H6 := H4.ext he46
        have q6 := q4.ext_ he46
        have hk6 : Blk w6 b5 105 #[.int .i64 (pAt zs), .int .u64 (pPrev zs), .int .u64 (sB smZ zs), .slice A4 (pBy zs).length c4] := hk6
        have hb6 : Blk w6 gp 42 #[.bool true, v3.ptr, .int .i64 (fr : Int), .int .i64 (ct : Int), .int .u64 ep, .int .u64 o.nx, .slice sA o.sm.length sc, .slice tA o.tm.length tc, .int .i64 0] := H6.hb
        have z34 := he4.le
        have hne : b5 ≠ gp := by omega
        refine L.va rfl (X.assign (by conv => lhs; whnf)) ?_
        refine L.nil ?_
        refine J.seq ?_
        refine J.seq ?_
        refine J.region ?_
        refine L.va rfl (X.move (by conv => lhs; whnf)) ?_
        refine L.nil ?_
        refine J.iteT rfl ?_
        refine J.draw (ℓ := 11) (S := Ext w6) mixed (fun w7 hS hS_h => ?_)
        refine D.va 0 rfl (by kernel_rfl) (fun _ _ _ h => h) rfl (fun w' hw => X.move (by conv => lhs; whnf)) hS ?_
        refine D.va 1 rfl (by kernel_rfl) (fun _ _ _ h => h) rfl (fun w' hw => X.move (by conv => lhs; whnf)) hS ?_
        refine D.va 2 rfl (by kernel_rfl) (fun _ _ _ h => h) rfl (fun w' hw => X.nilCheck rfl) hS ?_
        refine D.va 3 rfl (by kernel_rfl) (fun _ _ _ h => h) rfl (fun w' hw => X.fieldAddr rfl Tryd.underlying42 rfl sz_35 (by decide)) hS ?_
        refine D.va 4 rfl (by kernel_rfl) (fun _ _ _ h => h) rfl (fun w' hw => X.load rfl sc_35 (by first | exact Ld.blk (hb6.ext hw) rfl | exact Ld.blk (hk6.ext hw) rfl)) hS ?_
        refine D.va 5 rfl (by kernel_rfl) (fun _ _ _ h => h) rfl (fun w' hw => X.fieldAddr rfl Tryd.underlying105 rfl sz_35 (by decide)) hS ?_
        refine D.va 6 rfl (by kernel_rfl) (fun _ _ _ h => h) rfl (fun w' hw => X.load rfl sc_35 (by first | exact Ld.blk (hb6.ext hw) rfl | exact Ld.blk (hk6.ext hw) rfl)) hS ?_
        refine D.va 7 rfl (by kernel_rfl) (fun _ _ _ h => h) rfl (fun w' hw => X.addU rfl rfl (by omega)) hS ?_
        refine D.va 8 rfl (by kernel_rfl) (fun _ _ _ h => h) rfl (fun w' hw => X.max2 rfl rfl) hS ?_
        refine D.va 9 rfl (by kernel_rfl) (fun _ _ _ h => h) rfl (fun w' hw => X.nilCheck rfl) hS ?_
        refine D.va 10 rfl (by kernel_rfl) (fun _ _ _ h => h) rfl (fun w' hw => X.fieldAddr rfl Tryd.underlying42 rfl sz_35 (by decide)) hS ?_
        refine D.one 11 (by kernel_rfl) rfl ?_
        refine L.store rfl rfl (by conv => lhs; whnf) rfl sz_35 (hb6.ext hS) (by first | decide | exact Nat.le_of_ble_eq_true rfl) ?_
        intro w8 hb8 hg8 hs8
        refine L.nil ?_
        refine ⟨fun h => absurd rfl h, ?_⟩
        refine D.done (by kernel_rfl) ?_
        replace hb6 := hb6.ext hS
        replace hk6 := hk6.ext hS
        rw [← hnx] at hb8
        obtain ⟨H8, c8, g8⟩ := (H6.ext hS).put' (l := ⟨fr, ct, ep, nx1, o.sm, o.tm, 0⟩) (sA := sA) (sc := sc) (tA := tA) (tc := tc) hg8 hb8 (H6.ext hS).hs rfl (H6.ext hS).ht rfl
        have q8 : Kq v.kb v.d C w w8 := (q6.ext_ hS).of_chg c8 k3 d3 n2
        have n8 : New ⟨gp, sA, sc, tA, tc, ⟨fr, ct, ep, nx1, o.sm, o.tm, 0⟩⟩ w.heap.size := n2.gr g8 (q6.ext_ hS).size
        have hb8' : Blk w8 gp 42 #[.bool true, v3.ptr, .int .i64 (fr : Int), .int .i64 (ct : Int), .int .u64 ep, .int .u64 nx1, .slice sA o.sm.length sc, .slice tA o.tm.length tc, .int .i64 0] := H8.hb
        have hk8 := hk6.grown hg8 (fun e => hne (by injection e))
        have hr8 := ((hr4'.ext he46).ext hS).fresh hf4 hg8 (fun b hb => by injection hb with hb; omega)
        have z38 : w3.heap.size ≤ w8.heap.size := Nat.le_trans z34 (Nat.le_trans he46.le (Nat.le_trans hS.le hg8.size))
        refine J.seq ?_
        refine J.region ?_
        refine L.va rfl (X.move (by conv => lhs; whnf)) ?_
        refine L.va rfl (X.move (by conv => lhs; whnf)) ?_
        cases c
        · have oS : opStep ep i zs o = ⟨nx1, false, o.tm, o.sm⟩ := by
            unfold opStep
            rw [← hc, eN, Bool.false_and, Bool.false_and]
            rfl
          refine L.caseBF (k := 81) rfl (by rfl) ?_
          refine L.no rfl ?_
          refine L.va rfl (X.pickF rfl (by conv => lhs; whnf)) ?_
          refine L.va rfl (X.move (by conv => lhs; whnf)) ?_
          refine L.no rfl ?_
          refine L.no rfl ?_
          refine L.no rfl ?_
          refine L.no rfl ?_
          refine L.va rfl (X.pickF rfl (by conv => lhs; whnf)) ?_
          refine L.va rfl (X.assign (by conv => lhs; whnf)) ?_
          refine L.nil ?_
          refine J.seq ?_
          refine J.region ?_
          refine L.va rfl (X.move (by conv => lhs; whnf)) ?_
          refine L.nil ?_
          refine J.iteF rfl ?_
          refine J.skip ?_
          refine J.region ?_
          refine L.va rfl (X.add rfl rfl (by omega)) ?_
          refine L.va rfl (X.move (by conv => lhs; whnf)) ?_
          refine L.nil ?_
          refine ⟨(i + 1, ⟨gp, sA, sc, tA, tc, ⟨fr, ct, ep, nx1, o.sm, o.tm, 0⟩⟩, v3, false), At2 (by first | rfl | exact at_int rfl (by omega) | exact at_slice rfl (by omega) | exact at_int rfl (by simp)) (by first | rfl | exact at_int rfl (by omega) | exact at_slice rfl (by omega) | exact at_int rfl (by simp)), (by (iterate 50 refine Agr.lk rfl ?_); exact Agr.lk rfl (Agr.hav rfl Agr.rfl')), ?_⟩
          refine ⟨⟨by omega, by rw [eS, oS], H8, d3, k3, p4, by rw [eS, oS]; rfl, q8, n8, rfl⟩, by show ct - (i + 1) < ct - i; omega⟩
        · have K2 := lfollows H8 i (by omega) zs A4 c4 o.nx o.ch (fun _ => oo.c1 hc.symm)
          rw [show fol ⟨o.nx, o.ch, o.tm, o.sm⟩ i zs = fol o i zs from rfl] at K2
          refine L.caseBT (k := 81) rfl (by rfl) ?_
          refine L.va rfl (X.move (by conv => lhs; whnf)) ?_
          refine L.va rfl (X.pickT rfl (by conv => lhs; whnf)) ?_
          refine L.va rfl (X.move (by conv => lhs; whnf)) ?_
          refine L.caseBT (k := 84) rfl (by rfl) ?_
          refine L.va rfl (X.move (by conv => lhs; whnf)) ?_
          refine L.va rfl (X.move (by conv => lhs; whnf)) ?_
          refine L.va rfl ((by first | exact X.loadAgg rfl (range_l hb8') Tryd.underlying105 rfl (by kernel_rfl) | exact X.loadAgg rfl (range_blk hb8') Tryd.underlying105 rfl (by kernel_rfl) | exact X.loadAgg rfl (range_l hk8) Tryd.underlying105 rfl (by kernel_rfl) | exact X.loadAgg rfl (range_blk hk8) Tryd.underlying105 rfl (by kernel_rfl))) ?_
          refine L.call rfl en_50 rfl (K2) ?_
          rintro e w9 ⟨rfl, he9⟩
          refine ⟨_, rfl, ?_⟩
          have he9 : Ext w8 w9 := he9
          have H9 := H8.ext he9
          have q9 := q8.ext_ he9
          have hb9 := hb8'.ext he9
          have hk9 := hk8.ext he9
          have hr9 := hr8.ext he9
          refine L.va rfl (X.pickT rfl (by conv => lhs; whnf)) ?_
          refine L.va rfl (X.assign (by conv => lhs; whnf)) ?_
          refine L.nil ?_
          refine J.seq ?_
          refine J.region ?_
          refine L.va rfl (X.move (by conv => lhs; whnf)) ?_
          refine L.nil ?_
          cases hfo : fol o i zs
          · have oS : opStep ep i zs o = ⟨nx1, false, o.tm, o.sm⟩ := by
              unfold opStep
              rw [← hc, eN, hfo, Bool.and_false]
              rfl
            refine J.iteF rfl ?_
            refine J.skip ?_
            refine J.region ?_
            refine L.va rfl (X.add rfl rfl (by omega)) ?_
            refine L.va rfl (X.move (by conv => lhs; whnf)) ?_
            refine L.nil ?_
            refine ⟨(i + 1, ⟨gp, sA, sc, tA, tc, ⟨fr, ct, ep, nx1, o.sm, o.tm, 0⟩⟩, v3, false), At2 (by first | rfl | exact at_int rfl (by omega) | exact at_slice rfl (by omega) | exact at_int rfl (by simp)) (by first | rfl | exact at_int rfl (by omega) | exact at_slice rfl (by omega) | exact at_int rfl (by simp)), (by (iterate 51 refine Agr.lk rfl ?_); exact Agr.lk rfl (Agr.hav rfl Agr.rfl')), ?_⟩
            refine ⟨⟨by omega, by rw [eS, oS], H9, d3, k3, p4, by rw [eS, oS]; rfl, q9, n8, rfl⟩, by show ct - (i + 1) < ct - i; omega⟩
          · have oS : opStep ep i zs o = ⟨nx1, true, o.tm ++ [sB smZ zs], o.sm ++ pBy zs⟩ := by
              unfold opStep
              rw [← hc, eN, hfo, hko, Bool.and_true]
              rfl
            refine J.iteT rfl ?_
            refine J.seq ?_
            refine J.draw (ℓ := 11) (S := (fun w' => Blk w' gp 42 #[.bool true, v3.ptr, .int .i64 (fr : Int), .int .i64 (ct : Int), .int .u64 ep, .int .u64 nx1, .slice sA o.sm.length sc, .slice tA o.tm.length tc, .int .i64 0] ∧ Blk w' b5 105 #[.int .i64 (pAt zs), .int .u64 (pPrev zs), .int .u64 (sB smZ zs), .slice A4 (pBy zs).length c4])) mixed (fun w10 hSE hS_h => ?_)
            have hS : ((fun w' => Blk w' gp 42 #[.bool true, v3.ptr, .int .i64 (fr : Int), .int .i64 (ct : Int), .int .u64 ep, .int .u64 nx1, .slice sA o.sm.length sc, .slice tA o.tm.length tc, .int .i64 0] ∧ Blk w' b5 105 #[.int .i64 (pAt zs), .int .u64 (pPrev zs), .int .u64 (sB smZ zs), .slice A4 (pBy zs).length c4])) w10 := And.intro (hb9.ext hSE) (hk9.ext hSE)
            refine D.va 0 rfl (by kernel_rfl) (fun _ _ _ h => h) rfl (fun w' hw => X.move (by conv => lhs; whnf)) hS ?_
            refine D.va 1 rfl (by kernel_rfl) (fun _ _ _ h => h) rfl (fun w' hw => X.move (by conv => lhs; whnf)) hS ?_
            refine D.va 2 rfl (by kernel_rfl) (fun _ _ _ h => h) rfl (fun w' hw => X.nilCheck rfl) hS ?_
            refine D.va 3 rfl (by kernel_rfl) (fun _ _ _ h => h) rfl (fun w' hw => X.fieldAddr rfl Tryd.underlying42 rfl sz_40 (by decide)) hS ?_
            refine D.va 4 rfl (by kernel_rfl) (fun _ _ _ h => h) rfl (fun w' hw => X.load rfl sc_40 (by first | exact Ld.blk hw.1 rfl | exact Ld.blk hw.2 rfl)) hS ?_
            refine D.va 5 rfl (by kernel_rfl) (fun _ _ _ h => h) rfl (fun w' hw => X.fieldAddr rfl Tryd.underlying105 rfl sz_35 (by decide)) hS ?_
            refine D.va 6 rfl (by kernel_rfl) (fun _ _ _ h => h) rfl (fun w' hw => X.load rfl sc_35 (by first | exact Ld.blk hw.1 rfl | exact Ld.blk hw.2 rfl)) hS ?_
            refine D.one 7 (by kernel_rfl) rfl ?_
            refine L.bslice (vs := [_]) rfl (Evs.cons (by conv => lhs; whnf) Evs.nil) rfl rfl rfl rfl Tryd.underlying40 sz_35 zr_35 (by decide) ?_
            intro b11 w11 hb11 hs11 hk11 he11
            have hS1 := And.intro (hS.1.ext he11) (hS.2.ext he11)
            refine L.nil ?_
            refine ⟨fun _ => hS1, ?_⟩
            have H11 := (H9.ext hSE).ext he11
            have z11 := H11.hd.nsz
            have hx11 := H11.ht
            have ne1 : some gp ≠ Value.ownBlock (.slice tA o.tm.length tc) := fun e => own_blk_ne hx11 H11.hb (by decide) e.symm
            have ne2 : some b5 ≠ Value.ownBlock (.slice tA o.tm.length tc) := fun e => own_blk_ne hx11 hS1.2 (by decide) e.symm
            have hx11' : w11.ownsRow N 35 1 (.slice tA o.tm.length tc) o.tm.length (nums .u64 o.tm) := hx11
            refine D.one 8 (by kernel_rfl) rfl ?_
            refine L.appendQ (q := o.tm.length + 1) (ys := o.tm ++ [sB smZ zs]) rfl rfl rfl Tryd.underlying40 el_35 (hx11') ((blk_reads (q := 1) (l := nums .u64 [sB smZ zs]) hk11 hk11.lt rfl)) (by omega) (by simp) (by unfold maxLen; omega) (by omega) ?_
            intro A12 c12 w12 ho12 hg12 hb12 hor12
            have hS2 := And.intro (hS1.1.grown hg12 ne1) (hS1.2.grown hg12 ne2)
            refine L.nil ?_
            refine ⟨fun _ => hS2, ?_⟩
            refine D.va 9 rfl (by kernel_rfl) (fun _ _ _ h => h) rfl (fun w' hw => X.nilCheck rfl) hS2 ?_
            refine D.va 10 rfl (by kernel_rfl) (fun _ _ _ h => h) rfl (fun w' hw => X.fieldAddr rfl Tryd.underlying42 rfl sz_40 (by decide)) hS2 ?_
            refine D.one 11 (by kernel_rfl) rfl ?_
            refine L.store rfl rfl (by conv => lhs; whnf) rfl sz_40 (hS2.1) (by first | decide | exact Nat.le_of_ble_eq_true rfl) ?_
            intro w13 hk13 hg13 hs13
            refine L.nil ?_
            refine ⟨fun h => absurd rfl h, ?_⟩
            refine D.done (by kernel_rfl) ?_
            have tl : (o.tm ++ [sB smZ zs]).length = o.tm.length + 1 := by simp
            obtain ⟨H13, c13, g13⟩ := H11.tput (l := ⟨fr, ct, ep, nx1, o.sm, o.tm ++ [sB smZ zs], 0⟩) (tA := A12) (tc := c12) hg12 (by show w12.ownsRow N 35 1 (.slice A12 (o.tm ++ [sB smZ zs]).length c12) (o.tm ++ [sB smZ zs]).length _; rw [tl]; exact ho12) (fun b hb => by
              rw [show Value.ownBlock (.slice A12 (o.tm ++ [sB smZ zs]).length c12) = Value.ownBlock (.slice A12 (o.tm.length + 1) c12) from ob_len _ _ _ _ _] at hb
              rcases hor12 with e | e
              · exact .inl (by rw [← hb, e]; rfl)
              · rw [e] at hb
                injection hb with hb
                exact .inr (by omega)) hg13 (by unfold Lg.cs Lg.ts; dsimp only; rw [tl]; exact hk13) rfl
            have q13 : Kq v.kb v.d C w w13 := ((q9.ext_ hSE).ext_ he11).of_chg c13 k3 d3 n8
            have n13 : New ⟨gp, sA, sc, A12, c12, ⟨fr, ct, ep, nx1, o.sm, o.tm ++ [sB smZ zs], 0⟩⟩ w.heap.size := n8.gr g13 ((q9.ext_ hSE).ext_ he11).size
            have hb13 : Blk w13 gp 42 #[.bool true, v3.ptr, .int .i64 (fr : Int), .int .i64 (ct : Int), .int .u64 ep, .int .u64 nx1, .slice sA o.sm.length sc, .slice A12 (o.tm ++ [sB smZ zs]).length c12, .int .i64 0] := H13.hb
            have hk13' := hS2.2.grown hg13 (fun e => hne (by injection e))
            have hr13 := ((((hr9.ext hSE).ext he11).fresh hf4 hg12 (fun b hb => by
              obtain ⟨cs, hcs⟩ := (own_isT H3.ht hb).1
              have hcs : Blk w3 b 35 cs := hcs
              exact hcs.lt)).fresh hf4 hg13 (fun b hb => by injection hb with hb; omega)).more (Nat.le_refl _)
            have z413 : w4.heap.size ≤ w13.heap.size := by
              have a1 := he46.le
              have a2 := hg8.size
              have a3 := he9.le
              have a4 := hSE.le
              have a5 := he11.le
              have a6 := hg12.size
              have a7 := hg13.size
              have a8 : w6.heap.size ≤ w7.heap.size := Ext.le ‹Ext w6 w7›
              omega
            have hr13 := hr13.more (B' := w13.heap.size) (by
              have a1 := he46.le
              have a8 : w6.heap.size ≤ w7.heap.size := Ext.le ‹Ext w6 w7›
              omega)
            refine J.draw (ℓ := 10) (S := (fun w' => Blk w' gp 42 #[.bool true, v3.ptr, .int .i64 (fr : Int), .int .i64 (ct : Int), .int .u64 ep, .int .u64 nx1, .slice sA o.sm.length sc, .slice A12 (o.tm ++ [sB smZ zs]).length c12, .int .i64 0] ∧ Blk w' b5 105 #[.int .i64 (pAt zs), .int .u64 (pPrev zs), .int .u64 (sB smZ zs), .slice A4 (pBy zs).length c4])) mixed (fun w14 hSE hS_h => ?_)
            have hS : ((fun w' => Blk w' gp 42 #[.bool true, v3.ptr, .int .i64 (fr : Int), .int .i64 (ct : Int), .int .u64 ep, .int .u64 nx1, .slice sA o.sm.length sc, .slice A12 (o.tm ++ [sB smZ zs]).length c12, .int .i64 0] ∧ Blk w' b5 105 #[.int .i64 (pAt zs), .int .u64 (pPrev zs), .int .u64 (sB smZ zs), .slice A4 (pBy zs).length c4])) w14 := And.intro (hb13.ext hSE) (hk13'.ext hSE)
            have H14 := H13.ext hSE
            have z14 := H14.hd.nsz
            have hr14 := hr13.ext hSE
            have n4 : some gp ≠ Value.ownBlock (.slice sA o.sm.length sc) := fun e => absurd ((H14.hs.own e.symm).1.fun_ H14.hb.isT) (by decide)
            have n5 : some b5 ≠ Value.ownBlock (.slice sA o.sm.length sc) := fun e => absurd ((H14.hs.own e.symm).1.fun_ hS.2.isT) (by decide)
            refine D.va 0 rfl (by kernel_rfl) (fun _ _ _ h => h) rfl (fun w' hw => X.move (by conv => lhs; whnf)) hS ?_
            refine D.va 1 rfl (by kernel_rfl) (fun _ _ _ h => h) rfl (fun w' hw => X.move (by conv => lhs; whnf)) hS ?_
            refine D.va 2 rfl (by kernel_rfl) (fun _ _ _ h => h) rfl (fun w' hw => X.nilCheck rfl) hS ?_
            refine D.va 3 rfl (by kernel_rfl) (fun _ _ _ h => h) rfl (fun w' hw => X.fieldAddr rfl Tryd.underlying42 rfl sz_22 (by decide)) hS ?_
            refine D.va 4 rfl (by kernel_rfl) (fun _ _ _ h => h) rfl (fun w' hw => X.load rfl sc_22 (by first | exact Ld.blk hw.1 rfl | exact Ld.blk hw.2 rfl)) hS ?_
            refine D.va 5 rfl (by kernel_rfl) (fun _ _ _ h => h) rfl (fun w' hw => X.fieldAddr rfl Tryd.underlying105 rfl sz_22 (by decide)) hS ?_
            refine D.va 6 rfl (by kernel_rfl) (fun _ _ _ h => h) rfl (fun w' hw => X.load rfl sc_22 (by first | exact Ld.blk hw.1 rfl | exact Ld.blk hw.2 rfl)) hS ?_
            refine D.one 7 (by kernel_rfl) rfl ?_
            refine L.appendSm rfl rfl rfl Tryd.underlying22 el_5 H14.hs hr14 hpp (by show o.sm.length + (pBy zs).length ≤ maxLen ∧ (o.sm.length + (pBy zs).length) * 1 ≤ _; unfold maxLen; omega) z14 ?_
            intro A15 c15 w15 ho15 hg15 hor15
            have hS1 := And.intro (hS.1.grown hg15 n4) (hS.2.grown hg15 n5)
            refine L.nil ?_
            refine ⟨fun _ => hS1, ?_⟩
            refine D.va 8 rfl (by kernel_rfl) (fun _ _ _ h => h) rfl (fun w' hw => X.nilCheck rfl) hS1 ?_
            refine D.va 9 rfl (by kernel_rfl) (fun _ _ _ h => h) rfl (fun w' hw => X.fieldAddr rfl Tryd.underlying42 rfl sz_22 (by decide)) hS1 ?_
            refine D.one 10 (by kernel_rfl) rfl ?_
            refine L.store rfl rfl (by conv => lhs; whnf) rfl sz_22 (hS1.1) (by first | decide | exact Nat.le_of_ble_eq_true rfl) ?_
            intro w16 hk16 hg16 hs16
            refine L.nil ?_
            refine ⟨fun h => absurd rfl h, ?_⟩
            refine D.done (by kernel_rfl) ?_
            refine J.region ?_
            refine L.va rfl (X.add rfl rfl (by omega)) ?_
            refine L.va rfl (X.move (by conv => lhs; whnf)) ?_
            refine L.nil ?_
            have sl : (o.sm ++ pBy zs).length = o.sm.length + (pBy zs).length := by simp
            obtain ⟨H16, c16, g16⟩ := H14.sput (l := ⟨fr, ct, ep, nx1, o.sm ++ pBy zs, o.tm ++ [sB smZ zs], 0⟩) (sA := A15) (sc := c15) hg15 (by show w15.ownsRow N 5 1 (.slice A15 (o.sm ++ pBy zs).length c15) (o.sm ++ pBy zs).length _; rw [sl]; exact ho15) (fun b hb => by rw [show Value.ownBlock (.slice A15 (o.sm ++ pBy zs).length c15) = Value.ownBlock (.slice A15 (o.sm.length + (pBy zs).length) c15) from ob_len _ _ _ _ _] at hb; exact hor15 b hb) hg16 (by unfold Lg.cs Lg.ss; dsimp only; rw [sl]; exact hk16) rfl
            have q16 : Kq v.kb v.d C w w16 := (q13.ext_ hSE).of_chg c16 k3 d3 n13
            refine ⟨(i + 1, ⟨gp, A15, c15, A12, c12, ⟨fr, ct, ep, nx1, o.sm ++ pBy zs, o.tm ++ [sB smZ zs], 0⟩⟩, v3, true), At2 (by first | rfl | exact at_int rfl (by omega) | exact at_slice rfl (by omega) | exact at_int rfl (by simp)) (by first | rfl | exact at_int rfl (by omega) | exact at_slice rfl (by omega) | exact at_int rfl (by simp)), (by (iterate 72 refine Agr.lk rfl ?_); exact Agr.lk rfl (Agr.hav rfl Agr.rfl')), ?_⟩
            refine ⟨⟨by omega, by rw [eS, oS], H16, d3, k3, p4, by rw [eS, oS]; rfl, q16, n13.gr g16 (q13.ext_ hSE).size, rfl⟩, by show ct - (i + 1) < ct - i; omega⟩
    · obtain rfl : i = ct := by omega
      have hul := used_le oo.sb
      have osg := oo.sg
      have K := fall sA o.sm.length sc o.sm w2 H2.tab H2.hs.reads oo.sb H2.hs.bd.1 (by have := H2.hs.bd.2; unfold maxLen at this; omega) (by omega)
      have hb2 : Blk w2 gp 42 #[.bool true, v2.ptr, .int .i64 (fr : Int), .int .i64 (i : Int), .int .u64 ep, .int .u64 o.nx, .slice sA o.sm.length sc, .slice tA o.tm.length tc, .int .i64 0] := H2.hb
      refine J.exit ?_
      refine J.seq ?_
      refine J.region ?_
      refine L.va rfl (X.move (by conv => lhs; whnf)) ?_
      refine L.va rfl (X.nilCheck rfl) ?_
      refine L.va rfl (X.fieldAddr rfl Tryd.underlying42 rfl sz_22 (by decide)) ?_
      refine L.va rfl (X.load rfl sc_22 (by first | exact Ld.blk hb2 rfl)) ?_
      refine L.call rfl en_11 rfl (K) ?_
      rintro e w3 ⟨Ao, co, bs, p, er, rfl, eA, hro, hel, he3⟩
      refine ⟨_, rfl, ?_⟩
      have he3 : Ext w2 w3 := he3
      have eU : used o.sm = p := by unfold used; rw [eA]
      have eR : recs o.sm = bs.map Bo.l := by unfold recs; rw [eA]
      rw [eU] at hul
      have H3 := H2.ext he3
      have K2 := lcut H3 p hul (by show (p + 990) / 991 ≤ o.tm.length; omega) (by omega)
      refine L.va rfl (X.move (by conv => lhs; whnf)) ?_
      refine L.va rfl (X.extract rfl rfl) ?_
      refine L.va rfl (X.extract rfl rfl) ?_
      refine L.va rfl (X.extract rfl rfl) ?_
      refine L.va rfl (X.assign (by conv => lhs; whnf)) ?_
      refine L.va rfl (X.assign (by conv => lhs; whnf)) ?_
      refine L.va rfl (X.assign (by conv => lhs; whnf)) ?_
      refine L.nil ?_
      refine J.seq ?_
      refine J.region ?_
      refine L.va rfl (X.move (by conv => lhs; whnf)) ?_
      refine L.va rfl (X.move (by conv => lhs; whnf)) ?_
      refine L.call rfl en_51 rfl (K2) ?_
      rintro e w4 ⟨rfl, G4, H4, e4, c4, g4⟩
      refine ⟨_, rfl, ?_⟩
      refine L.nil ?_
      refine J.seq ?_
      refine J.region ?_
      refine L.va rfl (X.move (by conv => lhs; whnf)) ?_
      refine L.va rfl (X.move (by conv => lhs; whnf)) ?_
      refine L.va rfl (X.assign (by conv => lhs; whnf)) ?_
      refine L.va rfl (X.assign (by conv => lhs; whnf)) ?_
      refine L.va rfl (X.assign (by conv => lhs; whnf)) ?_
      refine L.nil ?_
      refine J.ret ?_
      refine fin3 ?_
      have hnl : ∀ {g t : Nat}, IsT w3 g t → w2.heap.size ≤ g → t ≠ 121 → ¬ Lg.LS ⟨gp, sA, sc, tA, tc, stO fr i ep o⟩ v2 C w3 g := fun ht hge hne => not_LS H2 hge ht hne
      have z2 := q2.size
      refine ⟨G4, v2, Ao, co, bs, ?_, H4, d2, k2, a2, ?_, ?_, (c4.own hro fun g hg => hnl (own_isT hro hg).1 (own_isT hro hg).2 (by decide)).mono z2, fun b hb => (c4.own (hel b hb) fun g hg => hnl (own_isT (hel b hb) hg).1 (own_isT (hel b hb) hg).2 (by decide)).mono z2, (q2.ext_ he3).of_chg c4 k2 d2 n2, n2.gr g4 (Nat.le_trans z2 he3.le), ?_⟩
      · have : G4.p = gp := g4.p
        show Ending.returned (.tuple #[.pointer (some ⟨gp, 0, none⟩), _, _]) = Ending.returned (.tuple #[.pointer (some ⟨G4.p, 0, none⟩), _, _])
        rw [this]
        rfl
      · rw [e4]
        unfold openL
        rw [← hO, eU]
        rfl
      · rw [← hO, eR]
      · have e5 : G4.st = openL v.abs fr i ep := by
          rw [e4]
          unfold openL
          rw [← hO, eU]
          rfl
        have e6 : v2.kp.length = v.abs.kept.length := by
          have := v2.klen
          rw [a2] at this
          exact this.symm
        rw [e5, e6]
        exact openL_ok hB (by omega) hc1 hep
end
end Go.Proofs.YtadfopdjhbjekaaDoor
namespace Go.Proofs.YtadfopdjhbjekaaDoor
set_option maxRecDepth 100000
open Byts Seal Fram
set_option linter.unusedVariables false
namespace Lo
theorem do_wr {s : Ds} (hoff : s.off = false) (hl : s.left = -1) (a : Nat) (ha : a < s.kept.length) (b : List Int) (hb : b.length = 1024) : s.do_ ⟨1, (a : Int), b, true, []⟩ = (⟨s.kept, s.pend ++ [(a, b)], false, -1, s.rd, s.wr + 1, s.fl⟩, [], 0) := by
  have h : s.do_ ⟨1, (a : Int), b, true, []⟩ = ({ s with left := Dk.dec1 s.left, wr := s.wr + 1, pend := s.pend ++ [(a, b)] }, [], 0) := by
    unfold Ds.do_
    rw [if_neg (show ¬ (1 : Int) = 3 by decide), if_neg (show ¬ (1 : Int) = 4 by decide), if_neg (show ¬ s.off = true by rw [hoff]; decide), if_neg, if_neg (show ¬ (1 : Int) = 0 by decide), if_neg, if_neg (show ¬ s.left = 0 by omega), if_pos (show (1 : Int) = 1 from rfl)]
    · rfl
    · rintro ⟨_, h⟩
      exact h hb
    · rintro ⟨_, h | h⟩
      · have h : (a : Int) < 0 := h
        omega
      · have h : (s.kept.length : Int) ≤ (a : Int) := h
        omega
  rw [h, hl, ← hoff]
  rfl
theorem do_fl {s : Ds} (hoff : s.off = false) (hl : s.left = -1) : s.do_ ⟨2, 0, [], true, []⟩ = (⟨keI (fun _ => true) s.kept [] s.pend s.pend.length, [], false, -1, s.rd, s.wr, s.fl + 1⟩, [], 0) := by
  have h : s.do_ ⟨2, 0, [], true, []⟩ = ({ s with left := Dk.dec1 s.left, fl := s.fl + 1, kept := keI (fun _ => true) s.kept [] s.pend s.pend.length, pend := [] }, [], 0) := by
    unfold Ds.do_
    rw [if_neg (show ¬ (2 : Int) = 3 by decide), if_neg (show ¬ (2 : Int) = 4 by decide), if_neg (show ¬ s.off = true by rw [hoff]; decide), if_neg, if_neg (show ¬ (2 : Int) = 0 by decide), if_neg, if_neg (show ¬ s.left = 0 by omega), if_neg (show ¬ (2 : Int) = 1 by decide)]
    · rintro ⟨h, _⟩
      exact absurd (show (2 : Int) = 1 from h) (by decide)
    · rintro ⟨h, _⟩
      exact h rfl
  rw [h, hl, ← hoff]
  rfl
theorem do_cr (s : Ds) (k : List Bool) : s.do_ ⟨4, 0, [], true, k⟩ = (⟨keI (Dk.kpF k) s.kept [] s.pend s.pend.length, [], false, -1, s.rd, s.wr, s.fl⟩, [], 0) := by
  unfold Ds.do_
  rw [if_neg (show ¬ (4 : Int) = 3 by decide), if_pos (show (4 : Int) = 4 from rfl)]
def zZ2 : List Int := List.replicate 1024 0
theorem zZ2_len : zZ2.length = 1024 := List.length_replicate
theorem zZ2_no (ep : Int) : okP zZ2 ep = false := by
  refine decide_eq_false fun h => ?_
  have h1 := h.1
  have hl : ¬ zZ2.length ≠ 1024 := fun h => h zZ2_len
  have h0 : zZ2.getD 0 0 = 0 := by simp [zZ2, List.getD]
  unfold sE at h1
  rw [if_neg hl] at h1
  split at h1
  · cases h1
  · rw [if_pos (.inl h0)] at h1
    cases h1
theorem zZ2_bytes : Bytes zZ2 := by
  intro z hz
  rw [zZ2, List.mem_replicate] at hz
  omega
theorem okP_sec {ep nx : Int} {i : Nat} {p : Int} {ch : List Int} (hep : 0 ≤ ep ∧ ep ≤ 18446744073709551615) (hn : 1 ≤ nx ∧ nx < 4611686018427387904) (h0 : 0 < ch.length) (h1 : ch.length ≤ 991) (hi : i < 65536) (hp : 0 ≤ p ∧ p ≤ 18446744073709551615) :
    okP (secL ep nx (shB i p ch)) ep = true ∧ sB smZ (secL ep nx (shB i p ch)) = nx ∧ pAt (secL ep nx (shB i p ch)) = i ∧ pPrev (secL ep nx (shB i p ch)) = p ∧ pBy (secL ep nx (shB i p ch)) = ch := by
  have hl : (shB i p ch).length = 10 + ch.length := by unfold shB; simp only [List.length_append, be_length]; omega
  obtain ⟨e1, e2, e3, e4, e5⟩ := sec_get smZ (fun _ => rfl) 1 ep nx (shB i p ch) (by omega) (by omega) hep.1 hep.2 (by omega) (by omega)
  have e5' : sV smZ (secL ep nx (shB i p ch)) = shB i p ch := e5
  refine ⟨decide_eq_true ⟨e1, e2, e3, by rw [show sB smZ (secL ep nx (shB i p ch)) = nx from e4]; exact hn.1, by rw [show sB smZ (secL ep nx (shB i p ch)) = nx from e4]; exact hn.2, by rw [e5']; omega⟩, e4, ?_, ?_, ?_⟩
  · unfold pAt
    rw [e5']
    have ee : be 2 (i : Int) = [(i : Int) / 256 % 256, (i : Int) / 1 % 256] := rfl
    unfold shB
    rw [ee]
    show (i : Int) / 256 % 256 * 256 + (i : Int) / 1 % 256 = i
    omega
  · unfold pPrev
    rw [e5']
    unfold shB
    rw [List.drop_left' (be_length _ _), List.take_left' (be_length _ _)]
    exact num_be 8 p hp.1 (by
      have : (256 : Int) ^ 8 = 18446744073709551616 := by decide
      omega)
  · unfold pBy
    rw [e5']
    unfold shB
    rw [← List.append_assoc, List.drop_left' (by rw [List.length_append, be_length, be_length])]
theorem recs_one {b : List Int} (hl : b.length ≤ 60000) : allF (frm smZ b) 0 = ([b], 8 + b.length, 0) := by
  have h0 := gE_frm smZ (fun _ => rfl) b [] hl
  have h1 := gB_frm smZ (fun _ => rfl) b [] hl
  rw [List.append_nil] at h0 h1
  have hlen : (frm smZ b).length = 8 + b.length := frm_length smZ (fun _ => rfl) b
  have hs : gStep (frm smZ b) = 8 + b.length := by unfold gStep; rw [h1.2]; omega
  rw [allF_ok (by omega) (by rw [List.drop_zero]; exact h0.2), List.drop_zero, h1.1, hs, allF_end (by omega), Nat.zero_add]
theorem app_one {s : Ds} {l : Ls} {b : List Int} (hoff : s.off = false) (hl : s.left = -1) (hk : s.kept.length = 2) (hf : l.fr = 0) (hc : l.ct = 2) (hb : l.bad = 0) (hs : l.sm.length ≤ 100) (hbl : b.length ≤ 100) (hn : l.nx ≤ 1000) :
    appL s l b = (⟨s.kept, s.pend ++ [(0, secL l.ep l.nx (shB 0 0 (l.sm ++ frm smZ b)))], false, -1, s.rd, s.wr + 1, s.fl⟩, { l with sm := l.sm ++ frm smZ b, tm := [l.nx], nx := l.nx + 1 }, 0) := by
  have hfl : (frm smZ b).length = 8 + b.length := frm_length smZ (fun _ => rfl) b
  have e1 : l.sm.length / 991 = 0 := Nat.div_eq_of_lt (by omega)
  have e2 : (l.sm.length + (8 + b.length) - 1) / 991 = 0 := Nat.div_eq_of_lt (by omega)
  unfold appL
  rw [if_neg (by omega), if_neg (by omega)]
  dsimp only
  rw [hfl, e1, e2, if_neg (by omega)]
  have hch : chunk { l with sm := l.sm ++ frm smZ b } 0 = l.sm ++ frm smZ b := by
    unfold chunk
    rw [Nat.zero_mul, List.drop_zero]
    exact List.take_of_length_le (by show (l.sm ++ frm smZ b).length ≤ 991; rw [List.length_append]; omega)
  have hbl2 : (secL l.ep l.nx (shB 0 0 (l.sm ++ frm smZ b))).length = 1024 := secL_len _ _ _ (by unfold shB; simp only [List.length_append, be_length]; omega)
  have hw : wrL s { l with sm := l.sm ++ frm smZ b } 0 = (⟨s.kept, s.pend ++ [(0, secL l.ep l.nx (shB 0 0 (l.sm ++ frm smZ b)))], false, -1, s.rd, s.wr + 1, s.fl⟩, { l with sm := l.sm ++ frm smZ b, tm := [l.nx], nx := l.nx + 1 }, 0) := by
    unfold wrL
    rw [hch]
    have hd := do_wr hoff hl 0 (by omega) _ hbl2
    have hp : prevL { l with sm := l.sm ++ frm smZ b } 0 = 0 := rfl
    rw [hp]
    dsimp only
    rw [show ((l.fr + 0 : Nat) : Int) = ((0 : Nat) : Int) by rw [hf], hd]
    rfl
  show wrN s { l with sm := l.sm ++ frm smZ b } 0 1 = _
  unfold wrN
  rw [hw]
  rfl
end Lo
end Go.Proofs.YtadfopdjhbjekaaDoor
namespace Go.Proofs.YtadfopdjhbjekaaDoor
set_option maxRecDepth 100000
open Go.RowKit H
set_option linter.unusedVariables false
theorem run_mark {P : Program} {w : World} {t e : TypeId} {g n c : Nat} {cs : Array Value} (hb : Blk w g e cs) (ht : P.underlying t = some (.slice e)) (he : P.underlying e = some (.int .u8)) :
    (convert t t (.slice (some ⟨g, 0, none⟩) n c)).run P w = .ok (.slice (some ⟨g, 0, none⟩) n c) (w.freeze ⟨g, cs.size, none⟩ 1) := by
  have hsh : w.shape? g = some (e, cs.size) := by
    unfold World.shape?
    rw [show w.heap[g]? = _ from hb]
  simp [convert, run_underlying ht, run_underlying he, markStringish, hsh]
theorem freeze_at {w : World} {g e : Nat} {cs : Array Value} (hb : Blk w g e cs) : (w.freeze ⟨g, cs.size, none⟩ 1).heap[g]? = some (.cells cs e (cs.size, cs.size + 1)) := by
  have hlt := hb.lt
  unfold World.freeze
  rw [if_neg (by decide)]
  show (w.heap.modify g _)[g]? = _
  rw [Array.getElem?_eq_getElem (by rw [Array.size_modify]; exact hlt), Array.getElem_modify_self]
  have hk : w.heap[g] = .cells cs e (0, 0) := by
    have := hb
    unfold Blk at this
    rw [Array.getElem?_eq_getElem hlt] at this
    exact Option.some.inj this
  rw [hk]
  rfl
theorem freeze_grown (w : World) (g k : Nat) : w.grownBy (w.freeze ⟨g, k, none⟩ 1) (some g) := by
  unfold World.freeze
  rw [if_neg (by decide)]
  refine ⟨rfl, rfl, rfl, by show w.heap.size ≤ (w.heap.modify g _).size; rw [Array.size_modify]; exact Nat.le_refl _, fun j hj hne => ?_⟩
  show (w.heap.modify g _)[j]? = _
  rw [Array.getElem?_modify, if_neg (fun e => hne (by rw [e]))]
theorem L.mark {P : Program} {n : Nat} {ops rest : List Oper} {Q : Exit → Fr → World → Prop} {f : Fr} {w : World} {d : Option Tmp} {ty : TypeId} {pos : String} {aft : Array Edge} {gd : Option (Nat × Bool)} {x : Operand} {t e : TypeId} {g m c q : Nat} {cs : Array Value} (hg : wn ops f gd = true) (hx : ev f x = .slice (some ⟨g, 0, none⟩) m c) (hb : Blk w g e cs) (hq : cs.size = q)
    (ht : P.underlying t = some (.slice e)) (he : P.underlying e = some (.int .u8))
    (h : ∀ w', Reads w' (g + 1) 1 (some ⟨g, 0, none⟩) q cs.toList → w.grownBy w' (some g) → L P n ops Q rest (putO f d (.slice (some ⟨g, 0, none⟩) m c)) w') : L P n ops Q (⟨d, .convert t t x, ty, pos, aft, gd⟩ :: rest) f w := by
  refine L.val hg (w' := w.freeze ⟨g, cs.size, none⟩ 1) (v := .slice (some ⟨g, 0, none⟩) m c) ?_ (h _ ?_ (freeze_grown w g _))
  · have := run_mark (n := m) (c := c) hb ht he
    simp only [execOp, hx]
    simp [this]
  · subst hq
    refine ⟨by simp, fun _ => ⟨⟨g, 0, none⟩, rfl, Nat.lt_succ_self _, fun j u hu => ?_⟩⟩
    have := cell_of_row _ g j cs e _ (freeze_at hb)
    rw [Addr.add_mid, Nat.zero_add, this]
    simpa using hu
end Go.Proofs.YtadfopdjhbjekaaDoor
namespace Go.Proofs.YtadfopdjhbjekaaDoor
set_option maxRecDepth 100000
open Go.RowKit H
open Lo Byts Seal Fram
set_option linter.unusedVariables false
theorem ok2S {k0 k1 : List Int} (h0 : k0.length = 1024) (h1 : k1.length = 1024) {p : List (Nat × List Int)} (hp : ∀ x ∈ p, x.1 < 2 ∧ x.2.length = 1024) (hl : p.length ≤ 10) (o : Bool) (l a b c : Int) (h : -1 ≤ l ∧ l ≤ 10 ∧ 0 ≤ a ∧ a ≤ 10 ∧ 0 ≤ b ∧ b ≤ 10 ∧ 0 ≤ c ∧ c ≤ 10) : Ds.Ok ⟨[k0, k1], p, o, l, a, b, c⟩ 10 :=
  ⟨by show 1 ≤ 2 ∧ 2 ≤ 8192; omega, by intro x hx; simp only [List.mem_cons, List.not_mem_nil, or_false] at hx; rcases hx with rfl | rfl <;> assumption, hp, by show p.length ≤ 10 ∧ (0 ≤ a ∧ a ≤ ((10 : Nat) : Int)) ∧ (0 ≤ b ∧ b ≤ ((10 : Nat) : Int)) ∧ (0 ≤ c ∧ c ≤ ((10 : Nat) : Int)); omega, by show -1 ≤ l ∧ l ≤ 9223372036854775807; omega⟩
theorem sec_bytes {ep nx : Int} {bd : List Int} (h : Bytes bd) : Bytes (secL ep nx bd) := by
  intro z hz
  unfold secL sec at hz
  rcases List.mem_append.1 hz with hz | hz
  · exact hd_bytes _ _ _ _ (by decide) h z hz
  · exact smZ_bytes _ z hz
def fA : List Int := frm smZ [97]
def fB : List Int := frm smZ [98]
theorem fA_len : fA.length = 9 := frm_length smZ (fun _ => rfl) [97]
def S1 : List Int := secL 1 1 (shB 0 0 fA)
def S2 : List Int := secL 1 2 (shB 0 0 (fA ++ fB))
theorem S1_len : S1.length = 1024 := secL_len _ _ _ (by unfold shB; simp only [List.length_append, be_length, fA_len]; omega)
theorem S2_len : S2.length = 1024 := secL_len _ _ _ (by
  have : fB.length = 9 := frm_length smZ (fun _ => rfl) [98]
  unfold shB
  simp only [List.length_append, be_length, fA_len, this]
  omega)
theorem one_bytes {z : Int} (h : 0 ≤ z ∧ z < 256) : Bytes [z] := by intro y hy; simp only [List.mem_singleton] at hy; omega
theorem S1_bytes : Bytes S1 := sec_bytes (shB_bytes (frm_bytes _ (one_bytes (z := 97) (by decide))))
def dA : Ds := ⟨[zZ2, zZ2], [], false, -1, 0, 0, 0⟩
def dB : Ds := ⟨[zZ2, zZ2], [], false, -1, 2, 0, 0⟩
def dC : Ds := ⟨[zZ2, zZ2], [(0, S1)], false, -1, 2, 1, 0⟩
def dD : Ds := ⟨[S1, zZ2], [], false, -1, 2, 1, 1⟩
def dE : Ds := ⟨[S1, zZ2], [(0, S2)], false, -1, 2, 2, 1⟩
def dF : Ds := ⟨[S1, zZ2], [], false, -1, 2, 2, 1⟩
def lA : Ls := ⟨0, 2, 1, 1, [], [], 0⟩
def lB : Ls := ⟨0, 2, 1, 2, fA, [1], 0⟩
def lC : Ls := ⟨0, 2, 1, 3, fA ++ fB, [2], 0⟩
theorem dA_rd : rdN dA 2 = dB := rfl
theorem opA : opI dA 0 1 2 = ⟨1, false, [], []⟩ := by
  have h0 : dA.now (0 + 0) = zZ2 := rfl
  have h1 : dA.now (0 + 1) = zZ2 := rfl
  show opStep 1 1 (dA.now (0 + 1)) (opStep 1 0 (dA.now (0 + 0)) ⟨1, true, [], []⟩) = _
  rw [h0, h1]
  have e : ∀ (i : Nat) (o : Lo.Os), opStep 1 i zZ2 o = ⟨o.nx, false, o.tm, o.sm⟩ := by
    intro i o
    unfold opStep opNx
    rw [zZ2_no, Bool.and_false, Bool.false_and]
    rfl
  rw [e, e]
theorem allF_nil : allF [] 0 = ([], 0, 0) := allF_end (Nat.le_refl _)
theorem openA : openL dA 0 2 1 = lA := by
  unfold openL used
  rw [opA]
  dsimp only
  rw [allF_nil]
  rfl
theorem appA : appL dB lA [97] = (dC, lB, 0) := by
  have := app_one (s := dB) (l := lA) (b := [97]) rfl rfl rfl rfl rfl rfl (by decide) (by decide) (by decide)
  rw [this]
  rfl
theorem syncB : syncL dC lB = (dD, lB, 0) := by
  have h : dC.do_ ⟨2, 0, [], true, []⟩ = (dD, [], 0) := do_fl rfl rfl
  unfold syncL
  rw [if_neg (by decide), h]
  rfl
theorem appB : appL dD lB [98] = (dE, lC, 0) := by
  have := app_one (s := dD) (l := lB) (b := [98]) rfl rfl rfl rfl rfl rfl (by rw [show lB.sm.length = 9 from fA_len]; decide) (by decide) (by decide)
  rw [this]
  rfl
theorem crashE : (dE.do_ ⟨4, 0, [], true, []⟩).1 = dF := by
  rw [do_cr]
  rfl
theorem opF : opI dF 0 1 2 = ⟨2, false, [1], fA⟩ := by
  have h0 : dF.now (0 + 0) = S1 := rfl
  have h1 : dF.now (0 + 1) = zZ2 := rfl
  show opStep 1 1 (dF.now (0 + 1)) (opStep 1 0 (dF.now (0 + 0)) ⟨1, true, [], []⟩) = _
  rw [h0, h1]
  obtain ⟨q1, q2, q3, q4, q5⟩ := okP_sec (ep := 1) (nx := 1) (i := 0) (p := 0) (ch := fA) (by decide) (by decide) (by rw [fA_len]; decide) (by rw [fA_len]; decide) (by decide) (by decide)
  have e0 : opStep 1 0 S1 ⟨1, true, [], []⟩ = ⟨2, true, [1], fA⟩ := by
    have hf : fol ⟨1, true, [], []⟩ 0 S1 = true := by
      unfold fol
      rw [if_neg, if_pos rfl]
      · exact decide_eq_true q4
      · rintro (h | h)
        · exact h q3
        · exact h rfl
    unfold opStep opNx
    rw [show okP S1 1 = true from q1, hf, show sB smZ S1 = 1 from q2, show pBy S1 = fA from q5]
    rfl
  have e : ∀ (i : Nat) (o : Lo.Os), opStep 1 i zZ2 o = ⟨o.nx, false, o.tm, o.sm⟩ := by
    intro i o
    unfold opStep opNx
    rw [zZ2_no, Bool.and_false, Bool.false_and]
    rfl
  rw [e0, e]
theorem recF : recs (opI dF 0 1 2).sm = [[97]] := by
  unfold recs
  rw [opF]
  show (allF (frm smZ [97]) 0).1 = [[97]]
  rw [recs_one (by decide)]
theorem one_of_map {bs : List Bo} {l : List Int} (h : bs.map Bo.l = [l]) : ∃ b, bs = [b] ∧ b.l = l := by
  cases bs with
  | nil => cases h
  | cons a t =>
    cases t with
    | nil =>
      injection h with h
      exact ⟨a, rfl, h⟩
    | cons b u =>
      injection h with _ h
      cases h
theorem awake22 (w : World) (ht : Tab w) : Calls Tryd.prog 13 #[] w fun e w' => e = .returned (.bool true) ∧ Ext w w' := by
  have hz2 := zZ2_len
  have hS1 := S1_len
  have hS2 := S2_len
  have hpC : ∀ x ∈ dC.pend, x.1 < 2 ∧ x.2.length = 1024 := by intro x hx; simp only [dC, List.mem_singleton] at hx; subst hx; exact ⟨by decide, hS1⟩
  have hpE : ∀ x ∈ dE.pend, x.1 < 2 ∧ x.2.length = 1024 := by intro x hx; simp only [dE, List.mem_singleton] at hx; subst hx; exact ⟨by decide, hS2⟩
  have okA : dA.Ok 10 := ok2S hz2 hz2 (by intro x hx; cases hx) (by decide) _ _ _ _ _ (by decide)
  have okB : dB.Ok 10 := ok2S hz2 hz2 (by intro x hx; cases hx) (by decide) _ _ _ _ _ (by decide)
  have okC : dC.Ok 10 := ok2S hz2 hz2 hpC (by decide) _ _ _ _ _ (by decide)
  have okD : dD.Ok 10 := ok2S hS1 hz2 (by intro x hx; cases hx) (by decide) _ _ _ _ _ (by decide)
  have okE : dE.Ok 10 := ok2S hS1 hz2 hpE (by decide) _ _ _ _ _ (by decide)
  have okF : dF.Ok 10 := ok2S hS1 hz2 (by intro x hx; cases hx) (by decide) _ _ _ _ _ (by decide)
  have byA : Byte dA := ⟨by intro x hx; simp only [dA, List.mem_cons, List.not_mem_nil, or_false, or_self] at hx; subst hx; exact zZ2_bytes, by intro x hx; cases hx⟩
  have byF : Byte dF := ⟨by intro x hx; simp only [dF, List.mem_cons, List.not_mem_nil, or_false] at hx; rcases hx with rfl | rfl; exact S1_bytes; exact zZ2_bytes, by intro x hx; cases hx⟩
  refine enter Tryd.func13 rfl (by kernel_rfl) ?_
  refine J.seq ?_
  refine J.region ?_
  refine L.va rfl (X.assign (by conv => lhs; whnf)) ?_
  refine L.nil ?_
  refine J.seq ?_
  refine J.region ?_
  refine L.call rfl en_21 rfl (new_ok 2 (by omega)) ?_
  rintro e w1 ⟨v, rfl, hv, k1, k2, k3, k4, k5, k6, k7, he1⟩
  refine ⟨_, rfl, ?_⟩
  have a1 : v.abs = dA := by
    unfold Dk.abs abs_
    rw [show v.kp.map (·.2) = v.dat from rfl, k7, k1, k2, k3, k4, k5, k6]
    rfl
  have hkl : v.kp.length = 2 := by rw [← v.klen, a1]; rfl
  have hlo := openL_ok (s := dA) byA (fr := 0) (ct := 2) (ep := 1) (by decide) (by decide) (by decide)
  have K1 := lopen hv (by rw [a1]; exact okA) (by omega) k1 (by rw [a1]; exact byA) (tabx ht he1) ht.size 0 2 (by omega) (by omega) (by omega) 1 (by omega)
  refine L.va rfl (X.move (by conv => lhs; whnf)) ?_
  refine L.va rfl (X.extract rfl rfl) ?_
  refine L.va rfl (X.extract rfl rfl) ?_
  refine L.va rfl (X.assign (by conv => lhs; whnf)) ?_
  refine L.va rfl (X.assign (by conv => lhs; whnf)) ?_
  refine L.nil ?_
  refine J.seq ?_
  refine J.region ?_
  refine L.va rfl (X.move (by conv => lhs; whnf)) ?_
  refine L.call rfl en_14 rfl (K1) ?_
  rintro e w2 ⟨G2, v2, A2, c2, bs2, rfl, O2⟩
  refine ⟨_, rfl, ?_⟩
  have a2 := O2.ab
  rw [a1, dA_rd] at a2
  have s2 := O2.st
  rw [a1, openA] at s2
  have B2 : Below w.heap.size w w2 := Below.trans he1 (hv.below O2.kq)
  have H2 := O2.at_
  have d2 := O2.d
  have kk2 := O2.kb
  refine L.va rfl (X.move (by conv => lhs; whnf)) ?_
  refine L.va rfl (X.extract rfl rfl) ?_
  refine L.va rfl (X.extract rfl rfl) ?_
  refine L.va rfl (X.extract rfl rfl) ?_
  refine L.va rfl (X.assign (by conv => lhs; whnf)) ?_
  refine L.va rfl (X.assign (by conv => lhs; whnf)) ?_
  refine L.va rfl (X.assign (by conv => lhs; whnf)) ?_
  refine L.nil ?_
  refine J.seq ?_
  refine J.region ?_
  refine L.va rfl (X.move (by conv => lhs; whnf)) ?_
  refine L.bslice (vs := [_]) rfl (Evs.cons (by conv => lhs; whnf) Evs.nil) rfl rfl rfl rfl Tryd.underlying22 sz_5 zr_5 (by decide) ?_
  intro b3 w3 hb3 hs3 hk3 he3
  refine L.mark rfl rfl (hk3) rfl Tryd.underlying22 Tryd.underlying5 ?_
  intro w4 hr4 hg4
  have he24 : Ext w2 w4 := he3.grw hg4 (by intro g hg; injection hg with hg; omega)
  have H4 := H2.ext he24
  have z4 := he24.le
  have hb3lt : b3 + 1 ≤ w4.heap.size := by have := hk3.lt; have := hg4.size; omega
  have hr4 : Reads w4 (b3 + 1) 1 (some ⟨b3, 0, none⟩) 1 (nums .u8 [97]) := hr4
  have K4 := lappend H4 (by rw [a2]; exact okB) (by omega) O2.ok (some ⟨b3, 0, none⟩) 1 1 [97] (hr4.more hb3lt) (one_bytes (by decide)) (by omega)
  rw [a2, s2, appA] at K4
  refine L.call rfl en_15 rfl (K4) ?_
  rintro e w5 ⟨rfl, G5, v5, H5, d5, kk5, a5, s5, ch5, g5⟩
  refine ⟨_, rfl, ?_⟩
  dsimp only at a5 s5
  have B5 := B2.trans (Below.trans (Below.mono he24 H2.hd.nsz) (H4.below ch5))
  have K5 := lsync H5 (by rw [a5]; exact okC) (by omega)
  rw [a5, s5, syncB, show G5.ptr = G2.ptr by unfold Lg.ptr; rw [g5.p]] at K5
  refine L.va rfl (X.assign (by conv => lhs; whnf)) ?_
  refine L.nil ?_
  refine J.seq ?_
  refine J.region ?_
  refine L.va rfl (X.move (by conv => lhs; whnf)) ?_
  refine L.call rfl en_16 rfl (K5) ?_
  rintro e w6 ⟨rfl, G6, v6, H6, d6, kk6, a6, s6, ch6, g6⟩
  refine ⟨_, rfl, ?_⟩
  dsimp only at a6 s6
  have B6 := B5.trans (H5.below ch6)
  have K6 := lused H6
  have hl9 : lB.sm.length = 9 := fA_len
  rw [s6, hl9, show G6.ptr = G2.ptr by unfold Lg.ptr; rw [g6.p, g5.p]] at K6
  refine L.va rfl (X.assign (by conv => lhs; whnf)) ?_
  refine L.nil ?_
  refine J.seq ?_
  refine J.region ?_
  refine L.va rfl (X.move (by conv => lhs; whnf)) ?_
  refine L.call rfl en_18 rfl (K6) ?_
  rintro e _ ⟨rfl, rfl⟩
  refine ⟨_, rfl, ?_⟩
  refine L.va rfl (X.assign (by conv => lhs; whnf)) ?_
  refine L.nil ?_
  refine J.seq ?_
  refine J.region ?_
  refine L.va rfl (X.move (by conv => lhs; whnf)) ?_
  refine L.bslice (vs := [_]) rfl (Evs.cons (by conv => lhs; whnf) Evs.nil) rfl rfl rfl rfl Tryd.underlying22 sz_5 zr_5 (by decide) ?_
  intro b7 w7 hb7 hs7 hk7 he7
  refine L.mark rfl rfl (hk7) rfl Tryd.underlying22 Tryd.underlying5 ?_
  intro w8 hr8 hg8
  have he68 : Ext w6 w8 := he7.grw hg8 (by intro g hg; injection hg with hg; omega)
  have H8 := H6.ext he68
  have hb7lt : b7 + 1 ≤ w8.heap.size := by have := hk7.lt; have := hg8.size; omega
  have hr8 : Reads w8 (b7 + 1) 1 (some ⟨b7, 0, none⟩) 1 (nums .u8 [98]) := hr8
  have hk66 : v6.kp.length = 2 := by rw [← v6.klen, a6]; rfl
  have hL6 : Lo.Ok lB v6.kp.length := by
    rw [hk66]
    refine ⟨by decide, by decide, by decide, by decide, by decide, frm_bytes _ (one_bytes (z := 97) (by decide)), by rw [hl9]; decide, fun _ => by rw [hl9]; rfl, ?_, by decide⟩
    intro x hx
    have hx : x ∈ [(1 : Int)] := hx
    simp only [List.mem_singleton] at hx
    omega
  have K8 := lappend H8 (by rw [a6]; exact okD) (by omega) (by rw [s6]; exact hL6) (some ⟨b7, 0, none⟩) 1 1 [98] (hr8.more hb7lt) (one_bytes (by decide)) (by omega)
  rw [a6, s6, appB, show G6.ptr = G2.ptr by unfold Lg.ptr; rw [g6.p, g5.p]] at K8
  refine L.call rfl en_15 rfl (K8) ?_
  rintro e w9 ⟨rfl, G9, v9, H9, d9, kk9, a9, s9, ch9, g9⟩
  refine ⟨_, rfl, ?_⟩
  dsimp only at a9 s9
  have B9 := B6.trans (Below.trans (Below.mono he68 H6.hd.nsz) (H8.below ch9))
  have ptr9 : v.ptr = v9.ptr := by unfold Dk.ptr; rw [d9, d6, d5, d2]
  have K9 := H9.hd.crash_anyF (by rw [a9]; exact okE) (by omega) ⟨4, 0, [], true, []⟩ rfl none 0 0 Reads.none_ (by omega)
  rw [a9, crashE, ← ptr9] at K9
  refine L.va rfl (X.assign (by conv => lhs; whnf)) ?_
  refine L.nil ?_
  refine J.seq ?_
  refine J.region ?_
  refine L.va rfl (X.move (by conv => lhs; whnf)) ?_
  refine L.call rfl en_27 rfl (K9) ?_
  rintro e w10 ⟨rfl, v10, p1, p2, p3, p4, p5, p6⟩
  refine ⟨_, rfl, ?_⟩
  have H10 := H9.disk p1 p2 p5 p6
  have B10 := B9.trans (H9.hd.below p5)
  have ptr10 : v.ptr = v10.ptr := by rw [ptr9]; unfold Dk.ptr; rw [p2]
  have hk10 : v10.kp.length = 2 := by rw [← v10.klen, p4]; rfl
  have of10 : v10.off = false := by have : v10.abs.off = dF.off := by rw [p4]
                                    exact this
  have K10 := lopen p1 (by rw [p4]; exact okF) (by omega) of10 (by rw [p4]; exact byF) H10.tab ht.size 0 2 (by omega) (by omega) (by omega) 1 (by omega)
  rw [← ptr10] at K10
  refine L.nil ?_
  refine J.seq ?_
  refine J.region ?_
  refine L.va rfl (X.move (by conv => lhs; whnf)) ?_
  refine L.call rfl en_14 rfl (K10) ?_
  rintro e w11 ⟨G11, v11, A11, c11, bs11, rfl, O11⟩
  refine ⟨_, rfl, ?_⟩
  have B11 := B10.trans (p1.below O11.kq)
  have r11 := O11.rec_
  rw [p4, recF] at r11
  obtain ⟨b, rfl, hbl⟩ := one_of_map r11
  have hrow := Reads.of_own O11.row
  have hel := own_reads (O11.els b (by simp))
  obtain ⟨bA, bc, bl⟩ := b
  dsimp only at hbl
  subst hbl
  rw [show ([Bo.mk bA bc [97]] : List Bo).length = 1 from rfl]
  have hA11 := hrow.some_ (show (0 : Nat) < 1 by decide)
  have ld : Ld w11 (pA A11 0) (.slice bA 1 bc) := Ld.rd hrow (j := 0) (show (0 : Nat) < 1 by decide)
  refine L.va rfl (X.move (by conv => lhs; whnf)) ?_
  refine L.va rfl (X.extract rfl rfl) ?_
  refine L.va rfl (X.extract rfl rfl) ?_
  refine L.va rfl (X.extract rfl rfl) ?_
  refine L.va rfl (X.assign (by conv => lhs; whnf)) ?_
  refine L.va rfl (X.assign (by conv => lhs; whnf)) ?_
  refine L.va rfl (X.assign (by conv => lhs; whnf)) ?_
  refine L.nil ?_
  refine J.seq ?_
  refine J.region ?_
  refine L.va rfl (X.move (by conv => lhs; whnf)) ?_
  refine L.va rfl (X.eql rfl rfl) ?_
  refine L.va rfl (X.move (by conv => lhs; whnf)) ?_
  refine L.caseDecT (k := 45) rfl (by rfl) ?_
  refine L.va rfl (X.move (by conv => lhs; whnf)) ?_
  refine L.va rfl (X.eql rfl rfl) ?_
  refine L.va rfl (X.pickT rfl (by conv => lhs; whnf)) ?_
  refine L.va rfl (X.move (by conv => lhs; whnf)) ?_
  refine L.caseDecT (k := 49) rfl (by rfl) ?_
  refine L.va rfl (X.move (by conv => lhs; whnf)) ?_
  refine L.va rfl (X.eql rfl rfl) ?_
  refine L.va rfl (X.pickT rfl (by conv => lhs; whnf)) ?_
  refine L.va rfl (X.move (by conv => lhs; whnf)) ?_
  refine L.caseDecT (k := 53) rfl (by rfl) ?_
  refine L.va rfl (X.move (by conv => lhs; whnf)) ?_
  refine L.va rfl (X.eql rfl rfl) ?_
  refine L.va rfl (X.pickT rfl (by conv => lhs; whnf)) ?_
  refine L.va rfl (X.move (by conv => lhs; whnf)) ?_
  refine L.caseDecT (k := 57) rfl (by rfl) ?_
  refine L.va rfl (X.move (by conv => lhs; whnf)) ?_
  refine L.va rfl (X.eql rfl rfl) ?_
  refine L.va rfl (X.pickT rfl (by conv => lhs; whnf)) ?_
  refine L.va rfl (X.move (by conv => lhs; whnf)) ?_
  refine L.caseDecT (k := 61) rfl (by rfl) ?_
  refine L.va rfl (X.move (by conv => lhs; whnf)) ?_
  refine L.va rfl (X.len rfl Tryd.underlying29) ?_
  refine L.va rfl (X.eql rfl rfl) ?_
  refine L.va rfl (X.pickT rfl (by conv => lhs; whnf)) ?_
  refine L.va rfl (X.move (by conv => lhs; whnf)) ?_
  refine L.caseDecT (k := 66) rfl (by rfl) ?_
  refine L.va rfl (X.move (by conv => lhs; whnf)) ?_
  refine L.va rfl (X.index1n (j := 0) rfl rfl Tryd.underlying29 sz_22 (by first | exact Option.some_ne_none _ | exact hA11 | exact ld) (by omega)) ?_
  refine L.va rfl (X.load rfl sc_22 (by first | exact hA11 | exact ld)) ?_
  refine L.va rfl (X.conv rfl (hel.conv Tryd.underlying22 Tryd.underlying5 Tryd.underlying9)) ?_
  refine L.va rfl (X.eqlS rfl rfl) ?_
  refine L.va rfl (X.pickT rfl (by conv => lhs; whnf)) ?_
  refine L.va rfl (X.move (by conv => lhs; whnf)) ?_
  refine L.caseDecT (k := 73) rfl (by rfl) ?_
  refine L.va rfl (X.move (by conv => lhs; whnf)) ?_
  refine L.va rfl (X.eql rfl rfl) ?_
  refine L.va rfl (X.pickT rfl (by conv => lhs; whnf)) ?_
  refine L.va rfl (X.assign (by conv => lhs; whnf)) ?_
  refine L.nil ?_
  refine J.ret ?_
  refine fin1 ?_
  exact ⟨rfl, B11⟩
end Go.Proofs.YtadfopdjhbjekaaDoor
namespace Go.Proofs.YtadfopdjhbjekaaDoor
set_option maxRecDepth 100000
open Go.RowKit H
set_option linter.unusedVariables false
namespace H
end H
structure DmsAt (xs : List Dm) (A : Option Addr) (n N : Nat) (w : World) : Prop where
  hr : Reads w N 5 A n (xs.flatMap Dm.vals)
  hx : ∀ x ∈ xs, x.At N w
  hn : xs.length = n
namespace Dk
variable {v : Dk} {N N0 : Nat} {C : Nat → Prop} {w w' : World} {r : Rk}
end Dk
end Go.Proofs.YtadfopdjhbjekaaDoor
namespace Go.Proofs.YtadfopdjhbjekaaDoor
set_option maxRecDepth 100000
open Go.RowKit H
set_option linter.unusedVariables false
namespace Dk
variable {v : Dk} {N N0 : Nat} {C : Nat → Prop} {w w' : World} {r : Rk}
structure Pl (v v' : Dk) (N N0 : Nat) (C : Nat → Prop) (r' : Rk) (m : Nat) (w w' : World) : Prop where
  hv : v'.At N C w'
  hd : v'.d = v.d
  hkb : v'.kb = v.kb
  hk : Kq v.kb v.d C w w'
  hr : r'.At N0 w'
  hne : r'.K.ownBlock ≠ some v.kb
  hab : v'.abs = r'.abs
  hok : r'.abs.Ok m
end Dk
end Go.Proofs.YtadfopdjhbjekaaDoor
namespace Go.Proofs.YtadfopdjhbjekaaDoor
set_option maxRecDepth 100000
open Go.RowKit H
set_option linter.unusedVariables false
structure RMk (w w' : World) (b2 b3 i : Nat) (A : Option Addr) (c : Nat) (kp : List Cell) (F : Nat → List Int) : Prop where
  h2 : Blk w' b2 55 #[.slice none 0 0, .slice none 0 0, .bool false, .int .i64 0, .int .i64 0, .int .i64 0, .int .i64 0]
  h3 : Blk w' b3 55 #[.slice A i c, .slice none 0 0, .bool false, .int .i64 (-1), .int .i64 0, .int .i64 0, .int .i64 0]
  hk : w'.ownsRow w.heap.size 22 1 (.slice A i c) i (kp.map (·.1))
  kd : ∀ x ∈ kp, Dat w' x.1 x.2
  hz : kp.map (·.2) = (List.range i).map F
  hl : kp.length = i
  he : Ext w w'
end Go.Proofs.YtadfopdjhbjekaaDoor
namespace Go.Proofs.YtadfopdjhbjekaaDoor
set_option maxRecDepth 100000
open Go.RowKit H
set_option linter.unusedVariables false
def Closed (p : Value) (w : World) : Prop := p = .pointer none ∨ ∃ d, p = .pointer (some ⟨d, 0, none⟩) ∧ Blk w d 119 #[.bool false, .int .i64 0, .bool false, .slice none 0 0, .slice none 0 0, .int .i64 0, .int .i64 0, .int .i64 0]
namespace Closed
variable {p : Value} {w w' : World}
theorem is_ (h : Closed p w) : Calls Tryd.prog 58 #[p] w fun e w' => e = .returned (.bool false) ∧ w = w' := by
  rcases h with rfl | ⟨d, rfl, hb⟩
  · exact Dk.is_nil
  · exact Dk.is_any hb
theorem len_ (h : Closed p w) : Calls Tryd.prog 47 #[p] w fun e w' => e = .returned (.int .i64 0) ∧ w = w' := by
  refine enter Tryd.func47 rfl (by kernel_rfl) ?_
  refine J.seq ?_
  refine J.region ?_
  refine L.va rfl (X.assign (by conv => lhs; whnf)) ?_
  refine L.nil ?_
  refine J.seq ?_
  refine J.seq ?_
  refine J.region ?_
  refine L.va rfl (X.move (by conv => lhs; whnf)) ?_
  refine L.call rfl en_58 rfl (h.is_) ?_
  rintro e _ ⟨rfl, rfl⟩
  refine ⟨_, rfl, ?_⟩
  refine L.va rfl (X.not rfl) ?_
  refine L.nil ?_
  refine J.iteT rfl ?_
  refine J.seq ?_
  refine J.region ?_
  refine L.va rfl (X.assign (by conv => lhs; whnf)) ?_
  refine L.nil ?_
  refine J.ret ?_
  refine thn_ret <| ?_
  refine fin1 ?_
  exact ⟨rfl, rfl⟩
end Closed
end Go.Proofs.YtadfopdjhbjekaaDoor
namespace Go.Proofs.YtadfopdjhbjekaaDoor
set_option maxRecDepth 100000
open Go.RowKit H
open Lo Byts Seal Fram
set_option linter.unusedVariables false
section
variable {w : World} {p : Value}
theorem lopen_nil (ep : Int) : Calls Tryd.prog 14 #[.pointer none, .int .i64 0, .int .i64 1, .int .u64 ep] w fun e w' => e = .returned (.tuple #[.pointer none, .slice none 0 0, .int .i64 1]) ∧ w = w' := by
  have hC : Closed (.pointer none) w := .inl rfl
  refine enter Tryd.func14 rfl (by kernel_rfl) ?_
  refine J.seq ?_
  refine J.region ?_
  refine L.va rfl (X.assign (by conv => lhs; whnf)) ?_
  refine L.va rfl (X.assign (by conv => lhs; whnf)) ?_
  refine L.va rfl (X.assign (by conv => lhs; whnf)) ?_
  refine L.nil ?_
  refine J.seq ?_
  refine J.seq ?_
  refine J.region ?_
  refine L.va rfl (X.move (by conv => lhs; whnf)) ?_
  refine L.va rfl (X.lss rfl rfl) ?_
  refine L.va rfl (X.move (by conv => lhs; whnf)) ?_
  refine L.caseDecF (k := 23) rfl (by omega) ?_
  refine L.va rfl (X.move (by conv => lhs; whnf)) ?_
  refine L.va rfl (X.lss rfl rfl) ?_
  refine L.va rfl (X.pickF rfl (by conv => lhs; whnf)) ?_
  refine L.va rfl (X.move (by conv => lhs; whnf)) ?_
  refine L.caseDecF (k := 27) rfl (by omega) ?_
  refine L.va rfl (X.move (by conv => lhs; whnf)) ?_
  refine L.va rfl (X.move (by conv => lhs; whnf)) ?_
  refine L.call rfl en_47 rfl (hC.len_) ?_
  rintro e _ ⟨rfl, rfl⟩
  refine ⟨_, rfl, ?_⟩
  refine L.va rfl (X.gtr rfl rfl) ?_
  refine L.va rfl (X.pickF rfl (by conv => lhs; whnf)) ?_
  refine L.va rfl (X.move (by conv => lhs; whnf)) ?_
  refine L.caseDecF (k := 33) rfl (by omega) ?_
  refine L.va rfl (X.move (by conv => lhs; whnf)) ?_
  refine L.va rfl (X.move (by conv => lhs; whnf)) ?_
  refine L.call rfl en_47 rfl (hC.len_) ?_
  rintro e _ ⟨rfl, rfl⟩
  refine ⟨_, rfl, ?_⟩
  refine L.va rfl (X.move (by conv => lhs; whnf)) ?_
  refine L.va rfl (X.sub rfl rfl (by omega)) ?_
  refine L.va rfl (X.gtr rfl rfl) ?_
  refine L.va rfl (X.pickF rfl (by conv => lhs; whnf)) ?_
  refine L.nil ?_
  refine J.decT rfl (by omega) ?_
  refine J.seq ?_
  refine J.region ?_
  refine L.va rfl (X.assign (by conv => lhs; whnf)) ?_
  refine L.va rfl (X.assign (by conv => lhs; whnf)) ?_
  refine L.va rfl (X.assign (by conv => lhs; whnf)) ?_
  refine L.nil ?_
  refine J.ret ?_
  refine thn_ret <| ?_
  refine fin3 ?_
  exact ⟨rfl, rfl⟩
theorem noappend (h : NoLog p w) (x : Value) : Calls Tryd.prog 15 #[p, x] w fun e w' => e = .returned (.int .i64 15) ∧ w = w' := by
  refine enter Tryd.func15 rfl (by kernel_rfl) ?_
  refine J.seq ?_
  refine J.region ?_
  refine L.va rfl (X.assign (by conv => lhs; whnf)) ?_
  refine L.nil ?_
  refine J.seq ?_
  refine J.seq ?_
  refine J.region ?_
  refine L.va rfl (X.move (by conv => lhs; whnf)) ?_
  refine L.call rfl en_52 rfl (nofine h) ?_
  rintro e _ ⟨rfl, rfl⟩
  refine ⟨_, rfl, ?_⟩
  refine L.va rfl (X.assign (by conv => lhs; whnf)) ?_
  refine L.nil ?_
  refine J.seq ?_
  refine J.region ?_
  refine L.va rfl (X.move (by conv => lhs; whnf)) ?_
  refine L.va rfl (X.neq rfl rfl) ?_
  refine L.nil ?_
  refine J.ndecT rfl (by omega) ?_
  refine J.seq ?_
  refine J.region ?_
  refine L.va rfl (X.move (by conv => lhs; whnf)) ?_
  refine L.va rfl (X.assign (by conv => lhs; whnf)) ?_
  refine L.nil ?_
  refine J.ret ?_
  refine thn_ret <| ?_
  refine fin1 ?_
  exact ⟨rfl, rfl⟩
theorem nosync (h : NoLog p w) : Calls Tryd.prog 16 #[p] w fun e w' => e = .returned (.int .i64 15) ∧ w = w' := by
  refine enter Tryd.func16 rfl (by kernel_rfl) ?_
  refine J.seq ?_
  refine J.region ?_
  refine L.va rfl (X.assign (by conv => lhs; whnf)) ?_
  refine L.nil ?_
  refine J.seq ?_
  refine J.seq ?_
  refine J.region ?_
  refine L.va rfl (X.move (by conv => lhs; whnf)) ?_
  refine L.call rfl en_52 rfl (nofine h) ?_
  rintro e _ ⟨rfl, rfl⟩
  refine ⟨_, rfl, ?_⟩
  refine L.va rfl (X.assign (by conv => lhs; whnf)) ?_
  refine L.nil ?_
  refine J.seq ?_
  refine J.region ?_
  refine L.va rfl (X.move (by conv => lhs; whnf)) ?_
  refine L.va rfl (X.neq rfl rfl) ?_
  refine L.nil ?_
  refine J.ndecT rfl (by omega) ?_
  refine J.seq ?_
  refine J.region ?_
  refine L.va rfl (X.move (by conv => lhs; whnf)) ?_
  refine L.va rfl (X.assign (by conv => lhs; whnf)) ?_
  refine L.nil ?_
  refine J.ret ?_
  refine thn_ret <| ?_
  refine fin1 ?_
  exact ⟨rfl, rfl⟩
theorem noreset (h : NoLog p w) (x : Value) : Calls Tryd.prog 17 #[p, x] w fun e w' => e = .returned (.int .i64 15) ∧ w = w' := by
  refine enter Tryd.func17 rfl (by kernel_rfl) ?_
  refine J.seq ?_
  refine J.region ?_
  refine L.va rfl (X.assign (by conv => lhs; whnf)) ?_
  refine L.nil ?_
  refine J.seq ?_
  refine J.seq ?_
  refine J.region ?_
  refine L.va rfl (X.move (by conv => lhs; whnf)) ?_
  refine L.call rfl en_52 rfl (nofine h) ?_
  rintro e _ ⟨rfl, rfl⟩
  refine ⟨_, rfl, ?_⟩
  refine L.va rfl (X.assign (by conv => lhs; whnf)) ?_
  refine L.nil ?_
  refine J.seq ?_
  refine J.region ?_
  refine L.va rfl (X.move (by conv => lhs; whnf)) ?_
  refine L.va rfl (X.neq rfl rfl) ?_
  refine L.nil ?_
  refine J.ndecT rfl (by omega) ?_
  refine J.seq ?_
  refine J.region ?_
  refine L.va rfl (X.move (by conv => lhs; whnf)) ?_
  refine L.va rfl (X.assign (by conv => lhs; whnf)) ?_
  refine L.nil ?_
  refine J.ret ?_
  refine thn_ret <| ?_
  refine fin1 ?_
  exact ⟨rfl, rfl⟩
end
theorem law_LogNobody (w : World) (ht : Tab w) (A0 : Option Addr) (n0 c0 : Nat) (xs0 : List (Nm .u8)) (hn0 : n0 ≤ c0) (hc0 : c0 ≤ maxLen) (hA0 : A0 = none → c0 = 0) (hl0 : LiesSlice w w.heap.size A0 n0 xs0) (x1 : Nm .u64) :
    Calls Tryd.prog 4 #[.slice A0 n0 c0, .int .u64 x1.z] w fun e w' => e = .returned (.bool true) ∧ Below w.heap.size w w' := by
  refine enter Tryd.func4 rfl (by kernel_rfl) ?_
  refine J.seq ?_
  refine J.region ?_
  refine L.va rfl (X.assign (by conv => lhs; whnf)) ?_
  refine L.nil ?_
  refine J.seq ?_
  refine J.seq ?_
  refine J.region ?_
  refine L.va rfl (X.move (by conv => lhs; whnf)) ?_
  refine L.va rfl (X.len rfl Tryd.underlying22) ?_
  refine L.va rfl (X.gtr rfl rfl) ?_
  refine L.nil ?_
  refine J.dec rfl (fun h1 => ?_) (fun h1 => ?_)
  · refine J.seq ?_
    refine J.region ?_
    refine L.call rfl en_13 rfl (awake22 w ht) ?_
    rintro e w1 ⟨rfl, he1⟩
    refine ⟨_, rfl, ?_⟩
    refine L.va rfl (X.assign (by conv => lhs; whnf)) ?_
    refine L.nil ?_
    refine J.ret ?_
    refine thn_ret <| ?_
    refine fin1 ?_
    exact ⟨rfl, he1⟩
  · refine J.skip ?_
    refine J.seq ?_
    refine J.region ?_
    refine L.va rfl (X.move (by conv => lhs; whnf)) ?_
    refine L.call rfl en_14 rfl (lopen_nil x1.z) ?_
    rintro e _ ⟨rfl, rfl⟩
    refine ⟨_, rfl, ?_⟩
    refine L.va rfl (X.move (by conv => lhs; whnf)) ?_
    refine L.va rfl (X.extract rfl rfl) ?_
    refine L.va rfl (X.extract rfl rfl) ?_
    refine L.va rfl (X.extract rfl rfl) ?_
    refine L.va rfl (X.assign (by conv => lhs; whnf)) ?_
    refine L.va rfl (X.assign (by conv => lhs; whnf)) ?_
    refine L.va rfl (X.assign (by conv => lhs; whnf)) ?_
    refine L.nil ?_
    refine J.seq ?_
    refine J.seq ?_
    refine J.region ?_
    refine L.va rfl (X.move (by conv => lhs; whnf)) ?_
    refine L.va rfl (X.neqPn rfl rfl (by kernel_rfl)) ?_
    refine L.va rfl (X.move (by conv => lhs; whnf)) ?_
    refine L.caseBF (k := 22) rfl (by rfl) ?_
    refine L.va rfl (X.move (by conv => lhs; whnf)) ?_
    refine L.va rfl (X.len rfl Tryd.underlying29) ?_
    refine L.va rfl (X.neq rfl rfl) ?_
    refine L.va rfl (X.pickF rfl (by conv => lhs; whnf)) ?_
    refine L.va rfl (X.move (by conv => lhs; whnf)) ?_
    refine L.caseNdecF (k := 27) rfl (by rfl) ?_
    refine L.va rfl (X.move (by conv => lhs; whnf)) ?_
    refine L.va rfl (X.neq rfl rfl) ?_
    refine L.va rfl (X.pickF rfl (by conv => lhs; whnf)) ?_
    refine L.nil ?_
    refine J.iteF rfl ?_
    refine J.skip ?_
    refine J.seq ?_
    refine J.seq ?_
    refine J.region ?_
    refine L.va rfl (X.assign (by conv => lhs; whnf)) ?_
    refine L.nil ?_
    refine J.block ?_
    refine J.loop (X := Nat) [4, 8, 9, 31, 32, 33, 34, 35, 36, 37, 38, 39, 40, 41, 42, 43, 44, 45, 46, 47, 48, 49, 50, 51, 52, 53, 54, 55, 56, 57, 58, 59, 60, 61, 62, 63] (fun k => [(8, .int .i64 (k : Int))]) (fun k w' => k ≤ 2 ∧ Ext w w') (fun k => 2 - k) (0) (At1 (by first | rfl | exact at_int rfl (by omega) | exact at_slice rfl (by omega) | exact at_int rfl (by simp))) ?_ ?_
    · exact ⟨by omega, Ext.refl _⟩
    · rintro k g w1 ⟨hk, he1⟩
      refine J.seq ?_
      refine J.seq ?_
      refine J.region ?_
      refine L.va rfl (X.move (by conv => lhs; whnf)) ?_
      refine L.va rfl (X.lss rfl rfl) ?_
      refine L.nil ?_
      refine J.dec rfl (fun hlt => ?_) (fun hlt => ?_)
      · refine J.skip ?_
        refine J.seq ?_
        refine J.block ?_
        refine J.seq ?_
        refine J.region ?_
        refine L.va rfl (X.assign (by conv => lhs; whnf)) ?_
        refine L.nil ?_
        refine J.cut (X := Value) [9, 35, 36, 37, 38] (fun p => [(9, p)]) (fun p w' => NoLog p w' ∧ Ext w1 w') ?_ ?_
        · refine J.seq ?_
          refine J.region ?_
          refine L.va rfl (X.move (by conv => lhs; whnf)) ?_
          refine L.va rfl (X.eql rfl rfl) ?_
          refine L.nil ?_
          refine J.dec rfl (fun h0 => ?_) (fun h0 => ?_)
          · refine J.region ?_
            refine L.va rfl (X.build (l := [_, _, _, _, _, _, _, _, _]) Evs.nil (bld_run Tryd.underlying42 (bp_42 Tryd.underlying42) zr_42 rfl)) ?_
            refine L.boxA (l := [_, _, _, _, _, _, _, _, _]) rfl rfl ?_
            intro b w2 hb hs hk2 he2
            refine L.va rfl (X.assign (by conv => lhs; whnf)) ?_
            refine L.nil ?_
            refine ⟨.pointer (some ⟨b, 0, none⟩), At1 (by first | rfl | exact at_int rfl (by omega) | exact at_slice rfl (by omega) | exact at_int rfl (by simp)), (by (iterate 5 refine Agr.lk rfl ?_); exact Agr.rfl'), ?_⟩
            exact ⟨.inr ⟨b, rfl, hk2⟩, he2⟩
          · refine J.skip ?_
            refine ⟨.pointer none, At1 (by first | rfl | exact at_int rfl (by omega) | exact at_slice rfl (by omega) | exact at_int rfl (by simp)), (by (iterate 2 refine Agr.lk rfl ?_); exact Agr.rfl'), ?_⟩
            exact ⟨.inl rfl, Ext.refl _⟩
        · rintro p g w2 ⟨hN, he2⟩
          refine J.seq ?_
          refine J.region ?_
          refine L.va rfl (X.move (by conv => lhs; whnf)) ?_
          refine L.va rfl (X.move (by conv => lhs; whnf)) ?_
          refine L.call rfl en_15 rfl (noappend hN _) ?_
          rintro e _ ⟨rfl, rfl⟩
          refine ⟨_, rfl, ?_⟩
          refine L.va rfl (X.neq rfl rfl) ?_
          refine L.va rfl (X.move (by conv => lhs; whnf)) ?_
          refine L.caseNdecF (k := 43) rfl (by rfl) ?_
          refine L.va rfl (X.move (by conv => lhs; whnf)) ?_
          refine L.call rfl en_16 rfl (nosync hN) ?_
          rintro e _ ⟨rfl, rfl⟩
          refine ⟨_, rfl, ?_⟩
          refine L.va rfl (X.neq rfl rfl) ?_
          refine L.va rfl (X.pickF rfl (by conv => lhs; whnf)) ?_
          refine L.va rfl (X.move (by conv => lhs; whnf)) ?_
          refine L.caseNdecF (k := 48) rfl (by rfl) ?_
          refine L.va rfl (X.move (by conv => lhs; whnf)) ?_
          refine L.va rfl (X.move (by conv => lhs; whnf)) ?_
          refine L.call rfl en_17 rfl (noreset hN _) ?_
          rintro e _ ⟨rfl, rfl⟩
          refine ⟨_, rfl, ?_⟩
          refine L.va rfl (X.neq rfl rfl) ?_
          refine L.va rfl (X.pickF rfl (by conv => lhs; whnf)) ?_
          refine L.va rfl (X.move (by conv => lhs; whnf)) ?_
          refine L.caseNdecF (k := 54) rfl (by rfl) ?_
          refine L.va rfl (X.move (by conv => lhs; whnf)) ?_
          refine L.call rfl en_18 rfl (noused hN) ?_
          rintro e _ ⟨rfl, rfl⟩
          refine ⟨_, rfl, ?_⟩
          refine L.va rfl (X.neq rfl rfl) ?_
          refine L.va rfl (X.pickF rfl (by conv => lhs; whnf)) ?_
          refine L.va rfl (X.move (by conv => lhs; whnf)) ?_
          refine L.caseNdecF (k := 59) rfl (by rfl) ?_
          refine L.va rfl (X.move (by conv => lhs; whnf)) ?_
          refine L.call rfl en_19 rfl (noroom hN) ?_
          rintro e w3 ⟨rfl, he3⟩
          refine ⟨_, rfl, ?_⟩
          refine L.va rfl (X.neq rfl rfl) ?_
          refine L.va rfl (X.pickF rfl (by conv => lhs; whnf)) ?_
          refine L.nil ?_
          refine J.iteF rfl ?_
          refine J.skip ?_
          refine J.region ?_
          refine L.va rfl (X.move (by conv => lhs; whnf)) ?_
          refine L.va rfl (X.add rfl rfl (by omega)) ?_
          refine L.va rfl (X.assign (by conv => lhs; whnf)) ?_
          refine L.nil ?_
          refine ⟨k + 1, At1 (by first | rfl | exact at_int rfl (by omega) | exact at_slice rfl (by omega) | exact at_int rfl (by simp)), (by (iterate 32 refine Agr.lk rfl ?_); refine Agr.lk rfl ?_; refine Agr.hav rfl ?_; (iterate 3 refine Agr.lk rfl ?_); exact Agr.lk rfl (Agr.hav rfl Agr.rfl')), ?_⟩
          exact ⟨⟨by omega, (he1.trans he2).trans he3⟩, by omega⟩
      · refine J.exit ?_
        refine J.seq ?_
        refine J.region ?_
        refine L.call rfl en_13 rfl (awake22 w1 (tabx ht he1)) ?_
        rintro e w2 ⟨rfl, he2⟩
        refine ⟨_, rfl, ?_⟩
        refine L.va rfl (X.assign (by conv => lhs; whnf)) ?_
        refine L.nil ?_
        refine J.ret ?_
        refine fin1 ?_
        exact ⟨rfl, he1.trans he2⟩
end Go.Proofs.YtadfopdjhbjekaaDoor
