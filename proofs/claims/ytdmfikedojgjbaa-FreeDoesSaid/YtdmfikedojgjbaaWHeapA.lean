/-
  Go's container/heap at a row of numbers that is a struct's field: the row's methods, down, up, Init, Pop, Push.
-/
import Derived.Test.YtdmfikedojgjbaaHeapPlain
import Derived.Test.YtdmfikedojgjbaaHoaH
import Derived.Test.YtdmfikedojgjbaaTyps
namespace Go.Proofs.Ytdmfikedojgjbaa
set_option maxRecDepth 100000
open Go.RowKit H
set_option linter.unusedVariables false
theorem row_len {w : World} (A : Option Addr) (n c : Nat) : Calls Try.prog 161 #[.slice A n c] w fun e w' => e = .returned (.int .i64 (n : Int)) ∧ w = w' := by
  refine enter Try.func161 rfl (by kernel_rfl) ?_
  refine J.seq ?_
  refine J.region ?_
  refine L.va rfl (X.assign (by conv => lhs; whnf)) ?_
  refine L.nil ?_
  refine J.seq ?_
  refine J.region ?_
  refine L.va rfl (X.move (by conv => lhs; whnf)) ?_
  refine L.va rfl (X.len rfl Try.underlying81) ?_
  refine L.va rfl (X.assign (by conv => lhs; whnf)) ?_
  refine L.nil ?_
  -- ret
  refine J.ret ?_
  refine fin1 ?_
  exact ⟨rfl, rfl⟩
theorem row_less {w : World} (A : Option Addr) (n c : Nat) (l : List Int) (hr : Reads w w.heap.size 1 A n (nums .i64 l)) (i k : Nat) (hi : i < n) (hk : k < n) : Calls Try.prog 162 #[.slice A n c, .int .i64 (i : Int), .int .i64 (k : Int)] w fun e w' => e = .returned (.bool (decide (l.getD i 0 < l.getD k 0))) ∧ Ext w w' := by
  refine enter Try.func162 rfl (by kernel_rfl) ?_
  refine J.seq ?_
  refine J.region ?_
  refine L.va rfl (X.assign (by conv => lhs; whnf)) ?_
  refine L.nil ?_
  refine J.seq ?_
  -- draw
  refine J.quiet mixed (by kernel_rfl) ?_
  refine Qt.va rfl (fun w' hw => X.move (by conv => lhs; whnf)) ?_
  refine Qt.va rfl (fun w' hw => X.move (by conv => lhs; whnf)) ?_
  refine Qt.va rfl (fun w' hw => (by first | exact X.index1n rfl rfl Try.underlying81 sz_3 (by first | exact Option.some_ne_none _ | exact hr.some_ (by omega)) (by omega) | exact X.index1 rfl rfl Try.underlying81 sz_3 (by first | exact Option.some_ne_none _ | exact hr.some_ (by omega)) (by omega))) ?_
  refine Qt.va rfl (fun w' hw => X.load rfl sc_3 (by first | exact Ld.num (hr.ext hw) (by omega))) ?_
  refine Qt.va rfl (fun w' hw => X.move (by conv => lhs; whnf)) ?_
  refine Qt.va rfl (fun w' hw => X.move (by conv => lhs; whnf)) ?_
  refine Qt.va rfl (fun w' hw => (by first | exact X.index1n rfl rfl Try.underlying81 sz_3 (by first | exact Option.some_ne_none _ | exact hr.some_ (by omega)) (by omega) | exact X.index1 rfl rfl Try.underlying81 sz_3 (by first | exact Option.some_ne_none _ | exact hr.some_ (by omega)) (by omega))) ?_
  refine Qt.va rfl (fun w' hw => X.load rfl sc_3 (by first | exact Ld.num (hr.ext hw) (by omega))) ?_
  refine Qt.va rfl (fun w' hw => X.lss rfl rfl) ?_
  refine Qt.va rfl (fun w' hw => X.assign (by conv => lhs; whnf)) ?_
  refine Qt.nil (fun w1 hq => ?_)
  replace hr := hr.ext hq
  -- ret
  refine J.ret ?_
  refine fin1 ?_
  exact ⟨rfl, hq⟩
theorem row_swap {w : World} {N : Nat} (A : Option Addr) (n c : Nat) (l : List Int) (ho : w.ownsRow N 3 1 (.slice A n c) n (nums .i64 l)) (i k : Nat) (hi : i < n) (hk : k < n) : Calls Try.prog 163 #[.slice A n c, .int .i64 (i : Int), .int .i64 (k : Int)] w fun e w' =>
    e = .returned (.tuple #[]) ∧ w'.ownsRow N 3 1 (.slice A n c) n (nums .i64 (swp l i k)) ∧ w.grownBy w' (Value.ownBlock (.slice A n c)) := by
  have hr := Reads.of_own ho
  have hA := hr.some_ (by omega)
  refine enter Try.func163 rfl (by kernel_rfl) ?_
  -- draw
  refine J.draw (ℓ := 1000000) (S := (fun _ => True)) mixed (fun w1 hSE hS_h => ?_)
  have hS : ((fun _ => True)) w1 := trivial
  have hr1 := hr.ext hSE
  have hoX := ho.ext hSE
  have hG : w.grownBy w1 (Value.ownBlock (.slice A n c)) := grown_ext hSE
  refine D.va 0 rfl (by kernel_rfl) (fun _ _ _ h => h) rfl (fun w' hw => X.move (by conv => lhs; whnf)) hS ?_
  refine D.va 1 rfl (by kernel_rfl) (fun _ _ _ h => h) rfl (fun w' hw => X.move (by conv => lhs; whnf)) hS ?_
  refine D.va 2 rfl (by kernel_rfl) (fun _ _ _ h => h) rfl (fun w' hw => X.move (by conv => lhs; whnf)) hS ?_
  refine D.va 3 rfl (by kernel_rfl) (fun _ _ _ h => h) rfl (fun w' hw => X.move (by conv => lhs; whnf)) hS ?_
  refine D.va 4 rfl (by kernel_rfl) (fun _ _ _ h => h) rfl (fun w' hw => X.move (by conv => lhs; whnf)) hS ?_
  refine D.va 5 rfl (by kernel_rfl) (fun _ _ _ h => h) rfl (fun w' hw => X.move (by conv => lhs; whnf)) hS ?_
  refine D.va 6 rfl (by kernel_rfl) (fun _ _ _ h => h) rfl (fun w' hw => (by first | exact X.index1n rfl rfl Try.underlying81 sz_3 (by first | exact Option.some_ne_none _ | exact hA) (by omega) | exact X.index1 rfl rfl Try.underlying81 sz_3 (by first | exact Option.some_ne_none _ | exact hA) (by omega))) hS ?_
  refine D.va 8 rfl (by kernel_rfl) (fun _ _ _ h => h) rfl (fun w' hw => X.move (by conv => lhs; whnf)) hS ?_
  refine D.va 9 rfl (by kernel_rfl) (fun _ _ _ h => h) rfl (fun w' hw => X.move (by conv => lhs; whnf)) hS ?_
  refine D.va 10 rfl (by kernel_rfl) (fun _ _ _ h => h) rfl (fun w' hw => (by first | exact X.index1n rfl rfl Try.underlying81 sz_3 (by first | exact Option.some_ne_none _ | exact hA) (by omega) | exact X.index1 rfl rfl Try.underlying81 sz_3 (by first | exact Option.some_ne_none _ | exact hA) (by omega))) hS ?_
  refine D.two 7 11 (by kernel_rfl) rfl rfl ?_ ?_
  · refine L.va rfl (X.load rfl sc_3 (Ld.num hr1 hk)) ?_
    refine L.nil ?_
    refine ⟨fun _ => hS, ?_⟩
    refine D.one 11 (by kernel_rfl) rfl ?_
    refine L.va rfl (X.load rfl sc_3 (Ld.num hr1 hi)) ?_
    refine L.nil ?_
    refine ⟨fun _ => hS, ?_⟩
    refine D.va 12 rfl (by kernel_rfl) (fun _ _ _ h => h) rfl (fun w' hw => (by first | exact X.index1n rfl rfl Try.underlying81 sz_3 (by first | exact Option.some_ne_none _ | exact hA) (by omega) | exact X.index1 rfl rfl Try.underlying81 sz_3 (by first | exact Option.some_ne_none _ | exact hA) (by omega))) hS ?_
    refine D.one 13 (by kernel_rfl) rfl ?_
    refine L.storeON rfl rfl (by conv => lhs; whnf) sz_3 (hoX) (by omega) ?_
    intro w2 hoX hg2 hb2 hs2
    have hS1 := trivial
    refine L.nil ?_
    refine ⟨fun _ => hS1, ?_⟩
    replace hG := grb_trans hG hg2
    refine D.va 14 rfl (by kernel_rfl) (fun _ _ _ h => h) rfl (fun w' hw => (by first | exact X.index1n rfl rfl Try.underlying81 sz_3 (by first | exact Option.some_ne_none _ | exact hA) (by omega) | exact X.index1 rfl rfl Try.underlying81 sz_3 (by first | exact Option.some_ne_none _ | exact hA) (by omega))) hS1 ?_
    refine D.one 15 (by kernel_rfl) rfl ?_
    refine L.storeON rfl rfl (by conv => lhs; whnf) sz_3 (hoX) (by omega) ?_
    intro w2 hoX hg2 hb2 hs2
    have hS2 := trivial
    refine L.nil ?_
    refine ⟨fun _ => hS2, ?_⟩
    replace hG := grb_trans hG hg2
    refine D.done (by kernel_rfl) ?_
    refine fin0 (.inr rfl) ?_
    exact ⟨rfl, hoX, hG⟩
  · refine L.va rfl (X.load rfl sc_3 (Ld.num hr1 hi)) ?_
    refine L.nil ?_
    refine ⟨fun _ => hS, ?_⟩
    refine D.one 7 (by kernel_rfl) rfl ?_
    refine L.va rfl (X.load rfl sc_3 (Ld.num hr1 hk)) ?_
    refine L.nil ?_
    refine ⟨fun _ => hS, ?_⟩
    refine D.va 12 rfl (by kernel_rfl) (fun _ _ _ h => h) rfl (fun w' hw => (by first | exact X.index1n rfl rfl Try.underlying81 sz_3 (by first | exact Option.some_ne_none _ | exact hA) (by omega) | exact X.index1 rfl rfl Try.underlying81 sz_3 (by first | exact Option.some_ne_none _ | exact hA) (by omega))) hS ?_
    refine D.one 13 (by kernel_rfl) rfl ?_
    refine L.storeON rfl rfl (by conv => lhs; whnf) sz_3 (hoX) (by omega) ?_
    intro w2 hoX hg2 hb2 hs2
    have hS1 := trivial
    refine L.nil ?_
    refine ⟨fun _ => hS1, ?_⟩
    replace hG := grb_trans hG hg2
    refine D.va 14 rfl (by kernel_rfl) (fun _ _ _ h => h) rfl (fun w' hw => (by first | exact X.index1n rfl rfl Try.underlying81 sz_3 (by first | exact Option.some_ne_none _ | exact hA) (by omega) | exact X.index1 rfl rfl Try.underlying81 sz_3 (by first | exact Option.some_ne_none _ | exact hA) (by omega))) hS1 ?_
    refine D.one 15 (by kernel_rfl) rfl ?_
    refine L.storeON rfl rfl (by conv => lhs; whnf) sz_3 (hoX) (by omega) ?_
    intro w2 hoX hg2 hb2 hs2
    have hS2 := trivial
    refine L.nil ?_
    refine ⟨fun _ => hS2, ?_⟩
    replace hG := grb_trans hG hg2
    refine D.done (by kernel_rfl) ?_
    refine fin0 (.inr rfl) ?_
    exact ⟨rfl, hoX, hG⟩
/-- a row of numbers that is the second field of a block -/
structure Hq (N : Nat) (w : World) (d : Nat) (c0 : Value) (A : Option Addr) (c : Nat) (l : List Int) : Prop where
  hb : Blk w d 83 #[c0, .slice A l.length c]
  hf : w.ownsRow N 3 1 (.slice A l.length c) l.length (nums .i64 l)
namespace Hq
variable {N d c : Nat} {w w' : World} {c0 : Value} {A : Option Addr} {l : List Int}
abbrev I (d : Nat) : Value := .iface 129 (.pointer (some ⟨d, 1, none⟩))
theorem ext (h : Hq N w d c0 A c l) (he : Ext w w') : Hq N w' d c0 A c l := ⟨h.hb.ext he, h.hf.ext he⟩
theorem kept {l' : List Int} (h : Hq N w d c0 A c l) (hl : l'.length = l.length) (ho : w'.ownsRow N 3 1 (.slice A l.length c) l.length (nums .i64 l')) (hg : w.grownBy w' (Value.ownBlock (.slice A l.length c))) : Hq N w' d c0 A c l' :=
  ⟨by rw [hl]; exact h.hb.grown hg (fun e => own_blk_ne h.hf h.hb (by decide) e.symm), by rw [hl]; exact ho⟩
theorem fld (h : Hq N w d c0 A c l) : (loadVar 81 ⟨d, 1, none⟩).run Try.prog w = .ok (.slice A l.length c) w := run_field h.hb sc_81 rfl
theorem mLen (h : Hq N w d c0 A c l) : Mtd Try.prog 129 (.pointer (some ⟨d, 1, none⟩)) (.slice A l.length c) "Len" 161 w := mtd_val (by unfold Has; kernel_rfl) Try.underlying129 h.fld en_161
theorem mLess (h : Hq N w d c0 A c l) : Mtd Try.prog 129 (.pointer (some ⟨d, 1, none⟩)) (.slice A l.length c) "Less" 162 w := mtd_val (by unfold Has; kernel_rfl) Try.underlying129 h.fld en_162
theorem mSwap (h : Hq N w d c0 A c l) : Mtd Try.prog 129 (.pointer (some ⟨d, 1, none⟩)) (.slice A l.length c) "Swap" 163 w := mtd_val (by unfold Has; kernel_rfl) Try.underlying129 h.fld en_163
theorem mPop : Mtd Try.prog 129 (.pointer (some ⟨d, 1, none⟩)) (.pointer (some ⟨d, 1, none⟩)) "Pop" 164 w := mtd_ptr (by unfold Has; kernel_rfl) Try.underlying129 en_164
theorem mPush : Mtd Try.prog 129 (.pointer (some ⟨d, 1, none⟩)) (.pointer (some ⟨d, 1, none⟩)) "Push" 165 w := mtd_ptr (by unfold Has; kernel_rfl) Try.underlying129 en_165
theorem less (h : Hq N w d c0 A c l) {i k : Nat} (hi : i < l.length) (hk : k < l.length) : Calls Try.prog 162 #[.slice A l.length c, .int .i64 (i : Int), .int .i64 (k : Int)] w fun e w' => e = .returned (.bool (decide (l.getD i 0 < l.getD k 0))) ∧ Ext w w' :=
  row_less A _ c l (Reads.of_own h.hf) i k hi hk
theorem swap (h : Hq N w d c0 A c l) {i k : Nat} (hi : i < l.length) (hk : k < l.length) : Calls Try.prog 163 #[.slice A l.length c, .int .i64 (i : Int), .int .i64 (k : Int)] w fun e w' => e = .returned (.tuple #[]) ∧ Hq N w' d c0 A c (swp l i k) ∧ w.grownBy w' (Value.ownBlock (.slice A l.length c)) :=
  (row_swap A _ c l h.hf i k hi hk).mono fun e w' ⟨h1, h2, h3⟩ => ⟨h1, h.kept (swp_length _ _ _) h2 h3, h3⟩
theorem down_ (h : Hq N w d c0 A c l) (hm : l.length ≤ 1000000) (i n : Nat) (hn : n ≤ l.length) (hi : i ≤ l.length) : Calls Try.prog 106 #[I d, .int .i64 (i : Int), .int .i64 (n : Int)] w fun e w' =>
    (∃ b, e = .returned (.bool b)) ∧ Hq N w' d c0 A c (siftD l.length l i n) ∧ w.grownBy w' (Value.ownBlock (.slice A l.length c)) := by
  refine enter Try.func106 rfl (by kernel_rfl) ?_
  refine J.seq ?_
  refine J.region ?_
  refine L.va rfl (X.assign (by conv => lhs; whnf)) ?_
  refine L.nil ?_
  refine J.seq ?_
  refine J.region ?_
  refine L.va rfl (X.move (by conv => lhs; whnf)) ?_
  refine L.va rfl (X.assign (by conv => lhs; whnf)) ?_
  refine L.nil ?_
  refine J.seq ?_
  refine J.block ?_
  -- loop
  refine J.loop (X := Nat × Nat × List Int) [7, 8, 9, 10, 12, 13, 14, 15, 16, 17, 18, 19, 20, 21, 22, 23, 24, 25, 26, 27, 28, 29, 30, 31, 32, 33, 34, 35, 36, 37, 38, 39, 40, 41, 42, 43, 44] (fun x => [(7, .int .i64 (x.1 : Int))]) (fun x w' => x.2.2.length = l.length ∧ x.1 ≤ l.length ∧ l.length ≤ x.1 + x.2.1 ∧ Hq N w' d c0 A c x.2.2 ∧ w.grownBy w' (Value.ownBlock (.slice A l.length c)) ∧ siftD x.2.1 x.2.2 x.1 n = siftD l.length l i n) (fun x => x.2.1) ((i, l.length, l)) (At1 (by first | rfl | exact at_int rfl (by omega) | exact at_slice rfl (by omega) | exact at_int rfl (by simp))) ?_ ?_
  · exact ⟨rfl, hi, by dsimp only; omega, h, grown_ext (Ext.refl _), rfl⟩
  · rintro ⟨a, f, m⟩ g w2 ⟨hl, ha, hf, H, hG, hS⟩
    dsimp only at hl ha hf H hS
    have q1 : ((a, f, m) : Nat × Nat × List Int).1 = a := rfl
    refine J.block ?_
    refine J.seq ?_
    refine J.region ?_
    refine L.va rfl (X.move (by conv => lhs; whnf)) ?_
    refine L.va rfl (X.mul rfl rfl (by omega)) ?_
    refine L.va rfl (X.add rfl rfl (by omega)) ?_
    refine L.va rfl (X.assign (by conv => lhs; whnf)) ?_
    refine L.nil ?_
    refine J.seq ?_
    refine J.seq ?_
    refine J.region ?_
    refine L.va rfl (X.move (by conv => lhs; whnf)) ?_
    refine L.va rfl (X.move (by conv => lhs; whnf)) ?_
    refine L.va rfl (X.geq rfl rfl) ?_
    refine L.va rfl (X.move (by conv => lhs; whnf)) ?_
    -- case t18
    refine L.caseDec (k := 18) rfl (fun h1 => ?_) (fun h1 => ?_)
    · have e : siftD f m a n = m := by
        cases f with
        | zero => rfl
        | succ f => unfold siftD; rw [if_pos (by omega)]
      rw [e] at hS
      rw [hS] at H
      refine L.no rfl ?_
      refine L.no rfl ?_
      refine L.va rfl (X.pickT rfl (by conv => lhs; whnf)) ?_
      refine L.nil ?_
      -- cond
      refine J.iteT rfl ?_
      refine J.exit ?_
      refine J.seq ?_
      refine J.region ?_
      refine L.va rfl (X.move (by conv => lhs; whnf)) ?_
      refine L.va rfl (X.move (by conv => lhs; whnf)) ?_
      refine L.va rfl (X.gtr rfl rfl) ?_
      refine L.va rfl (X.assign (by conv => lhs; whnf)) ?_
      refine L.nil ?_
      -- ret
      refine J.ret ?_
      refine fin1 ?_
      exact ⟨⟨_, rfl⟩, H, hG⟩
    · have h1' : 2 * a + 1 < n := by omega
      obtain ⟨f', rfl⟩ : ∃ f', f = f' + 1 := ⟨f - 1, by omega⟩
      obtain ⟨p1, p2, p3⟩ := pickC_lt (l := m) h1'
      have eS : siftD (f' + 1) m a n = if m.getD (pickC m a n) 0 < m.getD a 0 then siftD f' (swp m a (pickC m a n)) (pickC m a n) n else m := by
        rw [siftD, if_neg (by omega)]
      rw [eS] at hS
      have hGl : ∀ {w3 w4 : World}, w.grownBy w3 (Value.ownBlock (.slice A l.length c)) → w3.grownBy w4 (Value.ownBlock (.slice A m.length c)) → w.grownBy w4 (Value.ownBlock (.slice A l.length c)) := fun k1 k2 => grb_trans k1 (by rw [← hl]; exact k2)
      refine L.va rfl (X.move (by conv => lhs; whnf)) ?_
      refine L.va rfl (X.lss rfl rfl) ?_
      refine L.va rfl (X.pickF rfl (by conv => lhs; whnf)) ?_
      refine L.nil ?_
      -- cond
      refine J.decF rfl (by omega) ?_
      refine J.skip ?_
      refine J.seq ?_
      refine J.region ?_
      refine L.va rfl (X.move (by conv => lhs; whnf)) ?_
      refine L.va rfl (X.assign (by conv => lhs; whnf)) ?_
      refine L.nil ?_
      -- until
      refine J.cut (X := Unit) [9, 10, 23, 24, 25, 26, 27, 28, 29, 30, 31, 32, 33, 34] (fun _ => [(9, .int .i64 ((pickC m a n : Nat) : Int))]) (fun _ w' => Ext w2 w') ?_ ?_
      · refine J.seq ?_
        refine J.region ?_
        refine L.va rfl (X.move (by conv => lhs; whnf)) ?_
        refine L.va rfl (X.add rfl rfl (by omega)) ?_
        refine L.va rfl (X.assign (by conv => lhs; whnf)) ?_
        refine L.nil ?_
        refine J.seq ?_
        refine J.region ?_
        refine L.va rfl (X.move (by conv => lhs; whnf)) ?_
        refine L.va rfl (X.move (by conv => lhs; whnf)) ?_
        refine L.va rfl (X.lss rfl rfl) ?_
        refine L.va rfl (X.move (by conv => lhs; whnf)) ?_
        -- case t28
        refine L.caseDec (k := 28) rfl (fun h2 => ?_) (fun h2 => ?_)
        · have h2' : 2 * a + 2 < n := by omega
          refine L.va rfl (X.move (by conv => lhs; whnf)) ?_
          refine L.va rfl (X.move (by conv => lhs; whnf)) ?_
          refine L.va rfl (X.move (by conv => lhs; whnf)) ?_
          -- invoke
          refine L.invoke rfl rfl (H.mLess) rfl (H.less (i := 2 * a + 2) (k := 2 * a + 1) (by omega) (by omega)) ?_
          rintro e w3 ⟨rfl, he3⟩
          refine ⟨_, rfl, ?_⟩
          have he3 : Ext w2 w3 := he3
          refine L.va rfl (X.pickT rfl (by conv => lhs; whnf)) ?_
          refine L.nil ?_
          -- cond
          by_cases h3 : m.getD (2 * a + 2) 0 < m.getD (2 * a + 1) 0
          · rw [decide_eq_true h3]
            refine J.iteT rfl ?_
            refine J.region ?_
            refine L.va rfl (X.move (by conv => lhs; whnf)) ?_
            refine L.va rfl (X.assign (by conv => lhs; whnf)) ?_
            refine L.nil ?_
            -- cutend
            refine ⟨(), At1 (at_int rfl (by rw [pickC, if_pos ⟨h2', h3⟩]; omega)), (by (iterate 15 refine Agr.lk rfl ?_); exact Agr.rfl'), ?_⟩
            exact he3
          · rw [decide_eq_false h3]
            refine J.iteF rfl ?_
            refine J.skip ?_
            -- cutend
            refine ⟨(), At1 (at_int rfl (by rw [pickC, if_neg (fun hh => h3 hh.2)]; omega)), (by (iterate 13 refine Agr.lk rfl ?_); exact Agr.rfl'), ?_⟩
            exact he3
        · refine L.no rfl ?_
          refine L.no rfl ?_
          refine L.no rfl ?_
          refine L.no rfl ?_
          refine L.va rfl (X.pickF rfl (by conv => lhs; whnf)) ?_
          refine L.nil ?_
          -- cond
          refine J.iteF rfl ?_
          refine J.skip ?_
          -- cutend
          refine ⟨(), At1 (at_int rfl (by rw [pickC, if_neg (fun hh => by omega)]; omega)), (by (iterate 13 refine Agr.lk rfl ?_); exact Agr.rfl'), ?_⟩
          exact Ext.refl _
      · rintro ⟨⟩ g w3 he3
        have H3 := H.ext he3
        generalize pickC m a n = j at *
        refine J.seq ?_
        refine J.seq ?_
        refine J.region ?_
        refine L.va rfl (X.move (by conv => lhs; whnf)) ?_
        refine L.va rfl (X.move (by conv => lhs; whnf)) ?_
        refine L.va rfl (X.move (by conv => lhs; whnf)) ?_
        -- invoke
        refine L.invoke rfl rfl (H3.mLess) rfl (H3.less (i := j) (k := a) (by omega) (by omega)) ?_
        rintro e w4 ⟨rfl, he4⟩
        refine ⟨_, rfl, ?_⟩
        have he4 : Ext w3 w4 := he4
        have H4 := H3.ext he4
        refine L.va rfl (X.not rfl) ?_
        refine L.nil ?_
        -- cond
        by_cases h3 : m.getD j 0 < m.getD a 0
        · rw [decide_eq_true h3]
          rw [if_pos h3] at hS
          refine J.iteF rfl ?_
          refine J.skip ?_
          refine J.seq ?_
          refine J.region ?_
          refine L.va rfl (X.move (by conv => lhs; whnf)) ?_
          refine L.va rfl (X.move (by conv => lhs; whnf)) ?_
          refine L.va rfl (X.move (by conv => lhs; whnf)) ?_
          -- invoke
          refine L.invoke rfl rfl (H4.mSwap) rfl (H4.swap (i := a) (k := j) (by omega) (by omega)) ?_
          rintro e w5 ⟨rfl, H5, hg5⟩
          refine ⟨_, rfl, ?_⟩
          refine L.nil ?_
          refine J.region ?_
          refine L.va rfl (X.move (by conv => lhs; whnf)) ?_
          refine L.va rfl (X.assign (by conv => lhs; whnf)) ?_
          refine L.nil ?_
          -- loopend
          refine ⟨(j, f', swp m a j), At1 (by first | rfl | exact at_int rfl (by omega) | exact at_slice rfl (by omega) | exact at_int rfl (by simp)), (by (iterate 11 refine Agr.lk rfl ?_); refine Agr.lk rfl ?_; refine Agr.hav rfl ?_; (iterate 14 refine Agr.lk rfl ?_); exact Agr.lk rfl (Agr.hav rfl Agr.rfl')), ?_⟩
          exact ⟨⟨by dsimp only; rw [swp_length]; exact hl, by dsimp only; omega, by dsimp only; omega, H5, hGl (grb_trans hG (grown_ext (he3.trans he4))) hg5, hS⟩, by dsimp only; omega⟩
        · rw [decide_eq_false h3]
          rw [if_neg h3] at hS
          rw [hS] at H4
          refine J.iteT rfl ?_
          refine J.exit ?_
          refine J.seq ?_
          refine J.region ?_
          refine L.va rfl (X.move (by conv => lhs; whnf)) ?_
          refine L.va rfl (X.move (by conv => lhs; whnf)) ?_
          refine L.va rfl (X.gtr rfl rfl) ?_
          refine L.va rfl (X.assign (by conv => lhs; whnf)) ?_
          refine L.nil ?_
          -- ret
          refine J.ret ?_
          refine fin1 ?_
          exact ⟨⟨_, rfl⟩, H4, grb_trans hG (grown_ext (he3.trans he4))⟩
theorem up_ (h : Hq N w d c0 A c l) (hm : l.length ≤ 1000000) (j : Nat) (hj : j < l.length) : Calls Try.prog 107 #[I d, .int .i64 (j : Int)] w fun e w' =>
    e = .returned (.tuple #[]) ∧ Hq N w' d c0 A c (siftU (j + 1) l j) ∧ w.grownBy w' (Value.ownBlock (.slice A l.length c)) := by
  refine enter Try.func107 rfl (by kernel_rfl) ?_
  refine J.block ?_
  -- loop
  refine J.loop (X := Nat × Nat × List Int) [1, 4, 5, 6, 7, 8, 9, 10, 11, 12, 13, 14, 15, 16, 17, 18, 19, 20, 21, 22] (fun x => [(1, .int .i64 (x.1 : Int))]) (fun x w' => x.2.2.length = l.length ∧ x.1 < l.length ∧ x.1 < x.2.1 ∧ Hq N w' d c0 A c x.2.2 ∧ w.grownBy w' (Value.ownBlock (.slice A l.length c)) ∧ siftU x.2.1 x.2.2 x.1 = siftU (j + 1) l j) (fun x => x.2.1) ((j, j + 1, l)) (At1 (by first | rfl | exact at_int rfl (by omega) | exact at_slice rfl (by omega) | exact at_int rfl (by simp))) ?_ ?_
  · exact ⟨rfl, hj, by dsimp only; omega, h, grown_ext (Ext.refl _), rfl⟩
  · rintro ⟨a, f, m⟩ g w2 ⟨hl, ha, hf, H, hG, hS⟩
    dsimp only at hl ha hf H hS
    have q1 : ((a, f, m) : Nat × Nat × List Int).1 = a := rfl
    obtain ⟨f', rfl⟩ : ∃ f', f = f' + 1 := ⟨f - 1, by omega⟩
    have hGl : ∀ {w3 w4 : World}, w.grownBy w3 (Value.ownBlock (.slice A l.length c)) → w3.grownBy w4 (Value.ownBlock (.slice A m.length c)) → w.grownBy w4 (Value.ownBlock (.slice A l.length c)) := fun k1 k2 => grb_trans k1 (by rw [← hl]; exact k2)
    have eS : siftU (f' + 1) m a = if a = 0 ∨ ¬ m.getD a 0 < m.getD ((a - 1) / 2) 0 then m else siftU f' (swp m ((a - 1) / 2) a) ((a - 1) / 2) := by rw [siftU]
    rw [eS] at hS
    have hdiv : ((a : Int) - 1).tdiv 2 = (((a - 1) / 2 : Nat) : Int) := by
      rcases Nat.eq_zero_or_pos a with h0 | h0
      · subst h0; rfl
      · rw [Int.tdiv_eq_ediv_of_nonneg (by omega)]; omega
    have hwr : IntKind.i64.wrap (((a - 1) / 2 : Nat) : Int) = (((a - 1) / 2 : Nat) : Int) := w64 (by omega)
    -- t7
    refine J.block ?_
    refine J.seq ?_
    refine J.region ?_
    refine L.va rfl (X.move (by conv => lhs; whnf)) ?_
    refine L.va rfl (X.sub rfl rfl (by omega)) ?_
    refine L.va rfl (X.quow rfl rfl (by decide)) ?_
    refine L.va rfl (X.assign (by conv => lhs; whnf)) ?_
    refine L.nil ?_
    -- until
    rw [hdiv, hwr]
    refine J.seq ?_
    refine J.seq ?_
    refine J.region ?_
    refine L.va rfl (X.move (by conv => lhs; whnf)) ?_
    refine L.va rfl (X.move (by conv => lhs; whnf)) ?_
    refine L.va rfl (X.eql rfl rfl) ?_
    refine L.va rfl (X.move (by conv => lhs; whnf)) ?_
    -- case t11
    by_cases h0 : a = 0
    · rw [if_pos (.inl h0)] at hS
      rw [hS] at H
      refine L.caseDecT (k := 11) rfl (by omega) ?_
      refine L.no rfl ?_
      refine L.no rfl ?_
      refine L.no rfl ?_
      refine L.no rfl ?_
      refine L.no rfl ?_
      refine L.va rfl (X.pickT rfl (by conv => lhs; whnf)) ?_
      refine L.nil ?_
      -- cond
      refine J.iteT rfl ?_
      refine J.exit ?_
      refine thn_exit <| inB_ne rfl <| thn_exit <| inB_eq ?_
      -- end
      refine fin0 (.inr rfl) ?_
      exact ⟨rfl, H, hG⟩
    · refine L.caseDecF (k := 11) rfl (by omega) ?_
      refine L.va rfl (X.move (by conv => lhs; whnf)) ?_
      refine L.va rfl (X.move (by conv => lhs; whnf)) ?_
      refine L.va rfl (X.move (by conv => lhs; whnf)) ?_
      -- invoke
      refine L.invoke rfl rfl (H.mLess) rfl (H.less (i := a) (k := (a - 1) / 2) (by omega) (by omega)) ?_
      rintro e w4 ⟨rfl, he4⟩
      refine ⟨_, rfl, ?_⟩
      have he4 : Ext w2 w4 := he4
      have H4 := H.ext he4
      refine L.va rfl (X.not rfl) ?_
      refine L.va rfl (X.pickF rfl (by conv => lhs; whnf)) ?_
      refine L.nil ?_
      -- cond
      by_cases h3 : m.getD a 0 < m.getD ((a - 1) / 2) 0
      · rw [decide_eq_true h3]
        rw [if_neg (by rintro (h | h) <;> contradiction)] at hS
        refine J.iteF rfl ?_
        refine J.skip ?_
        refine J.seq ?_
        refine J.region ?_
        refine L.va rfl (X.move (by conv => lhs; whnf)) ?_
        refine L.va rfl (X.move (by conv => lhs; whnf)) ?_
        refine L.va rfl (X.move (by conv => lhs; whnf)) ?_
        -- invoke
        refine L.invoke rfl rfl (H4.mSwap) rfl (H4.swap (i := (a - 1) / 2) (k := a) (by omega) (by omega)) ?_
        rintro e w5 ⟨rfl, H5, hg5⟩
        refine ⟨_, rfl, ?_⟩
        refine L.nil ?_
        refine J.region ?_
        refine L.va rfl (X.move (by conv => lhs; whnf)) ?_
        refine L.va rfl (X.assign (by conv => lhs; whnf)) ?_
        refine L.nil ?_
        -- loopend
        refine ⟨((a - 1) / 2, f', swp m ((a - 1) / 2) a), At1 (by first | rfl | exact at_int rfl (by omega) | exact at_slice rfl (by omega) | exact at_int rfl (by simp)), (by (iterate 21 refine Agr.lk rfl ?_); exact Agr.lk rfl (Agr.hav rfl Agr.rfl')), ?_⟩
        exact ⟨⟨by dsimp only; rw [swp_length]; exact hl, by dsimp only; omega, by dsimp only; omega, H5, hGl (grb_trans hG (grown_ext he4)) hg5, hS⟩, by dsimp only; omega⟩
      · rw [decide_eq_false h3]
        rw [if_pos (.inr h3)] at hS
        rw [hS] at H4
        refine J.iteT rfl ?_
        refine J.exit ?_
        refine thn_exit <| inB_ne rfl <| thn_exit <| inB_eq ?_
        -- end
        refine fin0 (.inr rfl) ?_
        exact ⟨rfl, H4, grb_trans hG (grown_ext he4)⟩
end Hq
end Go.Proofs.Ytdmfikedojgjbaa
