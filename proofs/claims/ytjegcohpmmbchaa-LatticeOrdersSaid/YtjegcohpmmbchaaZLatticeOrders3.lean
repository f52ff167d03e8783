import Derived.Laws.Bits64b
import Derived.Laws.Cover2
import Derived.Laws.Externs
import Derived.Laws.FloatArith
import Derived.Laws.NewFold
import Derived.Shelf.SlSortCmp.NoneTotal
import Ieee.Arith
import Derived.Test.YtjegcohpmmbchaaZLatticeOrders2
/-
  What the law leans on, part 3: WMasks, WCloA, WLatA, FloPlain, FloLogic, WFloA, WRowA, WRowB, WLatB, WOrsA, WOrsB, WOrsC, LLatticeOrders.
-/
namespace Go.Proofs.Ytjegcohpmmbchaa
open Go.RowKit H
open Mk
set_option linter.unusedVariables false
theorem rtwo_any (n : Nat) (w : World) (hn : n < 32) :
    Calls Try.prog 37 #[.int .i64 (n : Int)] w fun e w' => e = .returned (.int .u32 ((2 ^ n : Nat) : Int)) ∧ w = w' := by
  refine enter Try.func37 rfl (by kernel_rfl) ?_
  refine J.seq ?_
  refine J.region ?_
  refine L.va rfl (X.assign (by conv => lhs; whnf)) ?_
  refine L.nil ?_
  refine J.seq ?_
  refine J.region ?_
  refine L.va rfl (X.assign (by conv => lhs; whnf)) ?_
  refine L.nil ?_
  refine J.seq ?_
  refine J.seq ?_
  refine J.region ?_
  refine L.va rfl (X.assign (by conv => lhs; whnf)) ?_
  refine L.nil ?_
  refine J.block ?_
  refine J.loop (X := Nat × Nat) [3, 4, 5, 6, 7, 8, 9, 10, 11] (fun x => [(4, .int .i64 (x.1 : Int)), (3, .int .u32 (x.2 : Int))]) (fun x w' => w' = w ∧ x.1 ≤ n ∧ x.2 = 2 ^ x.1) (fun x => n - x.1) ((0, 1)) (At2 (by first | rfl | exact at_int rfl (by omega) | exact at_slice rfl (by omega) | exact at_int rfl (by simp)) (by first | rfl | exact at_int rfl (by omega) | exact at_slice rfl (by omega) | exact at_int rfl (by simp))) ?_ ?_
  · exact ⟨rfl, by dsimp only; omega, rfl⟩
  · rintro ⟨i, p⟩ g w1 ⟨rfl, hi, hp⟩
    dsimp only at hi hp
    refine J.seq ?_
    refine J.seq ?_
    refine J.region ?_
    refine L.va rfl (X.move (by conv => lhs; whnf)) ?_
    refine L.va rfl (X.move (by conv => lhs; whnf)) ?_
    refine L.va rfl (X.lss rfl rfl) ?_
    refine L.nil ?_
    refine J.dec rfl (fun hlt => ?_) (fun hlt => ?_)
    · have hb : 2 ^ (i + 1) ≤ 2 ^ 31 := Nat.pow_le_pow_right (by decide) (by omega)
      have e : IntKind.u32.wrap (2 * (p : Int)) = ((2 ^ (i + 1) : Nat) : Int) := by
        rw [Nat.pow_succ, ← hp] at hb ⊢
        rw [w32 (by omega)]
        omega
      refine J.skip ?_
      refine J.seq ?_
      refine J.block ?_
      refine J.region ?_
      refine L.va rfl (X.move (by conv => lhs; whnf)) ?_
      refine L.va rfl (X.mulw rfl rfl) ?_
      refine L.va rfl (X.assign (by conv => lhs; whnf)) ?_
      refine L.nil ?_
      refine J.region ?_
      refine L.va rfl (X.move (by conv => lhs; whnf)) ?_
      refine L.va rfl (X.add rfl rfl (by omega)) ?_
      refine L.va rfl (X.assign (by conv => lhs; whnf)) ?_
      refine L.nil ?_
      refine ⟨(i + 1, 2 ^ (i + 1)), At2 (rfl) (at_int rfl e), (by (iterate 9 refine Agr.lk rfl ?_); exact Agr.lk rfl (Agr.hav rfl Agr.rfl')), ?_⟩
      exact ⟨⟨rfl, by dsimp only; omega, rfl⟩, by dsimp only; omega⟩
    · obtain rfl : i = n := by omega
      subst hp
      refine J.exit ?_
      refine J.seq ?_
      refine J.region ?_
      refine L.va rfl (X.move (by conv => lhs; whnf)) ?_
      refine L.va rfl (X.assign (by conv => lhs; whnf)) ?_
      refine L.nil ?_
      refine J.ret ?_
      refine fin1 ?_
      exact ⟨rfl, rfl⟩
theorem rin_any (a n : Nat) (w : World) (ha : a < 4294967296) (hn : n < 32) :
    Calls Try.prog 24 #[.int .u32 (a : Int), .int .i64 (n : Int)] w fun e w' => e = .returned (.bool (a.testBit n)) ∧ w = w' := by
  have hpos : 0 < ((2 ^ n : Nat) : Int) := by have := Nat.pow_pos (n := n) (by decide : 0 < 2); omega
  have hd : (a : Int) / ((2 ^ n : Nat) : Int) = ((a / 2 ^ n : Nat) : Int) := rfl
  have e : decide ((a : Int) / ((2 ^ n : Nat) : Int) % 2 = 1) = a.testBit n := by
    rw [Nat.testBit_eq_decide_div_mod_eq, hd, decide_eq_decide]
    omega
  have h0 : 0 ≤ (a : Int) / ((2 ^ n : Nat) : Int) := by rw [hd]; exact Int.natCast_nonneg _
  have hp := rtwo_any n
  generalize ((2 ^ n : Nat) : Int) = p at *
  refine enter Try.func24 rfl (by kernel_rfl) ?_
  refine J.seq ?_
  refine J.region ?_
  refine L.va rfl (X.assign (by conv => lhs; whnf)) ?_
  refine L.nil ?_
  refine J.seq ?_
  refine J.region ?_
  refine L.va rfl (X.move (by conv => lhs; whnf)) ?_
  refine L.va rfl (X.move (by conv => lhs; whnf)) ?_
  refine L.call rfl en_37 rfl (hp _ hn) ?_
  rintro e _ ⟨rfl, rfl⟩
  refine ⟨_, rfl, ?_⟩
  refine L.va rfl (X.quo32 rfl rfl (by omega)) ?_
  refine L.va rfl (X.rem rfl rfl (by omega)) ?_
  refine L.va rfl (X.eql rfl rfl) ?_
  refine L.va rfl (X.assign (by conv => lhs; whnf)) ?_
  refine L.nil ?_
  refine J.ret ?_
  refine fin1 ?_
  rw [e]
  exact ⟨rfl, rfl⟩
theorem rmasks_same (A B : Option Addr) (m c1 c2 : Nat) (zs : List Int) (w : World) (h1 : Reads w w.heap.size 1 A m (nums .u32 zs)) (h2 : Reads w w.heap.size 1 B m (nums .u32 zs)) (hm : m ≤ 9223372036854775807) :
    Calls Try.prog 5 #[.slice A m c1, .slice B m c2] w fun e w' => e = .returned (.bool true) ∧ Ext w w' := by
  refine enter Try.func5 rfl (by kernel_rfl) ?_
  refine J.seq ?_
  refine J.region ?_
  refine L.va rfl (X.assign (by conv => lhs; whnf)) ?_
  refine L.nil ?_
  refine J.seq ?_
  refine J.seq ?_
  refine J.region ?_
  refine L.va rfl (X.move (by conv => lhs; whnf)) ?_
  refine L.va rfl (X.len rfl Try.underlying22) ?_
  refine L.va rfl (X.move (by conv => lhs; whnf)) ?_
  refine L.va rfl (X.len rfl Try.underlying22) ?_
  refine L.va rfl (X.neq rfl rfl) ?_
  refine L.nil ?_
  refine J.ndecF rfl (by omega) ?_
  refine J.skip ?_
  refine J.seq ?_
  refine J.seq ?_
  refine J.region ?_
  refine L.va rfl (X.assign (by conv => lhs; whnf)) ?_
  refine L.nil ?_
  refine J.block ?_
  refine J.loop (X := Nat) [4, 5, 11, 12, 13, 14, 15, 16, 17, 18, 19, 20, 21, 22, 23, 24, 25] (fun i => [(5, .int .i64 (i : Int))]) (fun i w' => i ≤ m ∧ Ext w w') (fun i => m - i) (0) (At1 (by first | rfl | exact at_int rfl (by omega) | exact at_slice rfl (by omega) | exact at_int rfl (by simp))) ?_ ?_
  · exact ⟨by omega, Ext.refl _⟩
  · rintro i g w2 ⟨hi, he⟩
    have k1 := h1.ext he
    have k2 := h2.ext he
    refine J.seq ?_
    refine J.seq ?_
    refine J.region ?_
    refine L.va rfl (X.move (by conv => lhs; whnf)) ?_
    refine L.va rfl (X.move (by conv => lhs; whnf)) ?_
    refine L.va rfl (X.len rfl Try.underlying22) ?_
    refine L.va rfl (X.lss rfl rfl) ?_
    refine L.nil ?_
    refine J.dec rfl (fun hlt => ?_) (fun hlt => ?_)
    · refine J.skip ?_
      refine J.seq ?_
      refine J.block ?_
      refine J.seq ?_
      refine J.quiet mixed (by kernel_rfl) ?_
      refine Qt.va rfl (fun w' hw => X.move (by conv => lhs; whnf)) ?_
      refine Qt.va rfl (fun w' hw => X.move (by conv => lhs; whnf)) ?_
      refine Qt.va rfl (fun w' hw => (by first | exact X.index1n rfl rfl Try.underlying22 sz_30 (by first | exact Option.some_ne_none _ | exact k1.some_ (by omega) | exact k2.some_ (by omega)) (by omega) | exact X.index1 rfl rfl Try.underlying22 sz_30 (by first | exact Option.some_ne_none _ | exact k1.some_ (by omega) | exact k2.some_ (by omega)) (by omega))) ?_
      refine Qt.va rfl (fun w' hw => X.load rfl sc_30 (by first | exact Ld.num (k1.ext hw) (by omega) | exact Ld.num (k2.ext hw) (by omega))) ?_
      refine Qt.va rfl (fun w' hw => X.move (by conv => lhs; whnf)) ?_
      refine Qt.va rfl (fun w' hw => X.move (by conv => lhs; whnf)) ?_
      refine Qt.va rfl (fun w' hw => (by first | exact X.index1n rfl rfl Try.underlying22 sz_30 (by first | exact Option.some_ne_none _ | exact k1.some_ (by omega) | exact k2.some_ (by omega)) (by omega) | exact X.index1 rfl rfl Try.underlying22 sz_30 (by first | exact Option.some_ne_none _ | exact k1.some_ (by omega) | exact k2.some_ (by omega)) (by omega))) ?_
      refine Qt.va rfl (fun w' hw => X.load rfl sc_30 (by first | exact Ld.num (k1.ext hw) (by omega) | exact Ld.num (k2.ext hw) (by omega))) ?_
      refine Qt.va rfl (fun w' hw => X.neq rfl rfl) ?_
      refine Qt.nil (fun w3 hq => ?_)
      replace k1 := k1.ext hq
      replace k2 := k2.ext hq
      refine J.ndecF rfl (by omega) ?_
      refine J.skip ?_
      refine J.region ?_
      refine L.va rfl (X.move (by conv => lhs; whnf)) ?_
      refine L.va rfl (X.add rfl rfl (by omega)) ?_
      refine L.va rfl (X.assign (by conv => lhs; whnf)) ?_
      refine L.nil ?_
      refine ⟨i + 1, At1 (by first | rfl | exact at_int rfl (by omega) | exact at_slice rfl (by omega) | exact at_int rfl (by simp)), (by (iterate 16 refine Agr.lk rfl ?_); exact Agr.lk rfl (Agr.hav rfl Agr.rfl')), ?_⟩
      exact ⟨⟨by omega, he.trans hq⟩, by omega⟩
    · refine J.exit ?_
      refine J.seq ?_
      refine J.region ?_
      refine L.va rfl (X.assign (by conv => lhs; whnf)) ?_
      refine L.nil ?_
      refine J.ret ?_
      refine fin1 ?_
      exact ⟨rfl, he⟩
end Go.Proofs.Ytjegcohpmmbchaa
namespace Go.Proofs.Ytjegcohpmmbchaa
set_option maxRecDepth 100000
open Go.RowKit H
open Mk Clo Srt
open Go.MapKept Go.ChangeMaps Go.WideMaps Go.Maps
set_option linter.unusedVariables false
theorem keyU {z : Nat} (h : z < 4294967296) : keyOf Try.prog 30 (.int .u32 (z : Int)) = some (.int .u32 (z : Int)) :=
  keyOf_int_mk Try.underlying30 (by simp [Lit.wf, IntKind.min, IntKind.max, IntKind.signed, IntKind.bits]; omega)
theorem andU (a b : Nat) (ha : a < 4294967296) (hb : b < 4294967296) : bits .and .u32 (a : Int) (b : Int) = ((a &&& b : Nat) : Int) := u32_and_nat a b ha hb
def Sq (o : List Nat) (v : Value) : Prop := ∃ z ∈ o, v = .int .u32 (z : Int)
theorem Sq.at {o : List Nat} {z : Nat} : Sq o (.int .u32 (z : Int)) ↔ z ∈ o := by
  constructor
  · rintro ⟨y, hy, e⟩
    injection e with _ e
    have : y = z := by omega
    rwa [← this]
  · exact fun h => ⟨z, h, rfl⟩
theorem Sq.snoc (o : List Nat) (z : Nat) (v : Value) : (v = .int .u32 (z : Int) ∨ Sq o v) ↔ Sq (o ++ [z]) v := by
  constructor
  · rintro (rfl | ⟨y, hy, e⟩)
    · exact ⟨z, by simp, rfl⟩
    · exact ⟨y, List.mem_append_left _ hy, e⟩
  · rintro ⟨y, hy, e⟩
    rcases List.mem_append.1 hy with hy | hy
    · exact .inr ⟨y, hy, e⟩
    · rw [List.mem_singleton] at hy
      subst hy
      exact .inl e
def Closed (l : List Nat) (w : World) (e : Ending) (w' : World) : Prop :=
  (12 < l.length ∧ e = .returned (.tuple #[.slice none 0 0, .int .i64 3]) ∧ Ext w w') ∨
  (l.length ≤ 12 ∧ ∃ (A : Option Addr) (q c : Nat) (o : List Int), e = .returned (.tuple #[.slice A q c, .int .i64 0]) ∧ w'.ownsRow w.heap.size 30 1 (.slice A q c) q (nums .u32 o) ∧ o.Nodup ∧ In o 0 q ∧ q ≤ 4096 ∧ (∀ z : Int, z ∈ o ↔ ∃ y : Nat, z = (y : Int) ∧ Cm l y) ∧ Ext w w')
theorem own_grow {w : World} {N e1 s1 n1 n2 n3 cB cD g : Nat} {B D : Option Addr} {v1 : Value} {x1 : List Value} (h1 : w.ownsRow N e1 s1 v1 n1 x1) (hg : v1.ownBlock = some g) (hne : Value.ownBlock (.slice B n2 cB) ≠ some g)
    (hor : Value.ownBlock (.slice D n3 cD) = Value.ownBlock (.slice B n2 cB) ∨ Value.ownBlock (.slice D n3 cD) = some w.heap.size) : Value.ownBlock (.slice D n3 cD) ≠ some g := by
  rcases hor with e | e
  · rw [e]; exact hne
  · rw [e]
    intro hc
    injection hc with hc
    have := (h1.lt g hg).2
    omega
theorem zl_nodup {o : List Nat} (h : o.Nodup) : (zl o).Nodup := by
  unfold zl
  rw [List.nodup_iff_pairwise_ne, List.pairwise_map]
  exact (List.nodup_iff_pairwise_ne.1 h).imp fun hne e => hne (by omega)
theorem mem_zl {o : List Nat} {z : Int} : z ∈ zl o ↔ ∃ y : Nat, z = (y : Int) ∧ y ∈ o := by
  unfold zl
  rw [List.mem_map]
  exact ⟨fun ⟨y, hy, e⟩ => ⟨y, e.symm, hy⟩, fun ⟨y, e, hy⟩ => ⟨y, hy, e.symm⟩⟩
theorem close_any (A : Option Addr) (n c : Nat) (l : List Nat) (w : World) (hr : Reads w w.heap.size 1 A n (nums .u32 (zl l))) (hl : ∀ x ∈ l, x < 4294967296) :
    Calls Try.prog 8 #[.slice A n c] w (Closed l w) := by
  have hln : l.length = n := by have := hr.1; simpa [nums, zl] using this
  refine enter Try.func8 rfl (by kernel_rfl) ?_
  refine J.seq ?_
  refine J.region ?_
  refine L.va rfl (X.assign (by conv => lhs; whnf)) ?_
  refine L.va rfl (X.assign (by conv => lhs; whnf)) ?_
  refine L.nil ?_
  refine J.seq ?_
  refine J.seq ?_
  refine J.region ?_
  refine L.va rfl (X.move (by conv => lhs; whnf)) ?_
  refine L.va rfl (X.len rfl Try.underlying22) ?_
  refine L.va rfl (X.gtr rfl rfl) ?_
  refine L.nil ?_
  refine J.dec rfl (fun hgt => ?_) (fun hgt => ?_)
  · refine J.seq ?_
    refine J.region ?_
    refine L.va rfl (X.assign (by conv => lhs; whnf)) ?_
    refine L.va rfl (X.assign (by conv => lhs; whnf)) ?_
    refine L.nil ?_
    refine J.ret ?_
    refine thn_ret <| ?_
    refine fin2 ?_
    exact .inl ⟨by omega, rfl, Ext.refl _⟩
  · refine J.skip ?_
    refine J.seq ?_
    refine J.region ?_
    refine L.makeMapKN (k := 30) (e := 3) rfl ?_
    intro b w1 hb hs1 hm1 he1
    have hm1 : MapK Try.prog 30 3 w1 b ([] : List Nat).length (Sq []) := hm1.same fun v => ⟨False.elim, fun ⟨_, h, _⟩ => by cases h⟩
    have hz : ∀ w : World, (zeroValue 3).run Try.prog w = .ok (.int .i64 0) w := fun _ => rfl
    have K1 : Keyed Try.prog 30 := int_keyed Try.underlying30
    have hbw : w.heap.size ≤ b := by omega
    have z1 := he1.le
    refine L.va rfl (X.assign (by conv => lhs; whnf)) ?_
    refine L.nil ?_
    refine J.seq ?_
    refine J.region ?_
    refine L.va rfl (X.assign (by conv => lhs; whnf)) ?_
    refine L.nil ?_
    refine J.seq ?_
    refine J.seq ?_
    refine J.region ?_
    refine L.va rfl (X.move (by conv => lhs; whnf)) ?_
    refine L.va rfl (X.len rfl Try.underlying22) ?_
    refine L.va rfl (X.move (by conv => lhs; whnf)) ?_
    refine L.nil ?_
    refine J.block ?_
    refine J.loop (X := Nat × List Nat × Option Addr × Nat × Nat) [5, 7, 9, 10, 11, 18, 19, 20, 21, 22, 23, 24, 25, 26, 27, 28, 29, 30, 31, 32, 33, 34, 35, 36, 37, 38, 39, 40, 41, 42, 43, 44, 45, 46, 47, 48, 49, 50, 51, 52, 53, 54] (fun (i, o, B, q, d) => [(18, .int .i64 (i : Int)), (5, .slice B q d)]) (fun (i, o, B, q, d) w' => i ≤ n ∧ q = o.length ∧ q + 1 ≤ 2 ^ i ∧ o.Nodup ∧ (∀ z, z ∈ o ↔ Cm (l.take i) z) ∧ MapK Try.prog 30 3 w' b q (Sq o) ∧ w'.ownsRow w.heap.size 30 1 (.slice B q d) q (nums .u32 (zl o)) ∧ Ext w w') (fun (i, _) => n - i) ((0, [], none, 0, 0)) (At2 (by first | rfl | exact at_int rfl (by omega) | exact at_slice rfl (by omega) | exact at_int rfl (by simp)) (by first | rfl | exact at_int rfl (by omega) | exact at_slice rfl (by omega) | exact at_int rfl (by simp))) ?_ ?_
    · refine ⟨Nat.zero_le _, rfl, by decide, List.nodup_nil, fun z => ⟨(fun h => by cases h), fun h => ?_⟩, hm1, own_nilN _ _ _ _, he1⟩
      obtain ⟨⟨s, hs, _⟩, _⟩ := h
      cases hs
    · rintro ⟨i, o, B, q, d⟩ g w2 ⟨hi, hq, hqb, hnd, hmem, hm2, ho2, he2⟩
      have z2 := he2.le
      have hp12 : ∀ j, j ≤ 12 → 2 ^ j ≤ 4096 := fun j hj => by
        have := Nat.pow_le_pow_right (n := 2) (by decide) hj
        have h4 : (2 : Nat) ^ 12 = 4096 := by decide
        omega
      have hpi := hp12 i (by omega)
      refine J.seq ?_
      refine J.region ?_
      refine L.va rfl (X.lss rfl rfl) ?_
      refine L.nil ?_
      refine J.seq ?_
      refine J.dec rfl (fun hlt => ?_) (fun hlt => ?_)
      · have hin : i < n := by omega
        have hr2 := hr.ext he2
        have hA := hr2.some_ (by omega)
        obtain ⟨x, hx⟩ : ∃ x, x = l.getD i 0 := ⟨_, rfl⟩
        have hxm : x ∈ l := by rw [hx, List.getD, List.getElem?_eq_getElem (by omega)]; exact List.getElem_mem _
        have hx32 := hl x hxm
        have hld : Ld w2 (pA A i) (.int .u32 (x : Int)) := by have := Ld.num hr2 hin; rwa [zl_getD, ← hx] at this
        have htk : l.take (i + 1) = l.take i ++ [x] := by
          rw [List.take_add_one, List.getElem?_eq_getElem (show i < l.length by omega), hx, List.getD, List.getElem?_eq_getElem (show i < l.length by omega)]
          rfl
        have hpi1 := hp12 (i + 1) (by omega)
        have hps : 2 ^ (i + 1) = 2 * 2 ^ i := by rw [Nat.pow_succ]; omega
        refine J.skip ?_
        refine J.seq ?_
        refine J.block ?_
        refine J.seq ?_
        refine J.region ?_
        refine L.va rfl ((by first | exact X.index1n rfl rfl Try.underlying22 sz_30 (by first | exact Option.some_ne_none _ | exact hA | exact hld) (by omega) | exact X.index1 rfl rfl Try.underlying22 sz_30 (by first | exact Option.some_ne_none _ | exact hA | exact hld) (by omega))) ?_
        refine L.va rfl (X.load rfl sc_30 (by first | exact hA | exact hld)) ?_
        refine L.va rfl (X.assign (by conv => lhs; whnf)) ?_
        refine L.nil ?_
        refine J.seq ?_
        refine J.region ?_
        refine L.va rfl (X.move (by conv => lhs; whnf)) ?_
        refine L.bslice (vs := [_]) rfl (Evs.cons (by conv => lhs; whnf) Evs.nil) rfl rfl rfl rfl Try.underlying22 sz_30 zr_30 (by decide) ?_
        intro b3 w3 hb3 hs3 hk3 he3
        have ho3 : w3.ownsRow w2.heap.size 30 1 (.slice (some ⟨b3, 0, none⟩) 1 1) 1 (nums .u32 [(x : Int)]) := blk_own1 (q := 1) hk3 (by omega) (by unfold maxLen; omega) rfl
        have hoo := ho2.ext he3
        refine L.va rfl (X.move (by conv => lhs; whnf)) ?_
        refine L.appendQ (q := 1 + q) (ys := (x : Int) :: zl o) rfl rfl rfl Try.underlying22 el_30 (ho3) (Reads.of_own hoo) (by omega) (by simp) (by unfold maxLen; omega) (by omega) ?_
        intro A4 c4 w4 hT hg4 hb4 hor4
        have hOo := hoo.kept hg4 (by
          cases e : Value.ownBlock (.slice B q d) with
          | none => exact .inl rfl
          | some g =>
            refine .inr fun e2 => ?_
            have h1 := (ho2.lt g e).2
            have h2 : some b3 = some g := e2.symm
            injection h2 with h2
            omega)
        have hm4 := (hm2.ext he3).kept hg4 (by intro hh; injection hh with hh; have := hm2.lt; have h2 : b = b3 := hh; omega)
        have he4 : Ext w w4 := (he2.trans he3).low hb4 z2
        obtain ⟨gT, hgT⟩ : ∃ gT, Value.ownBlock (.slice A4 (1 + q) c4) = some gT := by
          rcases hor4 with e | e
          · exact ⟨_, e⟩
          · exact ⟨_, e⟩
        have hTge : w2.heap.size ≤ gT := (hT.lt gT hgT).1
        have hne4 : Value.ownBlock (.slice B q d) ≠ some gT := fun e => by have := (ho2.lt gT e).2; omega
        have hT : w4.ownsRow w2.heap.size 30 1 (.slice A4 (1 + q) c4) (1 + q) (nums .u32 (zl (x :: o))) := hT
        refine L.va rfl (X.len rfl Try.underlying22) ?_
        refine L.va rfl (X.move (by conv => lhs; whnf)) ?_
        refine L.nil ?_
        refine J.block ?_
        refine J.loop (X := Nat × List Nat × Option Addr × Nat × Nat) [5, 9, 10, 11, 27, 28, 29, 30, 31, 32, 33, 34, 35, 36, 37, 38, 39, 40, 41, 42, 43, 44, 45, 46, 47, 48, 49, 50, 51, 52, 53] (fun (j, p, B, q, d) => [(27, .int .i64 (j : Int)), (5, .slice B q d)]) (fun (j, p, B, q', d) w' => j ≤ 1 + q ∧ q' = p.length ∧ q' ≤ q + j ∧ p.Nodup ∧ (∀ z, z ∈ p ↔ z ∈ o ∨ ∃ y ∈ (x :: o).take j, z = x &&& y) ∧ MapK Try.prog 30 3 w' b q' (Sq p) ∧ w'.ownsRow w.heap.size 30 1 (.slice B q' d) q' (nums .u32 (zl p)) ∧ w'.ownsRow w2.heap.size 30 1 (.slice A4 (1 + q) c4) (1 + q) (nums .u32 (zl (x :: o))) ∧ Value.ownBlock (.slice B q' d) ≠ some gT ∧ Ext w w') (fun (j, _) => 1 + q - j) ((0, o, B, q, d)) (At2 (by first | rfl | exact at_int rfl (by omega) | exact at_slice rfl (by omega) | exact at_int rfl (by simp)) (by first | rfl | exact at_int rfl (by omega) | exact at_slice rfl (by omega) | exact at_int rfl (by simp))) ?_ ?_
        · exact ⟨Nat.zero_le _, hq, by omega, hnd, fun z => by simp, hm4, hOo, hT, hne4, he4⟩
        · rintro ⟨j, p, B, q', d⟩ g w5 ⟨hj, hq', hqj, hnd, hmp, hm5, ho5, hT5, hne5, he5⟩
          have z5 := he5.le
          refine J.seq ?_
          refine J.region ?_
          refine L.va rfl (X.lss rfl rfl) ?_
          refine L.nil ?_
          refine J.seq ?_
          refine J.dec rfl (fun hltj => ?_) (fun hltj => ?_)
          · have hj1 : j < 1 + q := by omega
            have hrT := Reads.of_own hT5
            have hAT := hrT.some_ (by omega)
            obtain ⟨y, hy⟩ : ∃ y, y = (x :: o).getD j 0 := ⟨_, rfl⟩
            have hjl : j < (x :: o).length := by simp only [List.length_cons]; omega
            have hyg : (x :: o)[j] = y := by rw [hy, List.getD, List.getElem?_eq_getElem hjl]; rfl
            have hym : y ∈ x :: o := by rw [← hyg]; exact List.getElem_mem _
            have hy32 : y < 4294967296 := by
              rcases List.mem_cons.1 hym with e | h
              · rw [e]; exact hx32
              · exact ((hmem y).1 h).lt
            have hldy : Ld w5 (pA A4 j) (.int .u32 (y : Int)) := by have := Ld.num hrT hj1; rwa [zl_getD, ← hy] at this
            have hz32 : x &&& y < 4294967296 := Nat.lt_of_le_of_lt Nat.and_le_left hx32
            have eand := andU x y hx32 hy32
            obtain ⟨v0, β, hlook, hβ⟩ := hm5.look K1 Try.underlying39 Try.underlying3 (hz _) (keyU hz32)
            rw [Sq.at] at hβ
            have htj : (x :: o).take (j + 1) = (x :: o).take j ++ [y] := by rw [List.take_add_one, List.getElem?_eq_getElem hjl, hyg]; rfl
            have hmz : ∀ z, (z ∈ p ∨ z = x &&& y) ↔ z ∈ o ∨ ∃ y ∈ (x :: o).take (j + 1), z = x &&& y := fun z => by
              rw [hmp, htj]
              constructor
              · rintro ((h | ⟨y', h1, h2⟩) | h)
                · exact .inl h
                · exact .inr ⟨y', List.mem_append_left _ h1, h2⟩
                · exact .inr ⟨y, by simp, h⟩
              · rintro (h | ⟨y', h1, h2⟩)
                · exact .inl (.inl h)
                · rcases List.mem_append.1 h1 with h1 | h1
                  · exact .inl (.inr ⟨y', h1, h2⟩)
                  · rw [List.mem_singleton] at h1
                    subst h1
                    exact .inr h2
            refine J.skip ?_
            refine J.seq ?_
            refine J.block ?_
            refine J.seq ?_
            refine J.region ?_
            refine L.va rfl ((by first | exact X.index1n rfl rfl Try.underlying22 sz_30 (by first | exact Option.some_ne_none _ | exact hAT | exact hldy) (by omega) | exact X.index1 rfl rfl Try.underlying22 sz_30 (by first | exact Option.some_ne_none _ | exact hAT | exact hldy) (by omega))) ?_
            refine L.va rfl (X.load rfl sc_30 (by first | exact hAT | exact hldy)) ?_
            refine L.va rfl (X.assign (by conv => lhs; whnf)) ?_
            refine L.nil ?_
            refine J.seq ?_
            refine J.region ?_
            refine L.va rfl (X.move (by conv => lhs; whnf)) ?_
            refine L.va rfl (X.move (by conv => lhs; whnf)) ?_
            refine L.va rfl (X.move (by conv => lhs; whnf)) ?_
            refine L.va rfl (X.andEU rfl rfl eand) ?_
            refine L.va rfl (X.lookR rfl rfl hlook) ?_
            refine L.va rfl (X.move (by conv => lhs; whnf)) ?_
            refine L.va rfl (X.extract rfl rfl) ?_
            refine L.va rfl (X.extract rfl rfl) ?_
            refine L.va rfl (X.assign (by conv => lhs; whnf)) ?_
            refine L.va rfl (X.assign (by conv => lhs; whnf)) ?_
            refine L.nil ?_
            refine J.seq ?_
            refine J.region ?_
            refine L.va rfl (X.move (by conv => lhs; whnf)) ?_
            refine L.va rfl (X.not rfl) ?_
            refine L.nil ?_
            by_cases hin : x &&& y ∈ p
            · rw [hβ.2 hin]
              refine J.iteF rfl ?_
              refine J.skip ?_
              refine J.region ?_
              refine L.va rfl (X.add rfl rfl (by omega)) ?_
              refine L.va rfl (X.move (by conv => lhs; whnf)) ?_
              refine L.nil ?_
              refine ⟨(j + 1, p, B, q', d), At2 (by first | rfl | exact at_int rfl (by omega) | exact at_slice rfl (by omega) | exact at_int rfl (by simp)) (by first | rfl | exact at_int rfl (by omega) | exact at_slice rfl (by omega) | exact at_int rfl (by simp)), (by (iterate 18 refine Agr.lk rfl ?_); exact Agr.lk rfl (Agr.hav rfl Agr.rfl')), ?_⟩
              exact ⟨⟨by omega, hq', by omega, hnd, fun z => by rw [← hmz]; exact ⟨.inl, fun h => h.elim id fun h => h ▸ hin⟩, hm5, ho5, hT5, hne5, he5⟩, by show 1 + q - (j + 1) < 1 + q - j; omega⟩
            · have hβf : β = false := by
                cases β
                · rfl
                · exact absurd (hβ.1 rfl) hin
              rw [hβf]
              have hqm : q' + 1 ≤ 5000 := by omega
              refine J.iteT rfl ?_
              refine J.seq ?_
              refine J.region ?_
              refine L.va rfl (X.move (by conv => lhs; whnf)) ?_
              refine L.va rfl (X.move (by conv => lhs; whnf)) ?_
              refine L.va rfl (X.move (by conv => lhs; whnf)) ?_
              refine L.va rfl (X.andEU rfl rfl eand) ?_
              refine L.va rfl (X.move (by conv => lhs; whnf)) ?_
              refine L.va rfl (X.len rfl Try.underlying22) ?_
              refine L.mapPutK rfl rfl rfl rfl hm5 K1 Try.underlying39 Try.underlying3 (by unfold maxLen; omega) (keyU hz32) (wf64 (by omega)) ?_
              intro w6 hm6 hg6
              have ho6 := ho5.kept hg6 (.inr (hm5.ne_row ho5))
              have hT6 := hT5.kept hg6 (.inr (hm5.ne_row hT5))
              have he6 : Ext w w6 := he5.grw hg6 (by intro g hg; injection hg with hg; omega)
              have z6 := he6.le
              have hz26 : w2.heap.size ≤ w6.heap.size := by have := (hT6.lt gT hgT).2; omega
              refine L.nil ?_
              refine J.region ?_
              refine L.va rfl (X.move (by conv => lhs; whnf)) ?_
              refine L.va rfl (X.move (by conv => lhs; whnf)) ?_
              refine L.va rfl (X.move (by conv => lhs; whnf)) ?_
              refine L.va rfl (X.andEU rfl rfl eand) ?_
              refine L.bslice (vs := [_]) rfl (Evs.cons (by conv => lhs; whnf) Evs.nil) rfl rfl rfl rfl Try.underlying22 sz_30 zr_30 (by decide) ?_
              intro b7 w7 hb7 hs7 hk7 he7
              have ho7 := ho6.ext he7
              have hT7 := hT6.ext he7
              have hm7 := hm6.ext he7
              refine L.appendQ (q := q' + 1) (ys := zl p ++ [((x &&& y : Nat) : Int)]) rfl rfl rfl Try.underlying22 el_30 (ho7) (blk_readsN (sz := 1) (q := 1) (l := nums .u32 [((x &&& y : Nat) : Int)]) hk7 hk7.lt rfl) (by omega) (by simp) (by unfold maxLen; omega) (by omega) ?_
              intro A8 c8 w8 ho8 hg8 hb8 hor8
              rw [← zl_snoc] at ho8
              have hT8 := hT7.kept hg8 (.inr (by rw [hgT]; exact fun e => hne5 e.symm))
              have hm8 := (hm7.kept hg8 (fun e => hm7.ne_row ho7 e.symm)).same (Sq.snoc p (x &&& y))
              have he8 : Ext w w8 := (he6.trans he7).low hb8 (Nat.le_refl _)
              have hne8 := own_grow hT7 hgT hne5 hor8
              refine L.va rfl (X.assign (by conv => lhs; whnf)) ?_
              refine L.nil ?_
              refine J.region ?_
              refine L.va rfl (X.add rfl rfl (by omega)) ?_
              refine L.va rfl (X.move (by conv => lhs; whnf)) ?_
              refine L.nil ?_
              refine ⟨(j + 1, p ++ [x &&& y], A8, q' + 1, c8), At2 (by first | rfl | exact at_int rfl (by omega) | exact at_slice rfl (by omega) | exact at_int rfl (by simp)) (by first | rfl | exact at_int rfl (by omega) | exact at_slice rfl (by omega) | exact at_int rfl (by simp)), (by (iterate 31 refine Agr.lk rfl ?_); exact Agr.lk rfl (Agr.hav rfl Agr.rfl')), ?_⟩
              refine ⟨⟨by omega, by rw [List.length_append, ← hq']; rfl, by omega, ?_, fun z => ?_, hm8, ho8, hT8, hne8, he8⟩, by show 1 + q - (j + 1) < 1 + q - j; omega⟩
              · rw [List.nodup_append]
                refine ⟨hnd, by simp, fun a ha b hb e => ?_⟩
                rw [List.mem_singleton] at hb
                subst hb
                subst e
                exact hin ha
              · rw [← hmz, List.mem_append, List.mem_singleton]
          · have hjq : (x :: o).take j = x :: o := List.take_of_length_le (by simp only [List.length_cons]; omega)
            rw [hjq] at hmp
            refine J.exit ?_
            refine J.region ?_
            refine L.va rfl (X.add rfl rfl (by omega)) ?_
            refine L.va rfl (X.move (by conv => lhs; whnf)) ?_
            refine L.nil ?_
            refine ⟨(i + 1, p, B, q', d), At2 (by first | rfl | exact at_int rfl (by omega) | exact at_slice rfl (by omega) | exact at_int rfl (by simp)) (by first | rfl | exact at_int rfl (by omega) | exact at_slice rfl (by omega) | exact at_int rfl (by simp)), (by (iterate 3 refine Agr.lk rfl ?_); refine Agr.lk rfl ?_; refine Agr.hav rfl ?_; (iterate 10 refine Agr.lk rfl ?_); exact Agr.lk rfl (Agr.hav rfl Agr.rfl')), ?_⟩
            refine ⟨⟨by omega, hq', by omega, hnd, fun z => ?_, hm5, ho5, he5⟩, by show n - (i + 1) < n - i; omega⟩
            rw [hmp, htk, Cm.snoc hx32, hmem]
            constructor
            · rintro (h | ⟨y, hy, e⟩)
              · exact .inl h
              · rcases List.mem_cons.1 hy with rfl | hy
                · exact .inr ⟨y, .inl rfl, e⟩
                · exact .inr ⟨y, .inr ((hmem y).1 hy), e⟩
            · rintro (h | ⟨y, rfl | hy, e⟩)
              · exact .inl h
              · exact .inr ⟨y, by simp, e⟩
              · exact .inr ⟨y, List.mem_cons_of_mem _ ((hmem y).2 hy), e⟩
      · obtain rfl : i = n := by omega
        rw [List.take_of_length_le (by omega)] at hmem
        have hpi := hp12 i (by omega)
        refine J.exit ?_
        refine J.seq ?_
        refine J.region ?_
        refine L.va rfl (X.move (by conv => lhs; whnf)) ?_
        refine L.call rfl en_19 rfl (sortU B q d w.heap.size (zl o) w2 ho2 (by omega)) ?_
        rintro e w3 ⟨rfl, o', ho3, hg3, hpm, hI⟩
        refine ⟨_, rfl, ?_⟩
        have he3 : Ext w w3 := he2.grw hg3 (fun g hg => (ho2.lt g hg).1)
        refine L.nil ?_
        refine J.seq ?_
        refine J.region ?_
        refine L.va rfl (X.move (by conv => lhs; whnf)) ?_
        refine L.va rfl (X.assign (by conv => lhs; whnf)) ?_
        refine L.va rfl (X.assign (by conv => lhs; whnf)) ?_
        refine L.nil ?_
        refine J.ret ?_
        refine fin2 ?_
        exact .inr ⟨by omega, B, q, d, o', rfl, ho3, hpm.nodup_iff.2 (zl_nodup hnd), hI, by omega, fun z => by rw [hpm.mem_iff, mem_zl]; exact ⟨fun ⟨y, e, hy⟩ => ⟨y, e, (hmem y).1 hy⟩, fun ⟨y, e, hy⟩ => ⟨y, e, (hmem y).2 hy⟩⟩, he3⟩
end Go.Proofs.Ytjegcohpmmbchaa
namespace Go.Proofs.Ytjegcohpmmbchaa
set_option maxRecDepth 100000
open Go.RowKit H
open Mk Clo
set_option linter.unusedVariables false
theorem rcount_any (a : Nat) (w : World) (ha : a < 4294967296) : Calls Try.prog 17 #[.int .u32 (a : Int)] w fun e w' => e = .returned (.int .i64 (cnt 32 a : Int)) ∧ w = w' := by
  refine enter Try.func17 rfl (by kernel_rfl) ?_
  refine J.seq ?_
  refine J.region ?_
  refine L.va rfl (X.assign (by conv => lhs; whnf)) ?_
  refine L.nil ?_
  refine J.seq ?_
  refine J.region ?_
  refine L.va rfl (X.assign (by conv => lhs; whnf)) ?_
  refine L.nil ?_
  refine J.seq ?_
  refine J.seq ?_
  refine J.region ?_
  refine L.va rfl (X.assign (by conv => lhs; whnf)) ?_
  refine L.nil ?_
  refine J.block ?_
  refine J.loop (X := Nat × Nat) [3, 4, 5, 6, 7, 8, 9, 10, 11, 12, 13] (fun (i, n) => [(4, .int .i64 (i : Int)), (3, .int .i64 (n : Int))]) (fun (i, n) w' => w' = w ∧ i ≤ 32 ∧ n = cnt i a) (fun (i, _) => 32 - i) ((0, 0)) (At2 (by first | rfl | exact at_int rfl (by omega) | exact at_slice rfl (by omega) | exact at_int rfl (by simp)) (by first | rfl | exact at_int rfl (by omega) | exact at_slice rfl (by omega) | exact at_int rfl (by simp))) ?_ ?_
  · exact ⟨rfl, by omega, rfl⟩
  · rintro ⟨i, n⟩ g w1 ⟨rfl, hi, hn⟩
    have hc := cnt_le i a
    have hb := cnt_bit i a
    refine J.seq ?_
    refine J.seq ?_
    refine J.region ?_
    refine L.va rfl (X.move (by conv => lhs; whnf)) ?_
    refine L.va rfl (X.lss rfl rfl) ?_
    refine L.nil ?_
    refine J.dec rfl (fun hlt => ?_) (fun hlt => ?_)
    · have c1 := rin_any a i w1 ha (by omega)
      refine J.skip ?_
      refine J.seq ?_
      refine J.block ?_
      refine J.seq ?_
      refine J.region ?_
      refine L.va rfl (X.move (by conv => lhs; whnf)) ?_
      refine L.va rfl (X.move (by conv => lhs; whnf)) ?_
      refine L.call rfl en_24 rfl (c1) ?_
      rintro e _ ⟨rfl, rfl⟩
      refine ⟨_, rfl, ?_⟩
      refine L.nil ?_
      cases ht : a.testBit i
      · rw [if_neg (by rw [ht]; decide)] at hb
        refine J.iteF rfl ?_
        refine J.skip ?_
        refine J.region ?_
        refine L.va rfl (X.move (by conv => lhs; whnf)) ?_
        refine L.va rfl (X.add rfl rfl (by omega)) ?_
        refine L.va rfl (X.assign (by conv => lhs; whnf)) ?_
        refine L.nil ?_
        refine ⟨(i + 1, n), At2 (by first | rfl | exact at_int rfl (by omega) | exact at_slice rfl (by omega) | exact at_int rfl (by simp)) (by first | rfl | exact at_int rfl (by omega) | exact at_slice rfl (by omega) | exact at_int rfl (by simp)), (by (iterate 8 refine Agr.lk rfl ?_); exact Agr.lk rfl (Agr.hav rfl Agr.rfl')), ?_⟩
        exact ⟨⟨rfl, by omega, by omega⟩, by show 32 - (i + 1) < 32 - i; omega⟩
      · rw [if_pos ht] at hb
        refine J.iteT rfl ?_
        refine J.region ?_
        refine L.va rfl (X.move (by conv => lhs; whnf)) ?_
        refine L.va rfl (X.add rfl rfl (by omega)) ?_
        refine L.va rfl (X.assign (by conv => lhs; whnf)) ?_
        refine L.nil ?_
        refine J.region ?_
        refine L.va rfl (X.move (by conv => lhs; whnf)) ?_
        refine L.va rfl (X.add rfl rfl (by omega)) ?_
        refine L.va rfl (X.assign (by conv => lhs; whnf)) ?_
        refine L.nil ?_
        refine ⟨(i + 1, n + 1), At2 (by first | rfl | exact at_int rfl (by omega) | exact at_slice rfl (by omega) | exact at_int rfl (by simp)) (by first | rfl | exact at_int rfl (by omega) | exact at_slice rfl (by omega) | exact at_int rfl (by simp)), (by (iterate 11 refine Agr.lk rfl ?_); exact Agr.lk rfl (Agr.hav rfl Agr.rfl')), ?_⟩
        exact ⟨⟨rfl, by omega, by omega⟩, by show 32 - (i + 1) < 32 - i; omega⟩
    · obtain rfl : i = 32 := by omega
      refine J.exit ?_
      refine J.seq ?_
      refine J.region ?_
      refine L.va rfl (X.move (by conv => lhs; whnf)) ?_
      refine L.va rfl (X.assign (by conv => lhs; whnf)) ?_
      refine L.nil ?_
      refine J.ret ?_
      refine fin1 ?_
      exact ⟨by rw [hn]; rfl, rfl⟩
theorem lsize (A : Option Addr) (n c : Nat) (ss : List Int) (i : Nat) (w : World) (hr : Reads w w.heap.size 1 A n (nums .i64 ss)) : Calls Try.prog 21 #[.slice A n c, .int .i64 (i : Int)] w fun e w' => e = .returned (.int .i64 (ss.getD i 0)) ∧ w = w' := by
  have hl : ss.length = n := by have := hr.1; simpa [nums] using this
  refine enter Try.func21 rfl (by kernel_rfl) ?_
  refine J.seq ?_
  refine J.region ?_
  refine L.va rfl (X.assign (by conv => lhs; whnf)) ?_
  refine L.nil ?_
  refine J.seq ?_
  refine J.seq ?_
  refine J.region ?_
  refine L.va rfl (X.move (by conv => lhs; whnf)) ?_
  refine L.va rfl (X.move (by conv => lhs; whnf)) ?_
  refine L.va rfl (X.len rfl Try.underlying31) ?_
  refine L.va rfl (X.lss rfl rfl) ?_
  refine L.nil ?_
  refine J.dec rfl (fun hlt => ?_) (fun hlt => ?_)
  · have hA := hr.some_ (by omega)
    refine J.seq ?_
    refine J.region ?_
    refine L.va rfl (X.move (by conv => lhs; whnf)) ?_
    refine L.va rfl (X.move (by conv => lhs; whnf)) ?_
    refine L.va rfl ((by first | exact X.index1n rfl rfl Try.underlying31 sz_3 (by first | exact Option.some_ne_none _ | exact hr.some_ (by omega) | exact hA) (by omega) | exact X.index1 rfl rfl Try.underlying31 sz_3 (by first | exact Option.some_ne_none _ | exact hr.some_ (by omega) | exact hA) (by omega))) ?_
    refine L.va rfl (X.load rfl sc_3 (by first | exact Ld.num hr (by omega) | exact hA)) ?_
    refine L.va rfl (X.assign (by conv => lhs; whnf)) ?_
    refine L.nil ?_
    refine J.ret ?_
    refine thn_ret <| ?_
    refine fin1 ?_
    exact ⟨rfl, rfl⟩
  · refine J.skip ?_
    refine J.seq ?_
    refine J.region ?_
    refine L.va rfl (X.assign (by conv => lhs; whnf)) ?_
    refine L.nil ?_
    refine J.ret ?_
    refine fin1 ?_
    exact ⟨by rw [List.getD, List.getElem?_eq_none (by omega)]; rfl, rfl⟩
theorem lsizeI (A : Option Addr) (n c : Nat) (ss : List Int) (x : Int) (w : World) (hr : Reads w w.heap.size 1 A n (nums .i64 ss)) (hx : 0 ≤ x) : Calls Try.prog 21 #[.slice A n c, .int .i64 x] w fun e w' => e = .returned (.int .i64 (ss.getD x.toNat 0)) ∧ w = w' := by
  obtain ⟨k, rfl⟩ := Int.eq_ofNat_of_zero_le hx
  exact lsize A n c ss k w hr
theorem getN_lt {l : List Nat} (h : ∀ x ∈ l, x < 4294967296) (i : Nat) : l.getD i 0 < 4294967296 := by
  rcases Nat.lt_or_ge i l.length with hi | hi
  · rw [List.getD, List.getElem?_eq_getElem hi]; exact h _ (List.getElem_mem _)
  · rw [List.getD, List.getElem?_eq_none hi]; decide
theorem Ld.zl {w : World} {B n : Nat} {A : Option Addr} {l : List Nat} (h : Reads w B 1 A n (nums .u32 (zl l))) {j : Nat} (hj : j < n) : Ld w (pA A j) (.int .u32 ((l.getD j 0 : Nat) : Int)) := by
  have := Ld.num h hj
  rwa [zl_getD] at this
theorem lcover (A1 : Option Addr) (n1 c1 : Nat) (vs : List Nat) (A2 : Option Addr) (n2 c2 : Nat) (ss : List Int) (x : Nat) (w : World) (h1 : Reads w w.heap.size 1 A1 n1 (nums .u32 (zl vs))) (h2 : Reads w w.heap.size 1 A2 n2 (nums .i64 ss)) (hv : ∀ y ∈ vs, y < 4294967296) (hx : x < 4294967296) (hn : n1 ≤ 100) :
    Calls Try.prog 9 #[.slice A1 n1 c1, .slice A2 n2 c2, .int .u32 (x : Int)] w fun e w' => ∃ a : Int, e = .returned (.int .i64 a) ∧ MinAt (fun i => sb x (vs.getD i 0)) (fun i => ss.getD i 0) 0 n1 a ∧ w = w' := by
  refine enter Try.func9 rfl (by kernel_rfl) ?_
  refine J.seq ?_
  refine J.region ?_
  refine L.va rfl (X.assign (by conv => lhs; whnf)) ?_
  refine L.nil ?_
  refine J.seq ?_
  refine J.region ?_
  refine L.va rfl (X.assign (by conv => lhs; whnf)) ?_
  refine L.nil ?_
  refine J.seq ?_
  refine J.seq ?_
  refine J.region ?_
  refine L.va rfl (X.move (by conv => lhs; whnf)) ?_
  refine L.va rfl (X.len rfl Try.underlying22) ?_
  refine L.va rfl (X.move (by conv => lhs; whnf)) ?_
  refine L.nil ?_
  refine J.block ?_
  refine J.loop (X := Nat × Int) [7, 8, 9, 12, 13, 14, 15, 16, 17, 18, 19, 20, 21, 22, 23, 24, 25, 26, 27, 28, 29, 30, 31, 32, 33, 34] (fun (i, a) => [(12, .int .i64 (i : Int)), (7, .int .i64 a)]) (fun (i, a) w' => w' = w ∧ i ≤ n1 ∧ MinAt (fun i => sb x (vs.getD i 0)) (fun i => ss.getD i 0) 0 i a) (fun (i, _) => n1 - i) ((0, -1)) (At2 (by first | rfl | exact at_int rfl (by omega) | exact at_slice rfl (by omega) | exact at_int rfl (by simp)) (by first | rfl | exact at_int rfl (by omega) | exact at_slice rfl (by omega) | exact at_int rfl (by simp))) ?_ ?_
  · exact ⟨rfl, Nat.zero_le _, MinAt.none _ _ _⟩
  · rintro ⟨i, a⟩ g w1 ⟨rfl, hi, hM⟩
    have hge := hM.ge
    have hf := hM.fwd (Nat.zero_le _)
    refine J.seq ?_
    refine J.region ?_
    refine L.va rfl (X.lss rfl rfl) ?_
    refine L.nil ?_
    refine J.seq ?_
    refine J.dec rfl (fun hlt => ?_) (fun hlt => ?_)
    · have hA := h1.some_ (by omega)
      have c3 := lsub_any x (vs.getD i 0) w1 hx (getN_lt hv i)
      refine J.skip ?_
      refine J.seq ?_
      refine J.block ?_
      refine J.seq ?_
      refine J.region ?_
      refine L.va rfl (X.move (by conv => lhs; whnf)) ?_
      refine L.va rfl ((by first | exact X.index1n rfl rfl Try.underlying22 sz_30 (by first | exact Option.some_ne_none _ | exact hA) (by omega) | exact X.index1 rfl rfl Try.underlying22 sz_30 (by first | exact Option.some_ne_none _ | exact hA) (by omega))) ?_
      refine L.va rfl (X.load rfl sc_30 (by first | exact hA | exact Ld.zl h1 (by omega))) ?_
      refine L.va rfl (X.assign (by conv => lhs; whnf)) ?_
      refine L.va rfl (X.assign (by conv => lhs; whnf)) ?_
      refine L.nil ?_
      refine J.seq ?_
      refine J.region ?_
      refine L.va rfl (X.move (by conv => lhs; whnf)) ?_
      refine L.va rfl (X.move (by conv => lhs; whnf)) ?_
      refine L.call rfl en_20 rfl (c3) ?_
      rintro e _ ⟨rfl, rfl⟩
      refine ⟨_, rfl, ?_⟩
      refine L.va rfl (X.move (by conv => lhs; whnf)) ?_
      cases ho : sb x (vs.getD i 0)
      · rw [if_neg (fun h => by rw [show sb x (vs.getD i 0) = true from h.1] at ho; cases ho)] at hf
        refine L.caseBF (k := 20) rfl (by rfl) ?_
        refine L.no rfl ?_
        refine L.no rfl ?_
        refine L.no rfl ?_
        refine L.no rfl ?_
        refine L.no rfl ?_
        refine L.no rfl ?_
        refine L.no rfl ?_
        refine L.no rfl ?_
        refine L.no rfl ?_
        refine L.no rfl ?_
        refine L.no rfl ?_
        refine L.va rfl (X.pickF rfl (by conv => lhs; whnf)) ?_
        refine L.nil ?_
        refine J.iteF rfl ?_
        refine J.skip ?_
        refine J.region ?_
        refine L.va rfl (X.add rfl rfl (by omega)) ?_
        refine L.va rfl (X.move (by conv => lhs; whnf)) ?_
        refine L.nil ?_
        refine ⟨(i + 1, a), At2 (by first | rfl | exact at_int rfl (by omega) | exact at_slice rfl (by omega) | exact at_int rfl (by simp)) (by first | rfl | exact at_int rfl (by omega) | exact at_slice rfl (by omega) | exact at_int rfl (by simp)), (by (iterate 25 refine Agr.lk rfl ?_); exact Agr.lk rfl (Agr.hav rfl Agr.rfl')), ?_⟩
        exact ⟨⟨rfl, by omega, hf⟩, by show n1 - (i + 1) < n1 - i; omega⟩
      · refine L.caseBT (k := 20) rfl (by rfl) ?_
        refine L.va rfl (X.move (by conv => lhs; whnf)) ?_
        refine L.va rfl (X.lss rfl rfl) ?_
        refine L.va rfl (X.move (by conv => lhs; whnf)) ?_
        refine L.caseDec (k := 23) rfl (fun ha => ?_) (fun ha => ?_)
        · rw [if_pos ⟨ho, .inl ha⟩] at hf
          refine L.no rfl ?_
          refine L.no rfl ?_
          refine L.no rfl ?_
          refine L.no rfl ?_
          refine L.no rfl ?_
          refine L.no rfl ?_
          refine L.no rfl ?_
          refine L.va rfl (X.pickT rfl (by conv => lhs; whnf)) ?_
          refine L.va rfl (X.pickT rfl (by conv => lhs; whnf)) ?_
          refine L.nil ?_
          refine J.iteT rfl ?_
          refine J.region ?_
          refine L.va rfl (X.move (by conv => lhs; whnf)) ?_
          refine L.va rfl (X.assign (by conv => lhs; whnf)) ?_
          refine L.nil ?_
          refine J.region ?_
          refine L.va rfl (X.add rfl rfl (by omega)) ?_
          refine L.va rfl (X.move (by conv => lhs; whnf)) ?_
          refine L.nil ?_
          refine ⟨(i + 1, (i : Int)), At2 (by first | rfl | exact at_int rfl (by omega) | exact at_slice rfl (by omega) | exact at_int rfl (by simp)) (by first | rfl | exact at_int rfl (by omega) | exact at_slice rfl (by omega) | exact at_int rfl (by simp)), (by (iterate 28 refine Agr.lk rfl ?_); exact Agr.lk rfl (Agr.hav rfl Agr.rfl')), ?_⟩
          exact ⟨⟨rfl, by omega, hf⟩, by show n1 - (i + 1) < n1 - i; omega⟩
        · obtain ⟨k, rfl⟩ := Int.eq_ofNat_of_zero_le (show 0 ≤ a by omega)
          rw [Int.toNat_natCast] at hf
          refine L.va rfl (X.move (by conv => lhs; whnf)) ?_
          refine L.va rfl (X.move (by conv => lhs; whnf)) ?_
          refine L.call rfl en_21 rfl (lsize A2 n2 c2 ss i w1 h2) ?_
          rintro e _ ⟨rfl, rfl⟩
          refine ⟨_, rfl, ?_⟩
          refine L.va rfl (X.move (by conv => lhs; whnf)) ?_
          refine L.va rfl (X.move (by conv => lhs; whnf)) ?_
          refine L.call rfl en_21 rfl (lsize A2 n2 c2 ss k w1 h2) ?_
          rintro e _ ⟨rfl, rfl⟩
          refine ⟨_, rfl, ?_⟩
          refine L.va rfl (X.lss rfl rfl) ?_
          refine L.va rfl (X.pickF rfl (by conv => lhs; whnf)) ?_
          refine L.va rfl (X.pickT rfl (by conv => lhs; whnf)) ?_
          refine L.nil ?_
          refine J.dec rfl (fun hs => ?_) (fun hs => ?_)
          · rw [if_pos ⟨ho, .inr hs⟩] at hf
            refine J.region ?_
            refine L.va rfl (X.move (by conv => lhs; whnf)) ?_
            refine L.va rfl (X.assign (by conv => lhs; whnf)) ?_
            refine L.nil ?_
            refine J.region ?_
            refine L.va rfl (X.add rfl rfl (by omega)) ?_
            refine L.va rfl (X.move (by conv => lhs; whnf)) ?_
            refine L.nil ?_
            refine ⟨(i + 1, (i : Int)), At2 (by first | rfl | exact at_int rfl (by omega) | exact at_slice rfl (by omega) | exact at_int rfl (by simp)) (by first | rfl | exact at_int rfl (by omega) | exact at_slice rfl (by omega) | exact at_int rfl (by simp)), (by (iterate 28 refine Agr.lk rfl ?_); exact Agr.lk rfl (Agr.hav rfl Agr.rfl')), ?_⟩
            exact ⟨⟨rfl, by omega, hf⟩, by show n1 - (i + 1) < n1 - i; omega⟩
          · rw [if_neg (fun h => h.2.elim (by omega) hs)] at hf
            refine J.skip ?_
            refine J.region ?_
            refine L.va rfl (X.add rfl rfl (by omega)) ?_
            refine L.va rfl (X.move (by conv => lhs; whnf)) ?_
            refine L.nil ?_
            refine ⟨(i + 1, (k : Int)), At2 (by first | rfl | exact at_int rfl (by omega) | exact at_slice rfl (by omega) | exact at_int rfl (by simp)) (by first | rfl | exact at_int rfl (by omega) | exact at_slice rfl (by omega) | exact at_int rfl (by simp)), (by (iterate 26 refine Agr.lk rfl ?_); exact Agr.lk rfl (Agr.hav rfl Agr.rfl')), ?_⟩
            exact ⟨⟨rfl, by omega, hf⟩, by show n1 - (i + 1) < n1 - i; omega⟩
    · obtain rfl : i = n1 := by omega
      refine J.exit ?_
      refine J.seq ?_
      refine J.region ?_
      refine L.va rfl (X.move (by conv => lhs; whnf)) ?_
      refine L.va rfl (X.assign (by conv => lhs; whnf)) ?_
      refine L.nil ?_
      refine J.ret ?_
      refine fin1 ?_
      exact ⟨a, rfl, hM, rfl⟩
def okS (vs : List Nat) (i k : Nat) : Bool := decide (vs.getD i 0 ≠ vs.getD k 0) && sb (vs.getD i 0) (vs.getD k 0)
theorem lsteps (A1 : Option Addr) (n1 c1 : Nat) (vs : List Nat) (A2 : Option Addr) (n2 c2 : Nat) (ss : List Int) (w : World) (h1 : Reads w w.heap.size 1 A1 n1 (nums .u32 (zl vs))) (h2 : Reads w w.heap.size 1 A2 n2 (nums .i64 ss)) (hv : ∀ y ∈ vs, y < 4294967296) (hn : n1 ≤ 100) :
    Calls Try.prog 11 #[.slice A1 n1 c1, .slice A2 n2 c2] w fun e w' => ∃ (A : Option Addr) (c : Nat) (o : List Int), e = .returned (.slice A n1 c) ∧ w'.ownsRow w.heap.size 3 1 (.slice A n1 c) n1 (nums .i64 o) ∧ (∀ i, i < n1 → MinAt (okS vs i) (fun i => ss.getD i 0) 0 n1 (o.getD i 0)) ∧ Ext w w' := by
  refine enter Try.func11 rfl (by kernel_rfl) ?_
  refine J.seq ?_
  refine J.region ?_
  refine L.va rfl (X.assign (by conv => lhs; whnf)) ?_
  refine L.nil ?_
  refine J.seq ?_
  refine J.region ?_
  refine L.va rfl (X.move (by conv => lhs; whnf)) ?_
  refine L.va rfl (X.len rfl Try.underlying22) ?_
  refine L.make (q := n1) (c := n1) rfl rfl rfl Try.underlying31 el_3 (by omega) ?_
  intro b w1 hb hs1 hk1 he1
  rw [made_nums] at hk1
  have hwb : w.heap.size ≤ b := by omega
  have ho1 : w1.ownsRow w.heap.size 3 1 (.slice (some ⟨b, 0, none⟩) n1 n1) n1 (nums .i64 (List.replicate n1 0)) := blk_own1 (q := n1) hk1 hwb (by unfold maxLen; omega) (by simp [nums])
  refine L.va rfl (X.assign (by conv => lhs; whnf)) ?_
  refine L.nil ?_
  refine J.seq ?_
  refine J.seq ?_
  refine J.region ?_
  refine L.va rfl (X.move (by conv => lhs; whnf)) ?_
  refine L.va rfl (X.len rfl Try.underlying22) ?_
  refine L.va rfl (X.move (by conv => lhs; whnf)) ?_
  refine L.nil ?_
  refine J.block ?_
  refine J.loop (X := Nat × List Int) [6, 7, 8, 9, 15, 16, 17, 18, 19, 20, 21, 22, 23, 24, 25, 26, 27, 28, 29, 30, 31, 32, 33, 34, 35, 36, 37, 38, 39, 40, 41, 42, 43, 44, 45, 46, 47, 48, 49, 50, 51, 52, 53, 54, 55, 56, 57, 58, 59, 60, 61, 62] (fun (i, o) => [(15, .int .i64 (i : Int))]) (fun (i, o) w' => i ≤ n1 ∧ o.length = n1 ∧ w'.ownsRow w.heap.size 3 1 (.slice (some ⟨b, 0, none⟩) n1 n1) n1 (nums .i64 o) ∧ (∀ j, j < i → MinAt (okS vs j) (fun i => ss.getD i 0) 0 n1 (o.getD j 0)) ∧ Ext w w') (fun (i, _) => n1 - i) ((0, List.replicate n1 0)) (At1 (by first | rfl | exact at_int rfl (by omega) | exact at_slice rfl (by omega) | exact at_int rfl (by simp))) ?_ ?_
  · exact ⟨Nat.zero_le _, List.length_replicate .., ho1, fun j hj => absurd hj (by omega), he1⟩
  · rintro ⟨i, o⟩ g w2 ⟨hi, hol, ho2, hM, he2⟩
    refine J.seq ?_
    refine J.region ?_
    refine L.va rfl (X.lss rfl rfl) ?_
    refine L.nil ?_
    refine J.seq ?_
    refine J.dec rfl (fun hlt => ?_) (fun hlt => ?_)
    · have hin : i < n1 := by omega
      have k1 := h1.ext he2
      have hA := k1.some_ (by omega)
      have hi32 := getN_lt hv i
      refine J.skip ?_
      refine J.seq ?_
      refine J.block ?_
      refine J.seq ?_
      refine J.region ?_
      refine L.va rfl (X.move (by conv => lhs; whnf)) ?_
      refine L.va rfl ((by first | exact X.index1n rfl rfl Try.underlying22 sz_30 (by first | exact Option.some_ne_none _ | exact hA) (by omega) | exact X.index1 rfl rfl Try.underlying22 sz_30 (by first | exact Option.some_ne_none _ | exact hA) (by omega))) ?_
      refine L.va rfl (X.load rfl sc_30 (by first | exact hA | exact Ld.zl k1 (by omega))) ?_
      refine L.va rfl (X.assign (by conv => lhs; whnf)) ?_
      refine L.va rfl (X.assign (by conv => lhs; whnf)) ?_
      refine L.nil ?_
      refine J.seq ?_
      refine J.region ?_
      refine L.va rfl (X.move (by conv => lhs; whnf)) ?_
      refine L.va rfl (X.move (by conv => lhs; whnf)) ?_
      refine L.va rfl ((by first | exact X.index1n rfl rfl Try.underlying31 sz_3 (by first | exact Option.some_ne_none _ | exact hA) (by omega) | exact X.index1 rfl rfl Try.underlying31 sz_3 (by first | exact Option.some_ne_none _ | exact hA) (by omega))) ?_
      refine L.storeON rfl rfl (by conv => lhs; whnf) sz_3 (ho2) (by omega) ?_
      intro w3 ho3 hg3 hb3 hs3
      have he3 : Ext w w3 := he2.grw hg3 (by intro g hg; injection hg with hg; subst hg; exact hwb)
      refine L.nil ?_
      refine J.seq ?_
      refine J.region ?_
      refine L.va rfl (X.move (by conv => lhs; whnf)) ?_
      refine L.va rfl (X.len rfl Try.underlying22) ?_
      refine L.va rfl (X.move (by conv => lhs; whnf)) ?_
      refine L.nil ?_
      refine J.block ?_
      refine J.loop (X := Nat × List Int) [8, 9, 25, 26, 27, 28, 29, 30, 31, 32, 33, 34, 35, 36, 37, 38, 39, 40, 41, 42, 43, 44, 45, 46, 47, 48, 49, 50, 51, 52, 53, 54, 55, 56, 57, 58, 59, 60, 61] (fun (k, o) => [(25, .int .i64 (k : Int))]) (fun (k, p) w' => k ≤ n1 ∧ p.length = n1 ∧ w'.ownsRow w.heap.size 3 1 (.slice (some ⟨b, 0, none⟩) n1 n1) n1 (nums .i64 p) ∧ (∀ j, j ≠ i → p.getD j 0 = o.getD j 0) ∧ MinAt (okS vs i) (fun i => ss.getD i 0) 0 k (p.getD i 0) ∧ Ext w w') (fun (k, _) => n1 - k) ((0, o.set i (-1))) (At1 (by first | rfl | exact at_int rfl (by omega) | exact at_slice rfl (by omega) | exact at_int rfl (by simp))) ?_ ?_
      · refine ⟨Nat.zero_le _, by rw [List.length_set]; exact hol, ho3, fun j hj => ?_, ?_, he3⟩
        · rw [getD_set _ _ _ _ (by omega), if_neg (fun e => hj e.symm)]
        · rw [getD_set _ _ _ _ (by omega), if_pos rfl]
          exact MinAt.none _ _ _
      · rintro ⟨k, p⟩ g w4 ⟨hk, hpl, ho4, hpo, hP, he4⟩
        have k1 := h1.ext he4
        have k2 := (h2.ext he4).more he4.le
        have hge := hP.ge
        have hf := hP.fwd (Nat.zero_le _)
        refine J.seq ?_
        refine J.region ?_
        refine L.va rfl (X.lss rfl rfl) ?_
        refine L.nil ?_
        refine J.seq ?_
        refine J.dec rfl (fun hlt2 => ?_) (fun hlt2 => ?_)
        · have hkn : k < n1 := by omega
          have hk32 := getN_lt hv k
          have hrp := Reads.of_own ho4
          have eok : okS vs i k = (decide (vs.getD i 0 ≠ vs.getD k 0) && sb (vs.getD i 0) (vs.getD k 0)) := rfl
          have c3 := fun (w' : World) => lsub_any (vs.getD i 0) (vs.getD k 0) w' hi32 hk32
          refine J.skip ?_
          refine J.seq ?_
          refine J.block ?_
          refine J.seq ?_
          refine J.region ?_
          refine L.va rfl (X.move (by conv => lhs; whnf)) ?_
          refine L.va rfl ((by first | exact X.index1n rfl rfl Try.underlying22 sz_30 (by first | exact Option.some_ne_none _ | exact hA) (by omega) | exact X.index1 rfl rfl Try.underlying22 sz_30 (by first | exact Option.some_ne_none _ | exact hA) (by omega))) ?_
          refine L.va rfl (X.load rfl sc_30 (by first | exact hA | exact Ld.zl k1 (by omega))) ?_
          refine L.va rfl (X.assign (by conv => lhs; whnf)) ?_
          refine L.va rfl (X.assign (by conv => lhs; whnf)) ?_
          refine L.nil ?_
          refine J.seq ?_
          refine J.quiet mixed (by kernel_rfl) ?_
          refine Qt.va rfl (fun w' hw => X.move (by conv => lhs; whnf)) ?_
          refine Qt.va rfl (fun w' hw => X.move (by conv => lhs; whnf)) ?_
          refine Qt.va rfl (fun w' hw => X.neq rfl rfl) ?_
          refine Qt.va rfl (fun w' hw => X.move (by conv => lhs; whnf)) ?_
          refine Qt.caseNdec (k := 33) rfl (fun hne => ?_) (fun hne => ?_)
          · have hne' : vs.getD i 0 ≠ vs.getD k 0 := by omega
            refine Qt.va rfl (fun w' hw => X.move (by conv => lhs; whnf)) ?_
            refine Qt.va rfl (fun w' hw => X.move (by conv => lhs; whnf)) ?_
            refine Qt.call rfl en_20 rfl (fun w' hw => calls_same hw (c3 w')) ?_
            refine Qt.va rfl (fun w' hw => X.pickT rfl (by conv => lhs; whnf)) ?_
            refine Qt.va rfl (fun w' hw => X.move (by conv => lhs; whnf)) ?_
            cases ho : sb (vs.getD i 0) (vs.getD k 0)
            · have hok : okS vs i k = false := by rw [eok, ho, Bool.and_false]
              rw [if_neg (fun h => by rw [hok] at h; cases h.1)] at hf
              refine Qt.caseBF (k := 38) rfl (by rfl) ?_
              refine Qt.no rfl ?_
              refine Qt.no rfl ?_
              refine Qt.no rfl ?_
              refine Qt.no rfl ?_
              refine Qt.no rfl ?_
              refine Qt.no rfl ?_
              refine Qt.no rfl ?_
              refine Qt.no rfl ?_
              refine Qt.no rfl ?_
              refine Qt.no rfl ?_
              refine Qt.no rfl ?_
              refine Qt.no rfl ?_
              refine Qt.no rfl ?_
              refine Qt.no rfl ?_
              refine Qt.no rfl ?_
              refine Qt.no rfl ?_
              refine Qt.no rfl ?_
              refine Qt.va rfl (fun w' hw => X.pickF rfl (by conv => lhs; whnf)) ?_
              refine Qt.nil (fun w5 hq => ?_)
              replace hrp := hrp.ext hq
              refine J.iteF rfl ?_
              refine J.skip ?_
              refine J.region ?_
              refine L.va rfl (X.add rfl rfl (by omega)) ?_
              refine L.va rfl (X.move (by conv => lhs; whnf)) ?_
              refine L.nil ?_
              refine ⟨(k + 1, p), At1 (by first | rfl | exact at_int rfl (by omega) | exact at_slice rfl (by omega) | exact at_int rfl (by simp)), (by (iterate 37 refine Agr.lk rfl ?_); exact Agr.lk rfl (Agr.hav rfl Agr.rfl')), ?_⟩
              exact ⟨⟨by omega, hpl, ho4.ext hq, hpo, hf, he4.trans hq⟩, by show n1 - (k + 1) < n1 - k; omega⟩
            · have hok : okS vs i k = true := by rw [eok, ho, decide_eq_true hne']; rfl
              refine Qt.caseBT (k := 38) rfl (by rfl) ?_
              refine Qt.va rfl (fun w' hw => X.move (by conv => lhs; whnf)) ?_
              refine Qt.va rfl (fun w' hw => X.move (by conv => lhs; whnf)) ?_
              refine Qt.va rfl (fun w' hw => (by first | exact X.index1n rfl rfl Try.underlying31 sz_3 (by first | exact Option.some_ne_none _ | exact hrp.some_ (by omega) | exact hA) (by omega) | exact X.index1 rfl rfl Try.underlying31 sz_3 (by first | exact Option.some_ne_none _ | exact hrp.some_ (by omega) | exact hA) (by omega))) ?_
              refine Qt.va rfl (fun w' hw => X.load rfl sc_3 (by first | exact Ld.num (hrp.ext hw) (by omega) | exact hA | exact Ld.zl k1 (by omega))) ?_
              refine Qt.va rfl (fun w' hw => X.lss rfl rfl) ?_
              refine Qt.va rfl (fun w' hw => X.move (by conv => lhs; whnf)) ?_
              refine Qt.caseDec (k := 44) rfl (fun ha => ?_) (fun ha => ?_)
              · rw [if_pos ⟨hok, .inl ha⟩] at hf
                refine Qt.no rfl ?_
                refine Qt.no rfl ?_
                refine Qt.no rfl ?_
                refine Qt.no rfl ?_
                refine Qt.no rfl ?_
                refine Qt.no rfl ?_
                refine Qt.no rfl ?_
                refine Qt.no rfl ?_
                refine Qt.no rfl ?_
                refine Qt.no rfl ?_
                refine Qt.va rfl (fun w' hw => X.pickT rfl (by conv => lhs; whnf)) ?_
                refine Qt.va rfl (fun w' hw => X.pickT rfl (by conv => lhs; whnf)) ?_
                refine Qt.nil (fun w5 hq => ?_)
                replace hrp := hrp.ext hq
                refine J.iteT rfl ?_
                have ho5 := ho4.ext hq
                refine J.region ?_
                refine L.va rfl (X.move (by conv => lhs; whnf)) ?_
                refine L.va rfl (X.move (by conv => lhs; whnf)) ?_
                refine L.va rfl (X.move (by conv => lhs; whnf)) ?_
                refine L.va rfl ((by first | exact X.index1n rfl rfl Try.underlying31 sz_3 (by first | exact Option.some_ne_none _ | exact hA) (by omega) | exact X.index1 rfl rfl Try.underlying31 sz_3 (by first | exact Option.some_ne_none _ | exact hA) (by omega))) ?_
                refine L.storeON rfl rfl (by conv => lhs; whnf) sz_3 (ho5) (by omega) ?_
                intro w6 ho6 hg6 hb6 hs6
                have he6 : Ext w w6 := (he4.trans hq).grw hg6 (by intro g hg; injection hg with hg; subst hg; exact hwb)
                refine L.nil ?_
                refine J.region ?_
                refine L.va rfl (X.add rfl rfl (by omega)) ?_
                refine L.va rfl (X.move (by conv => lhs; whnf)) ?_
                refine L.nil ?_
                refine ⟨(k + 1, p.set i (k : Int)), At1 (by first | rfl | exact at_int rfl (by omega) | exact at_slice rfl (by omega) | exact at_int rfl (by simp)), (by (iterate 42 refine Agr.lk rfl ?_); exact Agr.lk rfl (Agr.hav rfl Agr.rfl')), ?_⟩
                refine ⟨⟨by omega, by rw [List.length_set]; exact hpl, ho6, fun j hj => ?_, ?_, he6⟩, by show n1 - (k + 1) < n1 - k; omega⟩
                · rw [getD_set _ _ _ _ (by omega), if_neg (fun e => hj e.symm)]
                  exact hpo j hj
                · rw [getD_set _ _ _ _ (by omega), if_pos rfl]
                  exact hf
              · have hge0 : 0 ≤ p.getD i 0 := by omega
                refine Qt.va rfl (fun w' hw => X.move (by conv => lhs; whnf)) ?_
                refine Qt.va rfl (fun w' hw => X.move (by conv => lhs; whnf)) ?_
                refine Qt.call rfl en_21 rfl (fun w' hw => calls_same hw (lsize A2 n2 c2 ss k w' ((k2.ext hw).more hw.le))) ?_
                refine Qt.va rfl (fun w' hw => X.move (by conv => lhs; whnf)) ?_
                refine Qt.va rfl (fun w' hw => X.move (by conv => lhs; whnf)) ?_
                refine Qt.va rfl (fun w' hw => X.move (by conv => lhs; whnf)) ?_
                refine Qt.va rfl (fun w' hw => (by first | exact X.index1n rfl rfl Try.underlying31 sz_3 (by first | exact Option.some_ne_none _ | exact hrp.some_ (by omega) | exact hA) (by omega) | exact X.index1 rfl rfl Try.underlying31 sz_3 (by first | exact Option.some_ne_none _ | exact hrp.some_ (by omega) | exact hA) (by omega))) ?_
                refine Qt.va rfl (fun w' hw => X.load rfl sc_3 (by first | exact Ld.num (hrp.ext hw) (by omega) | exact hA | exact Ld.zl k1 (by omega))) ?_
                refine Qt.call rfl en_21 rfl (fun w' hw => calls_same hw (lsizeI A2 n2 c2 ss (p.getD i 0) w' ((k2.ext hw).more hw.le) hge0)) ?_
                refine Qt.va rfl (fun w' hw => X.lss rfl rfl) ?_
                refine Qt.va rfl (fun w' hw => X.pickF rfl (by conv => lhs; whnf)) ?_
                refine Qt.va rfl (fun w' hw => X.pickT rfl (by conv => lhs; whnf)) ?_
                refine Qt.nil (fun w5 hq => ?_)
                replace hrp := hrp.ext hq
                refine J.dec rfl (fun hs => ?_) (fun hs => ?_)
                · rw [if_pos ⟨hok, .inr hs⟩] at hf
                  have ho5 := ho4.ext hq
                  refine J.region ?_
                  refine L.va rfl (X.move (by conv => lhs; whnf)) ?_
                  refine L.va rfl (X.move (by conv => lhs; whnf)) ?_
                  refine L.va rfl (X.move (by conv => lhs; whnf)) ?_
                  refine L.va rfl ((by first | exact X.index1n rfl rfl Try.underlying31 sz_3 (by first | exact Option.some_ne_none _ | exact hA) (by omega) | exact X.index1 rfl rfl Try.underlying31 sz_3 (by first | exact Option.some_ne_none _ | exact hA) (by omega))) ?_
                  refine L.storeON rfl rfl (by conv => lhs; whnf) sz_3 (ho5) (by omega) ?_
                  intro w6 ho6 hg6 hb6 hs6
                  have he6 : Ext w w6 := (he4.trans hq).grw hg6 (by intro g hg; injection hg with hg; subst hg; exact hwb)
                  refine L.nil ?_
                  refine J.region ?_
                  refine L.va rfl (X.add rfl rfl (by omega)) ?_
                  refine L.va rfl (X.move (by conv => lhs; whnf)) ?_
                  refine L.nil ?_
                  refine ⟨(k + 1, p.set i (k : Int)), At1 (by first | rfl | exact at_int rfl (by omega) | exact at_slice rfl (by omega) | exact at_int rfl (by simp)), (by (iterate 42 refine Agr.lk rfl ?_); exact Agr.lk rfl (Agr.hav rfl Agr.rfl')), ?_⟩
                  refine ⟨⟨by omega, by rw [List.length_set]; exact hpl, ho6, fun j hj => ?_, ?_, he6⟩, by show n1 - (k + 1) < n1 - k; omega⟩
                  · rw [getD_set _ _ _ _ (by omega), if_neg (fun e => hj e.symm)]
                    exact hpo j hj
                  · rw [getD_set _ _ _ _ (by omega), if_pos rfl]
                    exact hf
                · rw [if_neg (fun h => h.2.elim (by omega) hs)] at hf
                  refine J.skip ?_
                  refine J.region ?_
                  refine L.va rfl (X.add rfl rfl (by omega)) ?_
                  refine L.va rfl (X.move (by conv => lhs; whnf)) ?_
                  refine L.nil ?_
                  refine ⟨(k + 1, p), At1 (by first | rfl | exact at_int rfl (by omega) | exact at_slice rfl (by omega) | exact at_int rfl (by simp)), (by (iterate 38 refine Agr.lk rfl ?_); exact Agr.lk rfl (Agr.hav rfl Agr.rfl')), ?_⟩
                  exact ⟨⟨by omega, hpl, ho4.ext hq, hpo, hf, he4.trans hq⟩, by show n1 - (k + 1) < n1 - k; omega⟩
          · have hok : okS vs i k = false := by rw [eok, decide_eq_false (fun h => h (by omega))]; rfl
            rw [if_neg (fun h => by rw [hok] at h; cases h.1)] at hf
            refine Qt.no rfl ?_
            refine Qt.no rfl ?_
            refine Qt.no rfl ?_
            refine Qt.va rfl (fun w' hw => X.pickF rfl (by conv => lhs; whnf)) ?_
            refine Qt.va rfl (fun w' hw => X.move (by conv => lhs; whnf)) ?_
            refine Qt.no rfl ?_
            refine Qt.no rfl ?_
            refine Qt.no rfl ?_
            refine Qt.no rfl ?_
            refine Qt.no rfl ?_
            refine Qt.no rfl ?_
            refine Qt.no rfl ?_
            refine Qt.no rfl ?_
            refine Qt.no rfl ?_
            refine Qt.no rfl ?_
            refine Qt.no rfl ?_
            refine Qt.no rfl ?_
            refine Qt.no rfl ?_
            refine Qt.no rfl ?_
            refine Qt.no rfl ?_
            refine Qt.no rfl ?_
            refine Qt.no rfl ?_
            refine Qt.va rfl (fun w' hw => X.pickF rfl (by conv => lhs; whnf)) ?_
            refine Qt.nil (fun w5 hq => ?_)
            replace hrp := hrp.ext hq
            refine J.iteF rfl ?_
            refine J.skip ?_
            refine J.region ?_
            refine L.va rfl (X.add rfl rfl (by omega)) ?_
            refine L.va rfl (X.move (by conv => lhs; whnf)) ?_
            refine L.nil ?_
            refine ⟨(k + 1, p), At1 (by first | rfl | exact at_int rfl (by omega) | exact at_slice rfl (by omega) | exact at_int rfl (by simp)), (by (iterate 36 refine Agr.lk rfl ?_); exact Agr.lk rfl (Agr.hav rfl Agr.rfl')), ?_⟩
            exact ⟨⟨by omega, hpl, ho4.ext hq, hpo, hf, he4.trans hq⟩, by show n1 - (k + 1) < n1 - k; omega⟩
        · obtain rfl : k = n1 := by omega
          refine J.exit ?_
          refine J.region ?_
          refine L.va rfl (X.add rfl rfl (by omega)) ?_
          refine L.va rfl (X.move (by conv => lhs; whnf)) ?_
          refine L.nil ?_
          refine ⟨(i + 1, p), At1 (by first | rfl | exact at_int rfl (by omega) | exact at_slice rfl (by omega) | exact at_int rfl (by simp)), (by (iterate 3 refine Agr.lk rfl ?_); refine Agr.lk rfl ?_; refine Agr.hav rfl ?_; (iterate 12 refine Agr.lk rfl ?_); exact Agr.lk rfl (Agr.hav rfl Agr.rfl')), ?_⟩
          refine ⟨⟨by omega, hpl, ho4, fun j hj => ?_, he4⟩, by show k - (i + 1) < k - i; omega⟩
          by_cases e : j = i
          · subst e; exact hP
          · rw [hpo j e]
            exact hM j (by omega)
    · obtain rfl : i = n1 := by omega
      refine J.exit ?_
      refine J.seq ?_
      refine J.region ?_
      refine L.va rfl (X.move (by conv => lhs; whnf)) ?_
      refine L.va rfl (X.assign (by conv => lhs; whnf)) ?_
      refine L.nil ?_
      refine J.ret ?_
      refine fin1 ?_
      exact ⟨_, _, o, rfl, ho2, hM, he2⟩
end Go.Proofs.Ytjegcohpmmbchaa
namespace Go.Proofs.Ytjegcohpmmbchaa
namespace Flo
open Ieee
def rg (x : Nat) : Nat := x % 9223372036854775808
def sg (x : Nat) : Bool := x / 9223372036854775808 % 2 == 1
def inf : Nat := 9218868437227405312
def od (x : Nat) : Int := if sg x then -(rg x : Int) else rg x
end Flo
end Go.Proofs.Ytjegcohpmmbchaa
namespace Go.Proofs.Ytjegcohpmmbchaa
set_option maxRecDepth 100000
open Go.RowKit H
open Ieee
set_option linter.unusedVariables false
namespace Flo
def nanF (x : Nat) : Prop := inf < rg x
instance (x : Nat) : Decidable (nanF x) := Nat.decLt _ _
def eqF (a b : Nat) : Prop := ¬ nanF a ∧ ¬ nanF b ∧ od a = od b
instance (a b : Nat) : Decidable (eqF a b) := by unfold eqF; infer_instance
def ltF (a b : Nat) : Prop := ¬ nanF a ∧ ¬ nanF b ∧ od a < od b
instance (a b : Nat) : Decidable (ltF a b) := by unfold ltF; infer_instance
end Flo
open Flo
namespace H
section
variable {P : Program} {n : Nat} {ops rest : List Oper} {Q : Exit → Fr → World → Prop} {f : Fr} {w w' : World} {o : Oper} {v : Value} {ρ : Operand → Value} {d : Option Tmp} {tx tz ty : TypeId} {x y : Operand} {pos : String} {aft : Array Edge} {g : Option (Nat × Bool)} {a b : Nat}
end
end H
end Go.Proofs.Ytjegcohpmmbchaa
namespace Go.Proofs.Ytjegcohpmmbchaa
set_option maxRecDepth 100000
open Go.RowKit H
open Flo
set_option linter.unusedVariables false
namespace Flo
def keyF (x : Nat) : Int := if nanF x then 18446744073709551615 else if sg x then 9223372036854775807 - (rg x : Int) else 9223372036854775808 + (rg x : Int)
def sameF (a b : Nat) : Bool := decide (keyF a = keyF b)
end Flo
namespace H
end H
end Go.Proofs.Ytjegcohpmmbchaa
namespace Go.Proofs.Ytjegcohpmmbchaa
set_option maxRecDepth 100000
open Go.RowKit H
open Flo
set_option linter.unusedVariables false
def eqL {α : Type} (R : α → α → Bool) (d : α) (a b : List α) : Bool := decide (a.length = b.length) && (List.range a.length).all fun i => R (a.getD i d) (b.getD i d)
section
variable {α : Type} {R : α → α → Bool} {d : α} {a b : List α}
theorem eqL_len (h : a.length ≠ b.length) : eqL R d a b = false := by unfold eqL; rw [decide_eq_false h]; rfl
theorem eqL_no {i : Nat} (h : i < a.length) (hR : R (a.getD i d) (b.getD i d) = false) : eqL R d a b = false := by
  unfold eqL
  rw [Bool.and_eq_false_iff]
  refine .inr ?_
  rw [Bool.eq_false_iff]
  intro hh
  have := List.all_eq_true.1 hh i (List.mem_range.2 h)
  rw [hR] at this
  cases this
theorem eqL_yes (h : a.length = b.length) (hR : ∀ i, i < a.length → R (a.getD i d) (b.getD i d) = true) : eqL R d a b = true := by
  unfold eqL
  rw [decide_eq_true h, Bool.true_and, List.all_eq_true]
  intro i hi
  exact hR i (List.mem_range.1 hi)
end
structure Vl where
  r : Bool
  n : Int
  x : Nat
namespace Vl
abbrev vs (v : Vl) : List Value := [.bool v.r, .int .i64 v.n, .float .f64 v.x]
def z : Vl := ⟨false, 0, 0⟩
def same (a b : Vl) : Bool := if a.r = b.r then (if a.r = true then sameF a.x b.x else decide (a.n = b.n)) else false
end Vl
end Go.Proofs.Ytjegcohpmmbchaa
namespace Go.Proofs.Ytjegcohpmmbchaa
set_option maxRecDepth 100000
open Go.RowKit H
open Flo
set_option linter.unusedVariables false
def eqI (a b : List Int) : Bool := eqL (fun x y => decide (x = y)) 0 a b
theorem eqI_self (a : List Int) : eqI a a = true := eqL_yes rfl (fun i _ => by simp)
theorem ints16 (A1 : Option Addr) (n1 c1 : Nat) (A2 : Option Addr) (n2 c2 : Nat) (a b : List Int) (w : World) (h1 : Reads w w.heap.size 1 A1 n1 (nums .i64 a)) (h2 : Reads w w.heap.size 1 A2 n2 (nums .i64 b)) (hn1 : n1 ≤ maxLen) (hn2 : n2 ≤ maxLen) :
    Calls Try.prog 10 #[.slice A1 n1 c1, .slice A2 n2 c2] w fun e w' => e = .returned (.bool (eqI a b)) ∧ Ext w w' := by
  have l1 : a.length = n1 := by have := h1.1; simpa [nums] using this
  have l2 : b.length = n2 := by have := h2.1; simpa [nums] using this
  unfold maxLen at hn1 hn2
  refine enter Try.func10 rfl (by kernel_rfl) ?_
  refine J.seq ?_
  refine J.region ?_
  refine L.va rfl (X.assign (by conv => lhs; whnf)) ?_
  refine L.nil ?_
  refine J.seq ?_
  refine J.seq ?_
  refine J.region ?_
  refine L.va rfl (X.move (by conv => lhs; whnf)) ?_
  refine L.va rfl (X.len rfl Try.underlying31) ?_
  refine L.va rfl (X.move (by conv => lhs; whnf)) ?_
  refine L.va rfl (X.len rfl Try.underlying31) ?_
  refine L.va rfl (X.neq rfl rfl) ?_
  refine L.nil ?_
  refine J.ndec rfl (fun hne => ?_) (fun hne => ?_)
  · rw [show eqI a b = false from eqL_len (by omega)]
    refine J.seq ?_
    refine J.region ?_
    refine L.va rfl (X.assign (by conv => lhs; whnf)) ?_
    refine L.nil ?_
    refine J.ret ?_
    refine thn_ret <| ?_
    refine fin1 ?_
    exact ⟨rfl, Ext.refl _⟩
  · refine J.skip ?_
    refine J.seq ?_
    refine J.seq ?_
    refine J.region ?_
    refine L.va rfl (X.assign (by conv => lhs; whnf)) ?_
    refine L.nil ?_
    refine J.block ?_
    refine J.loop (X := Nat) [4, 5, 11, 12, 13, 14, 15, 16, 17, 18, 19, 20, 21, 22, 23, 24, 25] (fun i => [(5, .int .i64 (i : Int))]) (fun i w' => i ≤ n1 ∧ (∀ j, j < i → decide (a.getD j 0 = b.getD j 0) = true) ∧ Ext w w') (fun i => n1 - i) (0) (At1 (by first | rfl | exact at_int rfl (by omega) | exact at_slice rfl (by omega) | exact at_int rfl (by simp))) ?_ ?_
    · exact ⟨by omega, fun j hj => absurd hj (by omega), Ext.refl _⟩
    · rintro i g w2 ⟨hi, hP, he⟩
      have k1 := h1.ext he
      have k2 := h2.ext he
      refine J.seq ?_
      refine J.seq ?_
      refine J.region ?_
      refine L.va rfl (X.move (by conv => lhs; whnf)) ?_
      refine L.va rfl (X.move (by conv => lhs; whnf)) ?_
      refine L.va rfl (X.len rfl Try.underlying31) ?_
      refine L.va rfl (X.lss rfl rfl) ?_
      refine L.nil ?_
      refine J.dec rfl (fun hlt => ?_) (fun hlt => ?_)
      · have hA1 := k1.some_ (by omega)
        have hA2 := k2.some_ (by omega)
        refine J.skip ?_
        refine J.seq ?_
        refine J.block ?_
        refine J.seq ?_
        refine J.quiet mixed (by kernel_rfl) ?_
        refine Qt.va rfl (fun w' hw => X.move (by conv => lhs; whnf)) ?_
        refine Qt.va rfl (fun w' hw => X.move (by conv => lhs; whnf)) ?_
        refine Qt.va rfl (fun w' hw => (by first | exact X.index1n rfl rfl Try.underlying31 sz_3 (by first | exact Option.some_ne_none _ | exact k1.some_ (by omega) | exact k2.some_ (by omega) | exact hA1 | exact hA2) (by omega) | exact X.index1 rfl rfl Try.underlying31 sz_3 (by first | exact Option.some_ne_none _ | exact k1.some_ (by omega) | exact k2.some_ (by omega) | exact hA1 | exact hA2) (by omega))) ?_
        refine Qt.va rfl (fun w' hw => X.load rfl sc_3 (by first | exact Ld.num (k1.ext hw) (by omega) | exact Ld.num (k2.ext hw) (by omega) | exact hA1 | exact hA2)) ?_
        refine Qt.va rfl (fun w' hw => X.move (by conv => lhs; whnf)) ?_
        refine Qt.va rfl (fun w' hw => X.move (by conv => lhs; whnf)) ?_
        refine Qt.va rfl (fun w' hw => (by first | exact X.index1n rfl rfl Try.underlying31 sz_3 (by first | exact Option.some_ne_none _ | exact k1.some_ (by omega) | exact k2.some_ (by omega) | exact hA1 | exact hA2) (by omega) | exact X.index1 rfl rfl Try.underlying31 sz_3 (by first | exact Option.some_ne_none _ | exact k1.some_ (by omega) | exact k2.some_ (by omega) | exact hA1 | exact hA2) (by omega))) ?_
        refine Qt.va rfl (fun w' hw => X.load rfl sc_3 (by first | exact Ld.num (k1.ext hw) (by omega) | exact Ld.num (k2.ext hw) (by omega) | exact hA1 | exact hA2)) ?_
        refine Qt.va rfl (fun w' hw => X.neq rfl rfl) ?_
        refine Qt.nil (fun w3 hq => ?_)
        replace k1 := k1.ext hq
        replace k2 := k2.ext hq
        refine J.ndec rfl (fun hd => ?_) (fun hd => ?_)
        · rw [show eqI a b = false from eqL_no (i := i) (by omega) (decide_eq_false hd)]
          refine J.seq ?_
          refine J.region ?_
          refine L.va rfl (X.assign (by conv => lhs; whnf)) ?_
          refine L.nil ?_
          refine J.ret ?_
          refine inB_ret <|  thn_ret <|  thn_ret <|  inB_ret <|  thn_ret <| ?_
          refine fin1 ?_
          exact ⟨rfl, he.trans hq⟩
        · skip
          refine J.skip ?_
          refine J.region ?_
          refine L.va rfl (X.move (by conv => lhs; whnf)) ?_
          refine L.va rfl (X.add rfl rfl (by omega)) ?_
          refine L.va rfl (X.assign (by conv => lhs; whnf)) ?_
          refine L.nil ?_
          refine ⟨i + 1, At1 (by first | rfl | exact at_int rfl (by omega) | exact at_slice rfl (by omega) | exact at_int rfl (by simp)), (by (iterate 16 refine Agr.lk rfl ?_); exact Agr.lk rfl (Agr.hav rfl Agr.rfl')), ?_⟩
          refine ⟨⟨by omega, fun j hj => ?_, he.trans hq⟩, by omega⟩
          rcases Nat.lt_or_ge j i with h | h
          · exact hP j h
          · obtain rfl : j = i := by omega
            exact decide_eq_true hd
      · rw [show eqI a b = true from eqL_yes (by omega) (fun j hj => hP j (by omega))]
        refine J.exit ?_
        refine J.seq ?_
        refine J.region ?_
        refine L.va rfl (X.assign (by conv => lhs; whnf)) ?_
        refine L.nil ?_
        refine J.ret ?_
        refine fin1 ?_
        exact ⟨rfl, he⟩
def eqV (a b : List Vl) : Bool := eqL Vl.same Vl.z a b
def wfV (l : List Vl) : Prop := ∀ v ∈ l, v.x < 18446744073709551616
structure Rw where
  (Ac : Option Addr) (nc cc : Nat) (c : List Int) (Av : Option Addr) (nv cv : Nat) (v : List Vl)
namespace Rw
abbrev vs (r : Rw) : List Value := [.slice r.Ac r.nc r.cc, .slice r.Av r.nv r.cv]
structure At (r : Rw) (N : Nat) (w : World) : Prop where
  hc : Reads w N 1 r.Ac r.nc (nums .i64 r.c)
  hv : Reads w N 3 r.Av r.nv (r.v.flatMap Vl.vs)
  hw : wfV r.v
  lv : r.v.length = r.nv
  n1 : r.nc ≤ maxLen
  n2 : r.nv ≤ maxLen
theorem At.ext {r : Rw} {N : Nat} {w w' : World} (h : r.At N w) (he : Ext w w') : r.At N w' := ⟨h.hc.ext he, h.hv.ext he, h.hw, h.lv, h.n1, h.n2⟩
theorem At.more {r : Rw} {N N' : Nat} {w : World} (h : r.At N w) (hN : N ≤ N') : r.At N' w := ⟨h.hc.more hN, h.hv.more hN, h.hw, h.lv, h.n1, h.n2⟩
def same (a b : Rw) : Bool := eqI a.c b.c && eqV a.v b.v
end Rw
end Go.Proofs.Ytjegcohpmmbchaa
namespace Go.Proofs.Ytjegcohpmmbchaa
set_option maxRecDepth 100000
open Go.RowKit H
open Mk Clo Srt
set_option linter.unusedVariables false
theorem strict_of {o : List Int} (h : In o 0 o.length) (hd : o.Nodup) : o.Pairwise (· < ·) := by
  rw [List.pairwise_iff_getElem]
  intro i j hi hj hij
  have h1 := h i j (Nat.zero_le _) hij hj
  rw [List.getD, List.getD, List.getElem?_eq_getElem hi, List.getElem?_eq_getElem hj] at h1
  have h2 := List.pairwise_iff_getElem.1 (List.nodup_iff_pairwise_ne.1 hd) i j hi hj hij
  have h3 : o[i] ≤ o[j] := h1
  omega
theorem cm_nil (z : Nat) : ¬ Cm [] z := fun h => by obtain ⟨⟨s, hs, _⟩, _⟩ := h; cases hs
theorem cm36 (z : Nat) : Cm [3, 6] z ↔ z = 2 ∨ z = 3 ∨ z = 6 := by
  have h3 : ∀ y, Cm [3] y ↔ y = 3 := fun y => by
    have := Cm.snoc (l := []) (x := 3) (z := y) (by decide)
    rw [show ([] : List Nat) ++ [3] = [3] from rfl] at this
    rw [this]
    constructor
    · rintro (h | ⟨x, rfl | h, e⟩)
      · exact absurd h (cm_nil _)
      · exact e
      · exact absurd h (cm_nil _)
    · rintro rfl
      exact .inr ⟨3, .inl rfl, rfl⟩
  have := Cm.snoc (l := [3]) (x := 6) (z := z) (by decide)
  rw [show [3] ++ [6] = [3, 6] from rfl] at this
  rw [this, h3]
  constructor
  · rintro (h | ⟨x, rfl | h, e⟩)
    · exact .inr (.inl h)
    · exact .inr (.inr e)
    · rw [h3] at h
      subst h
      exact .inl e
  · rintro (rfl | rfl | rfl)
    · exact .inr ⟨3, .inr ((h3 3).2 rfl), rfl⟩
    · exact .inl rfl
    · exact .inr ⟨6, .inl rfl, rfl⟩
theorem closed36 {o : List Int} (h : o.Pairwise (· < ·)) (hm : ∀ z : Int, z ∈ o ↔ ∃ y : Nat, z = (y : Int) ∧ Cm [3, 6] y) : o = [2, 3, 6] := by
  refine ssort_eq o [2, 3, 6] h (by decide) fun z => ?_
  rw [hm]
  constructor
  · rintro ⟨y, rfl, hy⟩
    rcases (cm36 y).1 hy with rfl | rfl | rfl <;> simp
  · intro hz
    simp only [List.mem_cons, List.not_mem_nil, or_false] at hz
    rcases hz with rfl | rfl | rfl
    · exact ⟨2, rfl, (cm36 2).2 (by omega)⟩
    · exact ⟨3, rfl, (cm36 3).2 (by omega)⟩
    · exact ⟨6, rfl, (cm36 6).2 (by omega)⟩
theorem cov17 : MinAt (fun i => sb 1 ([7, 3, 5].getD i 0)) (fun i => ([9, 4, 2] : List Int).getD i 0) 0 3 2 := by
  refine .inr ⟨2, rfl, by decide, by decide, by decide, fun i h1 h2 h3 => ?_⟩
  rcases (by omega : i = 0 ∨ i = 1 ∨ i = 2) with rfl | rfl | rfl <;> decide
theorem steps17 {o : List Int} (hl : o.length = 3) (h : ∀ i, i < 3 → MinAt (okS [7, 3, 5] i) (fun i => ([9, 4, 2] : List Int).getD i 0) 0 3 (o.getD i 0)) : o = [-1, 0, 0] := by
  have h0 : MinAt (okS [7, 3, 5] 0) (fun i => ([9, 4, 2] : List Int).getD i 0) 0 3 (-1) := .inl ⟨rfl, fun i h1 h2 => by
    rcases (by omega : i = 0 ∨ i = 1 ∨ i = 2) with rfl | rfl | rfl <;> decide⟩
  have h1 : MinAt (okS [7, 3, 5] 1) (fun i => ([9, 4, 2] : List Int).getD i 0) 0 3 0 := .inr ⟨0, rfl, by decide, by decide, by decide, fun i h1 h2 h3 => by
    rcases (by omega : i = 0 ∨ i = 1 ∨ i = 2) with rfl | rfl | rfl
    · decide
    · exact absurd h3 (by decide)
    · exact absurd h3 (by decide)⟩
  have h2 : MinAt (okS [7, 3, 5] 2) (fun i => ([9, 4, 2] : List Int).getD i 0) 0 3 0 := .inr ⟨0, rfl, by decide, by decide, by decide, fun i h1 h2 h3 => by
    rcases (by omega : i = 0 ∨ i = 1 ∨ i = 2) with rfl | rfl | rfl
    · decide
    · exact absurd h3 (by decide)
    · exact absurd h3 (by decide)⟩
  have e0 := (h 0 (by decide)).one h0
  have e1 := (h 1 (by decide)).one h1
  have e2 := (h 2 (by decide)).one h2
  match o, hl with
  | [a, b, c], _ =>
    have f0 : a = -1 := e0
    have f1 : b = 0 := e1
    have f2 : c = 0 := e2
    rw [f0, f1, f2]
theorem close_few (A : Option Addr) (n c : Nat) (l : List Nat) (w : World) (hr : Reads w w.heap.size 1 A n (nums .u32 (zl l))) (hl : ∀ x ∈ l, x < 4294967296) (h12 : l.length ≤ 12) :
    Calls Try.prog 8 #[.slice A n c] w fun e w' => ∃ (A : Option Addr) (c : Nat) (o : List Int), e = .returned (.tuple #[.slice A o.length c, .int .i64 0]) ∧ w'.ownsRow w.heap.size 30 1 (.slice A o.length c) o.length (nums .u32 o) ∧ o.Pairwise (· < ·) ∧ o.length ≤ 4096 ∧ (∀ z : Int, z ∈ o ↔ ∃ y : Nat, z = (y : Int) ∧ Cm l y) ∧ Ext w w' :=
  (close_any A n c l w hr hl).mono fun e w' hC => by
    rcases hC with ⟨h, _⟩ | ⟨_, A2, q2, c2, o2, rfl, ho2, hd2, hI2, hq, hm2, he2⟩
    · omega
    · have hq2 : o2.length = q2 := by have := ho2.1; simpa [nums] using this
      subst hq2
      exact ⟨A2, c2, o2, rfl, ho2, strict_of hI2 hd2, hq, hm2, he2⟩
theorem awake17 (w : World) : Calls Try.prog 4 #[] w fun e w' => e = .returned (.bool true) ∧ Ext w w' := by
  refine enter Try.func4 rfl (by kernel_rfl) ?_
  refine J.seq ?_
  refine J.region ?_
  refine L.va rfl (X.assign (by conv => lhs; whnf)) ?_
  refine L.nil ?_
  refine J.seq ?_
  refine J.region ?_
  refine L.bslice (vs := [_, _]) rfl (Evs.cons (by conv => lhs; whnf) (Evs.cons (by conv => lhs; whnf) Evs.nil)) rfl rfl rfl rfl Try.underlying22 sz_30 zr_30 (by decide) ?_
  intro b1 w1 hb1 hs1 hk1 he1
  have r1 : Reads w1 w1.heap.size 1 (some ⟨b1, 0, none⟩) 2 (nums .u32 (zl [3, 6])) := blk_readsN (sz := 1) (q := 2) (l := nums .u32 [3, 6]) hk1 hk1.lt rfl
  refine L.call rfl en_8 rfl (close_few (some ⟨b1, 0, none⟩) 2 2 [3, 6] w1 r1 (by decide) (by decide)) ?_
  rintro e w2 ⟨A2, c2, o2, rfl, ho2, hp2, _, hm2, he2⟩
  refine ⟨_, rfl, ?_⟩
  obtain rfl := closed36 hp2 hm2
  have he02 := he1.trans he2
  refine L.va rfl (X.move (by conv => lhs; whnf)) ?_
  refine L.va rfl (X.extract rfl rfl) ?_
  refine L.va rfl (X.extract rfl rfl) ?_
  refine L.va rfl (X.assign (by conv => lhs; whnf)) ?_
  refine L.va rfl (X.assign (by conv => lhs; whnf)) ?_
  refine L.nil ?_
  refine J.seq ?_
  refine J.region ?_
  refine L.bslice (vs := [_, _, _]) rfl (Evs.cons (by conv => lhs; whnf) (Evs.cons (by conv => lhs; whnf) (Evs.cons (by conv => lhs; whnf) Evs.nil))) rfl rfl rfl rfl Try.underlying22 sz_30 zr_30 (by decide) ?_
  intro b3 w3 hb3 hs3 hk3 he3
  refine L.va rfl (X.assign (by conv => lhs; whnf)) ?_
  refine L.nil ?_
  refine J.seq ?_
  refine J.region ?_
  refine L.bslice (vs := [_, _, _]) rfl (Evs.cons (by conv => lhs; whnf) (Evs.cons (by conv => lhs; whnf) (Evs.cons (by conv => lhs; whnf) Evs.nil))) rfl rfl rfl rfl Try.underlying31 sz_3 zr_3 (by decide) ?_
  intro b4 w4 hb4 hs4 hk4 he4
  have ho4 := (ho2.ext he3).ext he4
  have hk34 := hk3.ext he4
  have he04 := (he02.trans he3).trans he4
  refine L.va rfl (X.assign (by conv => lhs; whnf)) ?_
  refine L.nil ?_
  refine J.seq ?_
  refine J.region ?_
  refine L.va rfl (X.move (by conv => lhs; whnf)) ?_
  refine L.va rfl (X.eql rfl rfl) ?_
  refine L.va rfl (X.move (by conv => lhs; whnf)) ?_
  refine L.caseDecT (k := 14) rfl (by rfl) ?_
  refine L.va rfl (X.move (by conv => lhs; whnf)) ?_
  refine L.bslice (vs := [_, _, _]) rfl (Evs.cons (by conv => lhs; whnf) (Evs.cons (by conv => lhs; whnf) (Evs.cons (by conv => lhs; whnf) Evs.nil))) rfl rfl rfl rfl Try.underlying22 sz_30 zr_30 (by decide) ?_
  intro b5 w5 hb5 hs5 hk5 he5
  refine L.call rfl en_5 rfl (rmasks_same A2 (some ⟨b5, 0, none⟩) 3 c2 3 [2, 3, 6] w5 (Reads.of_own (ho4.ext he5)) (blk_readsN (sz := 1) (q := 3) (l := nums .u32 [2, 3, 6]) hk5 hk5.lt rfl) (by decide)) ?_
  rintro e w6 ⟨rfl, he6⟩
  refine ⟨_, rfl, ?_⟩
  have hk36 := hk34.ext (he5.trans he6)
  have hk46 := hk4.ext (he5.trans he6)
  have rv : Reads w6 w6.heap.size 1 (some ⟨b3, 0, none⟩) 3 (nums .u32 (zl [7, 3, 5])) := blk_readsN (sz := 1) (q := 3) (l := nums .u32 [7, 3, 5]) hk36 hk36.lt rfl
  have rs : Reads w6 w6.heap.size 1 (some ⟨b4, 0, none⟩) 3 (nums .i64 [9, 4, 2]) := blk_readsN (sz := 1) (q := 3) (l := nums .i64 [9, 4, 2]) hk46 hk46.lt rfl
  refine L.va rfl (X.pickT rfl (by conv => lhs; whnf)) ?_
  refine L.va rfl (X.move (by conv => lhs; whnf)) ?_
  refine L.caseBT (k := 19) rfl (by rfl) ?_
  refine L.va rfl (X.move (by conv => lhs; whnf)) ?_
  refine L.va rfl (X.move (by conv => lhs; whnf)) ?_
  refine L.call rfl en_9 rfl (lcover (some ⟨b3, 0, none⟩) 3 3 [7, 3, 5] (some ⟨b4, 0, none⟩) 3 3 [9, 4, 2] 1 w6 rv rs (by decide) (by decide) (by decide)) ?_
  rintro e _ ⟨a, rfl, hM, rfl⟩
  refine ⟨_, rfl, ?_⟩
  obtain rfl := hM.one cov17
  refine L.va rfl (X.eql rfl rfl) ?_
  refine L.va rfl (X.pickT rfl (by conv => lhs; whnf)) ?_
  refine L.va rfl (X.move (by conv => lhs; whnf)) ?_
  refine L.caseDecT (k := 25) rfl (by rfl) ?_
  refine L.va rfl (X.move (by conv => lhs; whnf)) ?_
  refine L.va rfl (X.move (by conv => lhs; whnf)) ?_
  refine L.call rfl en_11 rfl (lsteps (some ⟨b3, 0, none⟩) 3 3 [7, 3, 5] (some ⟨b4, 0, none⟩) 3 3 [9, 4, 2] w6 rv rs (by decide) (by decide)) ?_
  rintro e w7 ⟨A7, c7, o7, rfl, ho7, hS7, he7⟩
  refine ⟨_, rfl, ?_⟩
  obtain rfl := steps17 (by have := ho7.1; simpa [nums] using this) hS7
  refine L.bslice (vs := [_, _, _]) rfl (Evs.cons (by conv => lhs; whnf) (Evs.cons (by conv => lhs; whnf) (Evs.cons (by conv => lhs; whnf) Evs.nil))) rfl rfl rfl rfl Try.underlying31 sz_3 zr_3 (by decide) ?_
  intro b8 w8 hb8 hs8 hk8 he8
  refine L.call rfl en_10 rfl (ints16 _ _ _ _ _ _ _ [-1, 0, 0] w8 (Reads.of_own (ho7.ext he8)) (blk_readsN (sz := 1) (q := 3) (l := nums .i64 [-1, 0, 0]) hk8 hk8.lt rfl) (by unfold maxLen; omega) (by unfold maxLen; omega)) ?_
  rintro e w9 ⟨rfl, he9⟩
  refine ⟨_, rfl, ?_⟩
  rw [eqI_self]
  refine L.va rfl (X.pickT rfl (by conv => lhs; whnf)) ?_
  refine L.va rfl (X.assign (by conv => lhs; whnf)) ?_
  refine L.nil ?_
  refine J.ret ?_
  refine fin1 ?_
  exact ⟨rfl, ((((he04.trans he5).trans he6).trans he7).trans he8).trans he9⟩
end Go.Proofs.Ytjegcohpmmbchaa
namespace Go.Proofs.Ytjegcohpmmbchaa
set_option maxRecDepth 100000
open Go.RowKit H
open Srt Mk Ors
open Nrm (Up Dd)
set_option linter.unusedVariables false
theorem drop_getDo (m : List Int) (i j : Nat) : (m.drop i).getD j 0 = m.getD (i + j) 0 := by rw [List.getD, List.getD, List.getElem?_drop]
theorem cloneU (A : Option Addr) (n c : Nat) (l : List Int) (w : World) (hr : Reads w w.heap.size 1 A n (nums .u32 l)) (hn : n ≤ 5000) : Calls Try.prog 12 #[.slice A n c] w fun e w' => ∃ A' c', e = .returned (.slice A' n c') ∧ w'.ownsRow w.heap.size 30 1 (.slice A' n c') n (nums .u32 l) ∧ Ext w w' := by
  have hl : l.length = n := by have := hr.1; simpa [nums] using this
  refine enter Try.func12 rfl (by kernel_rfl) ?_
  refine J.seq ?_
  refine J.region ?_
  refine L.va rfl (X.assign (by conv => lhs; whnf)) ?_
  refine L.nil ?_
  refine J.seq ?_
  refine J.seq ?_
  refine J.region ?_
  refine L.va rfl (X.move (by conv => lhs; whnf)) ?_
  refine L.va rfl (X.eqlNil rfl rfl Try.underlying22) ?_
  refine L.nil ?_
  rcases A with _ | a
  · obtain rfl : n = 0 := by
      apply Decidable.byContradiction
      intro h
      exact hr.some_ (by omega) rfl
    obtain rfl : l = [] := List.length_eq_zero_iff.1 hl
    refine J.iteT rfl ?_
    refine J.seq ?_
    refine J.region ?_
    refine L.va rfl (X.assign (by conv => lhs; whnf)) ?_
    refine L.nil ?_
    refine J.ret ?_
    refine thn_ret <| ?_
    refine fin1 ?_
    exact ⟨none, 0, rfl, own_nil _ _ _ _, Ext.refl _⟩
  · refine J.iteF rfl ?_
    refine J.skip ?_
    refine J.seq ?_
    refine J.region ?_
    refine L.bslice (vs := []) rfl Evs.nil rfl rfl rfl rfl Try.underlying22 sz_30 zr_30 (by decide) ?_
    intro b1 w1 hb1 hs1 hk1 he1
    have ho1 : w1.ownsRow w.heap.size 30 1 (.slice (some ⟨b1, 0, none⟩) 0 0) 0 (nums .u32 []) := blk_own1 (q := 0) (l := []) hk1 (by omega) (Nat.zero_le _) rfl
    have z1 := he1.le
    refine L.va rfl (X.move (by conv => lhs; whnf)) ?_
    refine L.appendQ (q := n) (ys := l) rfl rfl rfl Try.underlying22 el_30 (ho1) (hr.ext he1) (by omega) (by simp) (by unfold maxLen; omega) (by omega) ?_
    intro A2 c2 w2 ho2 hg2 hb2 hor2
    refine L.va rfl (X.assign (by conv => lhs; whnf)) ?_
    refine L.nil ?_
    refine J.ret ?_
    refine fin1 ?_
    exact ⟨A2, c2, rfl, ho2, he1.grw hg2 (by intro g hg; injection hg with hg; subst hg; show w.heap.size ≤ b1; omega)⟩
theorem compactO (A : Option Addr) (n c N : Nat) (l : List Int) (w : World) (ho : w.ownsRow N 30 1 (.slice A n c) n (nums .u32 l)) (hf : Fit l) (hs : ∀ j, j + 1 < n → kO (l.getD j 0) ≤ kO (l.getD (j + 1) 0)) (hn : n ≤ 900000) :
    Calls Try.prog 16 #[.slice A n c] w fun e w' => ∃ k y, e = .returned (.slice A k c) ∧ w'.ownsRow N 30 1 (.slice A k c) k (nums .u32 y) ∧ w.grownBy w' (Value.ownBlock (.slice A n c)) ∧ Up (y.map kO) ∧ (∀ x, x ∈ y ↔ x ∈ l) := by
  have hl : l.length = n := by have := ho.1; simpa [nums] using this
  have hnc := (own_bd ho).1
  have hcm := (own_bd ho).2
  unfold maxLen at hcm
  refine enter Try.func16 rfl (by kernel_rfl) ?_
  refine J.seq ?_
  refine J.region ?_
  refine L.va rfl (X.assign (by conv => lhs; whnf)) ?_
  refine L.nil ?_
  refine J.seq ?_
  refine J.seq ?_
  refine J.region ?_
  refine L.va rfl (X.move (by conv => lhs; whnf)) ?_
  refine L.va rfl (X.len rfl Try.underlying22) ?_
  refine L.va rfl (X.lss rfl rfl) ?_
  refine L.nil ?_
  refine J.dec rfl (fun h2 => ?_) (fun h2 => ?_)
  · refine J.seq ?_
    refine J.region ?_
    refine L.va rfl (X.move (by conv => lhs; whnf)) ?_
    refine L.va rfl (X.assign (by conv => lhs; whnf)) ?_
    refine L.nil ?_
    refine J.ret ?_
    refine thn_ret <| ?_
    refine fin1 ?_
    refine ⟨n, l, rfl, ho, grown_ext (Ext.refl _), ?_, fun x => Iff.rfl⟩
    match l, hl with
    | [], _ => exact List.Pairwise.nil
    | [a], _ => exact List.pairwise_singleton _ _
    | a :: b :: t, hl => simp only [List.length_cons] at hl; omega
  · refine J.skip ?_
    refine J.seq ?_
    refine J.seq ?_
    refine J.region ?_
    refine L.va rfl (X.assign (by conv => lhs; whnf)) ?_
    refine L.nil ?_
    refine J.block ?_
    refine J.loop (X := Nat) [2, 3, 4, 5, 10, 11, 12, 13, 14, 15, 16, 17, 18, 19, 20, 21, 22, 23, 24, 25, 26, 27, 28, 29, 30, 31, 32, 33, 34, 35, 36, 37, 38, 39, 40, 41, 42, 43, 44, 45, 46, 47, 48, 49, 50, 51, 52, 53, 54, 55, 56, 57, 58, 59] (fun i => [(3, .int .i64 (i : Int))]) (fun i w' => 1 ≤ i ∧ i ≤ n ∧ Du l i (l.take i) ∧ Ext w w') (fun i => n - i) (1) (At1 (by first | rfl | exact at_int rfl (by omega) | exact at_slice rfl (by omega) | exact at_int rfl (by simp))) ?_ ?_
    · exact ⟨Nat.le_refl _, by omega, Du.one (by omega), Ext.refl _⟩
    · rintro i g w2 ⟨h1, hi, hD, he⟩
      have ho2 := ho.ext he
      have hr := Reads.of_own ho2
      have hA := hr.some_ (by omega)
      refine J.seq ?_
      refine J.seq ?_
      refine J.region ?_
      refine L.va rfl (X.move (by conv => lhs; whnf)) ?_
      refine L.va rfl (X.move (by conv => lhs; whnf)) ?_
      refine L.va rfl (X.len rfl Try.underlying22) ?_
      refine L.va rfl (X.lss rfl rfl) ?_
      refine L.nil ?_
      refine J.dec rfl (fun hlt => ?_) (fun hlt => ?_)
      · refine J.skip ?_
        refine J.seq ?_
        refine J.block ?_
        refine J.seq ?_
        refine J.quiet mixed (by kernel_rfl) ?_
        refine Qt.va rfl (fun w' hw => X.move (by conv => lhs; whnf)) ?_
        refine Qt.va rfl (fun w' hw => X.move (by conv => lhs; whnf)) ?_
        refine Qt.va rfl (fun w' hw => (by first | exact X.index1n rfl rfl Try.underlying22 sz_30 (by first | exact Option.some_ne_none _ | exact hr.some_ (by omega) | exact hA) (by omega) | exact X.index1 rfl rfl Try.underlying22 sz_30 (by first | exact Option.some_ne_none _ | exact hr.some_ (by omega) | exact hA) (by omega))) ?_
        refine Qt.va rfl (fun w' hw => X.load rfl sc_30 (by first | exact Ld.num (hr.ext hw) (by omega) | exact hA)) ?_
        refine Qt.va rfl (fun w' hw => X.move (by conv => lhs; whnf)) ?_
        refine Qt.va rfl (fun w' hw => X.move (by conv => lhs; whnf)) ?_
        refine Qt.va rfl (fun w' hw => X.sub rfl rfl (by omega)) ?_
        refine Qt.va rfl (fun w' hw => X.index1eU (j := i - 1) rfl rfl (by omega) Try.underlying22 sz_30 hA (by omega)) ?_
        refine Qt.va rfl (fun w' hw => X.load rfl sc_30 (by first | exact Ld.num (hr.ext hw) (by omega) | exact hA)) ?_
        refine Qt.va rfl (fun w' hw => X.eql rfl rfl) ?_
        refine Qt.nil (fun w3 hq => ?_)
        replace hr := hr.ext hq
        refine J.dec rfl (fun hd => ?_) (fun hd => ?_)
        · have hD1 := hD.same h1 (by omega) hd
          have ho3 := ho2.ext hq
          refine J.seq ?_
          refine J.region ?_
          refine L.va rfl (X.move (by conv => lhs; whnf)) ?_
          refine L.va rfl (X.move (by conv => lhs; whnf)) ?_
          refine L.va rfl ((by first | exact X.sliceFromn rfl rfl Try.underlying22 sz_30 (by omega) | exact X.sliceFrom rfl rfl Try.underlying22 sz_30 (by omega))) ?_
          refine L.va rfl (X.assign (by conv => lhs; whnf)) ?_
          refine L.nil ?_
          refine J.seq ?_
          refine J.seq ?_
          refine J.region ?_
          refine L.va rfl (X.assign (by conv => lhs; whnf)) ?_
          refine L.nil ?_
          refine J.block ?_
          refine J.loop (X := Nat × Nat × List Int) [3, 5, 29, 30, 31, 32, 33, 34, 35, 36, 37, 38, 39, 40, 41, 42, 43, 44, 45, 46, 47, 48, 49, 50, 51, 52, 53] (fun (k, q, m) => [(3, .int .i64 (k : Int)), (5, .int .i64 (q : Int))]) (fun (k, q, m) w' => 1 ≤ k ∧ k < i + q ∧ 1 ≤ q ∧ i + q ≤ n ∧ w'.ownsRow N 30 1 (.slice A n c) n (nums .u32 m) ∧ w.grownBy w' (Value.ownBlock (.slice A n c)) ∧ m.length = n ∧ Du l (i + q) (m.take k) ∧ (∀ j, i + q - 1 ≤ j → m.getD j 0 = l.getD j 0)) (fun (_, q, _) => n - (i + q)) ((i, 1, l)) (At2 (by first | rfl | exact at_int rfl (by omega) | exact at_slice rfl (by omega) | exact at_int rfl (by simp)) (by first | rfl | exact at_int rfl (by omega) | exact at_slice rfl (by omega) | exact at_int rfl (by simp))) ?_ ?_
          · exact ⟨h1, Nat.lt_succ_self _, Nat.le_refl _, by omega, ho3, grown_ext (he.trans hq), hl, hD1, fun j _ => rfl⟩
          · rintro ⟨k, q, m⟩ g w4 ⟨k1, k2, k3, k4, ho4, hg4, hml, hDp, hsame⟩
            have hr4 := Reads.of_own ho4
            have hr5 := part_nums hr4 (i := i) (j := n) (by omega) (Nat.le_refl _) hnc
            rw [List.take_of_length_le (by rw [List.length_drop]; omega)] at hr5
            have hA5 : (if c = i then A else A.map (·.add (i * 1))) ≠ none := by
              rw [if_neg (by omega)]
              cases A with
              | none => exact absurd rfl hA
              | some a => exact fun h => by cases h
            refine J.seq ?_
            refine J.seq ?_
            refine J.region ?_
            refine L.va rfl (X.move (by conv => lhs; whnf)) ?_
            refine L.va rfl (X.move (by conv => lhs; whnf)) ?_
            refine L.va rfl (X.len rfl Try.underlying22) ?_
            refine L.va rfl (X.lss rfl rfl) ?_
            refine L.nil ?_
            refine J.dec rfl (fun hlt2 => ?_) (fun hlt2 => ?_)
            · have hlt2 : i + q < n := by omega
              refine J.skip ?_
              refine J.seq ?_
              refine J.block ?_
              refine J.seq ?_
              refine J.quiet mixed (by kernel_rfl) ?_
              refine Qt.va rfl (fun w' hw => X.move (by conv => lhs; whnf)) ?_
              refine Qt.va rfl (fun w' hw => X.move (by conv => lhs; whnf)) ?_
              refine Qt.va rfl (fun w' hw => (by first | exact X.index1n rfl rfl Try.underlying22 sz_30 (by first | exact Option.some_ne_none _ | exact hr5.some_ (by omega) | exact hA5) (by omega) | exact X.index1 rfl rfl Try.underlying22 sz_30 (by first | exact Option.some_ne_none _ | exact hr5.some_ (by omega) | exact hA5) (by omega))) ?_
              refine Qt.va rfl (fun w' hw => X.load rfl sc_30 (by first | exact Ld.num (hr5.ext hw) (by omega) | exact hA5)) ?_
              refine Qt.va rfl (fun w' hw => X.move (by conv => lhs; whnf)) ?_
              refine Qt.va rfl (fun w' hw => X.move (by conv => lhs; whnf)) ?_
              refine Qt.va rfl (fun w' hw => X.sub rfl rfl (by omega)) ?_
              refine Qt.va rfl (fun w' hw => X.index1eU (j := q - 1) rfl rfl (by omega) Try.underlying22 sz_30 hA5 (by omega)) ?_
              refine Qt.va rfl (fun w' hw => X.load rfl sc_30 (by first | exact Ld.num (hr5.ext hw) (by omega) | exact hA5)) ?_
              refine Qt.va rfl (fun w' hw => X.neq rfl rfl) ?_
              refine Qt.nil (fun w5 hq5 => ?_)
              replace hr5 := hr5.ext hq5
              rw [drop_getDo, drop_getDo, show i + (q - 1) = i + q - 1 by omega, hsame _ (by omega), hsame _ (Nat.le_refl _)]
              have hs5 := hs (i + q - 1) (by omega)
              rw [show i + q - 1 + 1 = i + q by omega] at hs5
              have ho5 := ho4.ext hq5
              refine J.ndec rfl (fun hne => ?_) (fun hne => ?_)
              · skip
                refine J.seq ?_
                refine J.region ?_
                refine L.va rfl (X.move (by conv => lhs; whnf)) ?_
                refine L.va rfl (X.move (by conv => lhs; whnf)) ?_
                refine L.va rfl (X.move (by conv => lhs; whnf)) ?_
                refine L.va rfl (X.move (by conv => lhs; whnf)) ?_
                refine L.va rfl ((by first | exact X.index1n rfl rfl Try.underlying22 sz_30 (by first | exact Option.some_ne_none _ | exact hr5.some_ (by omega) | exact hA5) (by omega) | exact X.index1 rfl rfl Try.underlying22 sz_30 (by first | exact Option.some_ne_none _ | exact hr5.some_ (by omega) | exact hA5) (by omega))) ?_
                refine L.va rfl (X.load rfl sc_30 (by first | exact Ld.num hr5 (by omega) | exact hA5)) ?_
                refine L.va rfl (X.index1n rfl rfl Try.underlying22 sz_30 hA (by omega)) ?_
                refine L.storeON rfl rfl (by conv => lhs; whnf) sz_30 (ho5) (by omega) ?_
                intro w6 ho6 hg6 hb6 hs6
                rw [drop_getDo, hsame _ (by omega)] at ho6
                refine L.nil ?_
                refine J.region ?_
                refine L.va rfl (X.move (by conv => lhs; whnf)) ?_
                refine L.va rfl (X.add rfl rfl (by omega)) ?_
                refine L.va rfl (X.assign (by conv => lhs; whnf)) ?_
                refine L.nil ?_
                refine J.region ?_
                refine L.va rfl (X.move (by conv => lhs; whnf)) ?_
                refine L.va rfl (X.add rfl rfl (by omega)) ?_
                refine L.va rfl (X.assign (by conv => lhs; whnf)) ?_
                refine L.nil ?_
                refine ⟨(k + 1, q + 1, m.set k (l.getD (i + q) 0)), At2 (by first | rfl | exact at_int rfl (by omega) | exact at_slice rfl (by omega) | exact at_int rfl (by simp)) (by first | rfl | exact at_int rfl (by omega) | exact at_slice rfl (by omega) | exact at_int rfl (by simp)), (by (iterate 27 refine Agr.lk rfl ?_); exact Agr.lk rfl (Agr.hav rfl Agr.rfl')), ?_⟩
                refine ⟨⟨by omega, by omega, by omega, by omega, ho6, grb_trans hg4 (grb_trans (grown_ext hq5) hg6), by rw [List.length_set]; exact hml, ?_, fun j hj => ?_⟩, by show n - (i + (q + 1)) < n - (i + q); omega⟩
                · have e : (m.set k (l.getD (i + q) 0)).take (k + 1) = m.take k ++ [l.getD (i + q) 0] := by
                    rw [Nrm.take_next _ 0 (by rw [List.length_set]; omega), List.take_set_of_le (Nat.le_refl _)]
                    congr 2
                    rw [List.getD, List.getElem?_set_self (by omega)]
                    rfl
                  rw [e]
                  exact hDp.new hf (by omega) (by omega) hne hs5
                · have : k ≠ j := by omega
                  rw [List.getD, List.getElem?_set_ne this]
                  exact hsame j (by omega)
              · skip
                refine J.skip ?_
                refine J.region ?_
                refine L.va rfl (X.move (by conv => lhs; whnf)) ?_
                refine L.va rfl (X.add rfl rfl (by omega)) ?_
                refine L.va rfl (X.assign (by conv => lhs; whnf)) ?_
                refine L.nil ?_
                refine ⟨(k, q + 1, m), At2 (by first | rfl | exact at_int rfl (by omega) | exact at_slice rfl (by omega) | exact at_int rfl (by simp)) (by first | rfl | exact at_int rfl (by omega) | exact at_slice rfl (by omega) | exact at_int rfl (by simp)), (by (iterate 17 refine Agr.lk rfl ?_); exact Agr.lk rfl (Agr.hav rfl Agr.rfl')), ?_⟩
                refine ⟨⟨by omega, by omega, by omega, by omega, ho5, grb_trans hg4 (grown_ext hq5), hml, hDp.same (by omega) (by omega) hne, fun j hj => hsame j (by omega)⟩, by show n - (i + (q + 1)) < n - (i + q); omega⟩
            · refine J.exit ?_
              refine J.seq ?_
              refine J.region ?_
              refine L.va rfl (X.move (by conv => lhs; whnf)) ?_
              refine L.va rfl (X.move (by conv => lhs; whnf)) ?_
              refine L.va rfl ((by first | exact X.sliceFromn rfl rfl Try.underlying22 sz_30 (by omega) | exact X.sliceFrom rfl rfl Try.underlying22 sz_30 (by omega))) ?_
              refine L.clear (z := .int .u32 0) rfl rfl Try.underlying22 (by kernel_rfl) rfl rfl ho4 (show k < n by omega) ?_
              intro w5 ho5 hg5
              refine L.nil ?_
              refine J.seq ?_
              refine J.region ?_
              refine L.va rfl (X.move (by conv => lhs; whnf)) ?_
              refine L.va rfl (X.move (by conv => lhs; whnf)) ?_
              refine L.va rfl ((by first | exact X.sliceTon rfl rfl Try.underlying22 sz_30 (by omega) | exact X.sliceTo rfl rfl Try.underlying22 sz_30 (by omega))) ?_
              refine L.va rfl (X.assign (by conv => lhs; whnf)) ?_
              refine L.nil ?_
              refine J.ret ?_
              refine inB_ret <|  thn_ret <|  thn_ret <|  inB_ret <|  thn_ret <| ?_
              refine fin1 ?_
              refine ⟨k, m.take k, rfl, ho5, grb_trans hg4 hg5, hDp.up, fun x => hDp.mems hf (by omega) x⟩
        · skip
          refine J.skip ?_
          refine J.region ?_
          refine L.va rfl (X.move (by conv => lhs; whnf)) ?_
          refine L.va rfl (X.add rfl rfl (by omega)) ?_
          refine L.va rfl (X.assign (by conv => lhs; whnf)) ?_
          refine L.nil ?_
          refine ⟨i + 1, At1 (by first | rfl | exact at_int rfl (by omega) | exact at_slice rfl (by omega) | exact at_int rfl (by simp)), (by (iterate 17 refine Agr.lk rfl ?_); exact Agr.lk rfl (Agr.hav rfl Agr.rfl')), ?_⟩
          refine ⟨⟨by omega, by omega, ?_, he.trans hq⟩, by omega⟩
          rw [Nrm.take_next l 0 (by omega)]
          have hs5 := hs (i - 1) (by omega)
          rw [show i - 1 + 1 = i by omega] at hs5
          exact hD.new hf (by omega) (by omega) hd hs5
      · refine J.exit ?_
        refine J.seq ?_
        refine J.region ?_
        refine L.va rfl (X.move (by conv => lhs; whnf)) ?_
        refine L.va rfl (X.assign (by conv => lhs; whnf)) ?_
        refine L.nil ?_
        refine J.ret ?_
        refine fin1 ?_
        obtain rfl : i = n := by omega
        rw [← hl, List.take_length, hl] at hD
        exact ⟨i, l, rfl, ho2, grown_ext he, hD.up, fun x => Iff.rfl⟩
end Go.Proofs.Ytjegcohpmmbchaa
namespace Go.Proofs.Ytjegcohpmmbchaa
set_option maxRecDepth 100000
open Go.RowKit H
open Srt Mk Ors
open Nrm (Up)
set_option linter.unusedVariables false
theorem rhas17 (A : Option Addr) (n c : Nat) (l : List Int) (x : Int) (w : World) (hr : Reads w w.heap.size 1 A n (nums .u32 l)) (hn : n ≤ maxLen) : Calls Try.prog 25 #[.slice A n c, .int .u32 x] w fun e w' => e = .returned (.bool (l.contains x)) ∧ w = w' := by
  have hl : l.length = n := by have := hr.1; simpa [nums] using this
  unfold maxLen at hn
  refine enter Try.func25 rfl (by kernel_rfl) ?_
  refine J.seq ?_
  refine J.region ?_
  refine L.va rfl (X.assign (by conv => lhs; whnf)) ?_
  refine L.nil ?_
  refine J.seq ?_
  refine J.seq ?_
  refine J.region ?_
  refine L.va rfl (X.assign (by conv => lhs; whnf)) ?_
  refine L.nil ?_
  refine J.block ?_
  refine J.loop (X := Nat) [4, 5, 6, 7, 8, 9, 10, 11, 12, 13, 14, 15, 16, 17] (fun i => [(5, .int .i64 (i : Int))]) (fun i w' => i ≤ n ∧ (∀ j, j < i → l.getD j 0 ≠ x) ∧ w = w') (fun i => n - i) (0) (At1 (by first | rfl | exact at_int rfl (by omega) | exact at_slice rfl (by omega) | exact at_int rfl (by simp))) ?_ ?_
  · exact ⟨Nat.zero_le _, fun j hj => absurd hj (by omega), rfl⟩
  · rintro i g w2 ⟨hi, hP, rfl⟩
    refine J.seq ?_
    refine J.seq ?_
    refine J.region ?_
    refine L.va rfl (X.move (by conv => lhs; whnf)) ?_
    refine L.va rfl (X.move (by conv => lhs; whnf)) ?_
    refine L.va rfl (X.len rfl Try.underlying22) ?_
    refine L.va rfl (X.lss rfl rfl) ?_
    refine L.nil ?_
    refine J.dec rfl (fun hlt => ?_) (fun hlt => ?_)
    · have hA := hr.some_ (by omega)
      refine J.skip ?_
      refine J.seq ?_
      refine J.block ?_
      refine J.seq ?_
      refine J.region ?_
      refine L.va rfl (X.move (by conv => lhs; whnf)) ?_
      refine L.va rfl (X.move (by conv => lhs; whnf)) ?_
      refine L.va rfl ((by first | exact X.index1n rfl rfl Try.underlying22 sz_30 (by first | exact Option.some_ne_none _ | exact hr.some_ (by omega) | exact hA) (by omega) | exact X.index1 rfl rfl Try.underlying22 sz_30 (by first | exact Option.some_ne_none _ | exact hr.some_ (by omega) | exact hA) (by omega))) ?_
      refine L.va rfl (X.load rfl sc_30 (by first | exact Ld.num hr (by omega) | exact hA)) ?_
      refine L.va rfl (X.move (by conv => lhs; whnf)) ?_
      refine L.va rfl (X.eql rfl rfl) ?_
      refine L.nil ?_
      refine J.dec rfl (fun he => ?_) (fun he => ?_)
      · refine J.seq ?_
        refine J.region ?_
        refine L.va rfl (X.assign (by conv => lhs; whnf)) ?_
        refine L.nil ?_
        refine J.ret ?_
        refine inB_ret <|  thn_ret <|  thn_ret <|  inB_ret <|  thn_ret <| ?_
        refine fin1 ?_
        have : x ∈ l := by
          rw [← he, List.getD, List.getElem?_eq_getElem (by omega)]
          exact List.getElem_mem _
        rw [List.contains_iff_mem.2 this]
        exact ⟨rfl, rfl⟩
      · refine J.skip ?_
        refine J.region ?_
        refine L.va rfl (X.move (by conv => lhs; whnf)) ?_
        refine L.va rfl (X.add rfl rfl (by omega)) ?_
        refine L.va rfl (X.assign (by conv => lhs; whnf)) ?_
        refine L.nil ?_
        refine ⟨i + 1, At1 (by first | rfl | exact at_int rfl (by omega) | exact at_slice rfl (by omega) | exact at_int rfl (by simp)), (by (iterate 13 refine Agr.lk rfl ?_); exact Agr.lk rfl (Agr.hav rfl Agr.rfl')), ?_⟩
        refine ⟨⟨by omega, fun j hj => ?_, rfl⟩, by omega⟩
        rcases Nat.lt_or_ge j i with h | h
        · exact hP j h
        · obtain rfl : j = i := by omega
          exact he
    · refine J.exit ?_
      refine J.seq ?_
      refine J.region ?_
      refine L.va rfl (X.assign (by conv => lhs; whnf)) ?_
      refine L.nil ?_
      refine J.ret ?_
      refine fin1 ?_
      have : l.contains x = false := by
        rw [Bool.eq_false_iff, Ne, List.contains_iff_mem]
        intro h
        obtain ⟨j, hj, e⟩ := List.getElem_of_mem h
        have := hP j (by omega)
        rw [List.getD, List.getElem?_eq_getElem hj] at this
        exact absurd e this
      rw [this]
      exact ⟨rfl, rfl⟩
theorem rput17 (A : Option Addr) (n c : Nat) (l : List Int) (v : Int) (w : World) (hr : Reads w w.heap.size 1 A n (nums .u32 l)) (hn : n ≤ 5000) (hc : n ≤ c) (hcm : c ≤ maxLen) (hu : Up l) : Calls Try.prog 18 #[.slice A n c, .int .u32 v] w fun e w' => ∃ A' n' c' l', e = .returned (.slice A' n' c') ∧ Reads w' w'.heap.size 1 A' n' (nums .u32 l') ∧ Up l' ∧ (∀ x, x ∈ l' ↔ x ∈ l ∨ x = v) ∧ n' ≤ n + 1 ∧ n' ≤ c' ∧ c' ≤ maxLen ∧ Ext w w' := by
  have hl : l.length = n := by have := hr.1; simpa [nums] using this
  have k1 := rhas17 A n c l v w hr (by unfold maxLen; omega)
  have hcm' := hcm
  unfold maxLen at hcm'
  refine enter Try.func18 rfl (by kernel_rfl) ?_
  refine J.seq ?_
  refine J.region ?_
  refine L.va rfl (X.assign (by conv => lhs; whnf)) ?_
  refine L.nil ?_
  refine J.seq ?_
  refine J.seq ?_
  refine J.region ?_
  refine L.va rfl (X.move (by conv => lhs; whnf)) ?_
  refine L.va rfl (X.move (by conv => lhs; whnf)) ?_
  cases hb : l.contains v
  · rw [hb] at k1
    have hv : v ∉ l := fun h => by rw [List.contains_iff_mem.2 h] at hb; cases hb
    refine L.call rfl en_25 rfl (k1) ?_
    rintro e _ ⟨rfl, rfl⟩
    refine ⟨_, rfl, ?_⟩
    refine L.nil ?_
    refine J.iteF rfl ?_
    refine J.skip ?_
    refine J.seq ?_
    refine J.region ?_
    refine L.va rfl (X.assign (by conv => lhs; whnf)) ?_
    refine L.nil ?_
    refine J.cut (X := Nat) [5, 11, 12, 13, 14, 15, 16, 17, 18, 19, 20, 21, 22, 23, 24] (fun k => [(5, .int .i64 (k : Int))]) (fun k w' => k ≤ n ∧ (∀ j, j < k → l.getD j 0 < v) ∧ (k < n → v ≤ l.getD k 0) ∧ w = w') ?_ ?_
    · refine J.block ?_
      refine J.loop (X := Nat) [5, 11, 12, 13, 14, 15, 16, 17, 18, 19, 20, 21, 22, 23, 24] (fun k => [(5, .int .i64 (k : Int))]) (fun k w' => k ≤ n ∧ (∀ j, j < k → l.getD j 0 < v) ∧ w = w') (fun k => n - k) (0) (At1 (by first | rfl | exact at_int rfl (by omega) | exact at_slice rfl (by omega) | exact at_int rfl (by simp))) ?_ ?_
      · exact ⟨Nat.zero_le _, fun j hj => absurd hj (by omega), rfl⟩
      · rintro k g w2 ⟨hk, hP, rfl⟩
        refine J.seq ?_
        refine J.seq ?_
        refine J.region ?_
        refine L.va rfl (X.move (by conv => lhs; whnf)) ?_
        refine L.va rfl (X.move (by conv => lhs; whnf)) ?_
        refine L.va rfl (X.len rfl Try.underlying22) ?_
        refine L.va rfl (X.lss rfl rfl) ?_
        refine L.va rfl (X.move (by conv => lhs; whnf)) ?_
        refine L.caseDec (k := 15) rfl (fun hlt => ?_) (fun hlt => ?_)
        · have hlt : k < n := by omega
          have hA := hr.some_ (by omega)
          refine L.va rfl (X.move (by conv => lhs; whnf)) ?_
          refine L.va rfl (X.move (by conv => lhs; whnf)) ?_
          refine L.va rfl ((by first | exact X.index1n rfl rfl Try.underlying22 sz_30 (by first | exact Option.some_ne_none _ | exact hr.some_ (by omega) | exact hA) (by omega) | exact X.index1 rfl rfl Try.underlying22 sz_30 (by first | exact Option.some_ne_none _ | exact hr.some_ (by omega) | exact hA) (by omega))) ?_
          refine L.va rfl (X.load rfl sc_30 (by first | exact Ld.num hr (by omega) | exact hA)) ?_
          refine L.va rfl (X.move (by conv => lhs; whnf)) ?_
          refine L.va rfl (X.lss rfl rfl) ?_
          refine L.va rfl (X.pickT rfl (by conv => lhs; whnf)) ?_
          refine L.nil ?_
          refine J.dec rfl (fun hlv => ?_) (fun hlv => ?_)
          · refine J.skip ?_
            refine J.block ?_
            refine J.region ?_
            refine L.va rfl (X.move (by conv => lhs; whnf)) ?_
            refine L.va rfl (X.add rfl rfl (by omega)) ?_
            refine L.va rfl (X.assign (by conv => lhs; whnf)) ?_
            refine L.nil ?_
            refine ⟨k + 1, At1 (by first | rfl | exact at_int rfl (by omega) | exact at_slice rfl (by omega) | exact at_int rfl (by simp)), (by (iterate 16 refine Agr.lk rfl ?_); exact Agr.lk rfl (Agr.hav rfl Agr.rfl')), ?_⟩
            refine ⟨⟨by omega, fun j hj => ?_, rfl⟩, by omega⟩
            rcases Nat.lt_or_ge j k with h | h
            · exact hP j h
            · obtain rfl : j = k := by omega
              exact hlv
          · refine J.exit ?_
            refine ⟨k, At1 (by first | rfl | exact at_int rfl (by omega) | exact at_slice rfl (by omega) | exact at_int rfl (by simp)), (by (iterate 13 refine Agr.lk rfl ?_); refine Agr.lk rfl ?_; refine Agr.hav rfl ?_; exact Agr.rfl'), ?_⟩
            exact ⟨hk, hP, fun _ => by omega, rfl⟩
        · refine L.no rfl ?_
          refine L.no rfl ?_
          refine L.no rfl ?_
          refine L.no rfl ?_
          refine L.no rfl ?_
          refine L.no rfl ?_
          refine L.va rfl (X.pickF rfl (by conv => lhs; whnf)) ?_
          refine L.nil ?_
          refine J.iteF rfl ?_
          refine J.exit ?_
          refine ⟨k, At1 (by first | rfl | exact at_int rfl (by omega) | exact at_slice rfl (by omega) | exact at_int rfl (by simp)), (by (iterate 13 refine Agr.lk rfl ?_); refine Agr.lk rfl ?_; refine Agr.hav rfl ?_; exact Agr.rfl'), ?_⟩
          exact ⟨hk, hP, fun _ => by omega, rfl⟩
    · rintro k g w2 ⟨hk, hP, hQ, rfl⟩
      obtain ⟨hU, hM⟩ := put_up (k := k) hu (by omega) hP (fun _ => hQ (by omega)) hv
      have hr1 : Reads w w.heap.size 1 A k (nums .u32 (l.take k)) := by have := hr.first hk; simpa [nums] using this
      have hr2 := part_nums hr (i := k) (j := n) (by omega) (Nat.le_refl _) hc
      rw [List.take_of_length_le (by rw [List.length_drop]; omega)] at hr2
      refine J.seq ?_
      refine J.region ?_
      refine L.bslice (vs := []) rfl Evs.nil rfl rfl rfl rfl Try.underlying22 sz_30 zr_30 (by decide) ?_
      intro b1 w1 hb1 hs1 hk1 he1
      have ho1 : w1.ownsRow w.heap.size 30 1 (.slice (some ⟨b1, 0, none⟩) 0 0) 0 (nums .u32 []) := blk_own1 (q := 0) (l := []) hk1 (by omega) (Nat.zero_le _) rfl
      refine L.va rfl (X.move (by conv => lhs; whnf)) ?_
      refine L.va rfl (X.move (by conv => lhs; whnf)) ?_
      refine L.va rfl ((by first | exact X.sliceTon rfl rfl Try.underlying22 sz_30 (by omega) | exact X.sliceTo rfl rfl Try.underlying22 sz_30 (by omega))) ?_
      refine L.appendQ (q := k) (ys := l.take k) rfl rfl rfl Try.underlying22 el_30 (ho1) (hr1.ext he1) (by omega) (by simp) (by unfold maxLen; omega) (by omega) ?_
      intro A2 c2 w2 ho2 hg2 hb2 hor2
      have he2 : Ext w w2 := he1.grw hg2 (fun g hg => (ho1.lt g hg).1)
      refine L.va rfl (X.assign (by conv => lhs; whnf)) ?_
      refine L.nil ?_
      refine J.seq ?_
      refine J.draw (ℓ := 1000000) (S := (fun w' => Ext w w')) mixed (fun w3 hSE hS_h => ?_)
      have hS : ((fun w' => Ext w w')) w3 := (he2.trans hSE)
      have ho3 := ho2.ext hSE
      refine D.va 0 rfl (by kernel_rfl) (fun _ _ _ h => h) rfl (fun w' hw => X.move (by conv => lhs; whnf)) hS ?_
      refine D.va 1 rfl (by kernel_rfl) (fun _ _ _ h => h) rfl (fun w' hw => X.move (by conv => lhs; whnf)) hS ?_
      refine D.va 4 rfl (by kernel_rfl) (fun _ _ _ h => h) rfl (fun w' hw => X.move (by conv => lhs; whnf)) hS ?_
      refine D.va 5 rfl (by kernel_rfl) (fun _ _ _ h => h) rfl (fun w' hw => X.move (by conv => lhs; whnf)) hS ?_
      refine D.va 6 rfl (by kernel_rfl) (fun _ _ _ h => h) rfl (fun w' hw => (by first | exact X.sliceFromn rfl rfl Try.underlying22 sz_30 (by omega) | exact X.sliceFrom rfl rfl Try.underlying22 sz_30 (by omega))) hS ?_
      refine D.one 2 (by kernel_rfl) rfl ?_
      refine L.bslice (vs := [_]) rfl (Evs.cons (by conv => lhs; whnf) Evs.nil) rfl rfl rfl rfl Try.underlying22 sz_30 zr_30 (by decide) ?_
      intro b4 w4 hb4 hs4 hk4 he4
      have hS1 := Ext.trans hS he4
      refine L.nil ?_
      refine ⟨fun _ => hS1, ?_⟩
      have hS4 : Ext w w4 := Ext.trans hS he4
      have z4 := Ext.le hS4
      refine D.one 3 (by kernel_rfl) rfl ?_
      refine L.appendQ (q := k + 1) (ys := l.take k ++ [v]) rfl rfl rfl Try.underlying22 el_30 ((ho3.ext he4)) ((blk_reads (q := 1) (l := nums .u32 [v]) hk4 hk4.lt rfl)) (by omega) (by simp) (by unfold maxLen; omega) (by omega) ?_
      intro A5 c5 w5 ho5 hg5 hb5 hor5
      have hS2 := hS4.grw hg5 (fun g hg ↦ (ho3.lt g hg).1)
      refine L.nil ?_
      refine ⟨fun _ => hS2, ?_⟩
      have hS5 : Ext w w5 := hS4.grw hg5 (fun g hg => (ho3.lt g hg).1)
      have z5 := Ext.le hS5
      refine D.one 7 (by kernel_rfl) rfl ?_
      refine L.appendQ (q := n + 1) (ys := l.take k ++ [v] ++ l.drop k) rfl rfl rfl Try.underlying22 el_30 (ho5) ((hr2.ext hS5)) (by omega) (by simp) (by unfold maxLen; omega) (by omega) ?_
      intro A6 c6 w6 ho6 hg6 hb6 hor6
      have hS3 := hS5.grw hg6 (fun g hg ↦ (ho5.lt g hg).1)
      refine L.nil ?_
      refine ⟨fun _ => hS3, ?_⟩
      have hS6 : Ext w w6 := hS5.grw hg6 (fun g hg => (ho5.lt g hg).1)
      refine D.va 8 rfl (by kernel_rfl) (fun _ _ _ h => h) rfl (fun w' hw => X.assign (by conv => lhs; whnf)) hS3 ?_
      refine D.done (by kernel_rfl) ?_
      refine J.ret ?_
      refine fin1 ?_
      have hbd := own_bd ho6
      exact ⟨A6, n + 1, c6, _, rfl, Reads.of_own ho6, hU, hM, Nat.le_refl _, hbd.1, hbd.2, hS6⟩
  · rw [hb] at k1
    refine L.call rfl en_25 rfl (k1) ?_
    rintro e _ ⟨rfl, rfl⟩
    refine ⟨_, rfl, ?_⟩
    refine L.nil ?_
    refine J.iteT rfl ?_
    refine J.seq ?_
    refine J.region ?_
    refine L.va rfl (X.move (by conv => lhs; whnf)) ?_
    refine L.va rfl (X.assign (by conv => lhs; whnf)) ?_
    refine L.nil ?_
    refine J.ret ?_
    refine thn_ret <| ?_
    refine fin1 ?_
    refine ⟨A, n, c, l, rfl, hr, hu, fun x => ⟨.inl, ?_⟩, by omega, hc, hcm, Ext.refl _⟩
    rintro (h | rfl)
    · exact h
    · exact List.contains_iff_mem.1 hb
theorem zl_at (vs : List Nat) (i : Nat) : (zl vs).getD i 0 = ((vs.getD i 0 : Nat) : Int) := by
  unfold zl
  rw [List.getD, List.getD, List.getElem?_map]
  cases vs[i]? <;> rfl
theorem rorder17 (A : Option Addr) (n c : Nat) (vs : List Nat) (w : World) (hr : Reads w w.heap.size 1 A n (nums .u32 (zl vs))) (hv : ∀ x ∈ vs, x < 4294967296) (hn : n ≤ 100) : Calls Try.prog 7 #[.slice A n c] w fun e w' => ∃ A' k c' y, e = .returned (.slice A' k c') ∧ w'.ownsRow w.heap.size 30 1 (.slice A' k c') k (nums .u32 y) ∧ Up (y.map kO) ∧ (∀ x, x ∈ y ↔ x ∈ zl vs) ∧ Ext w w' := by
  have hl : vs.length = n := by have := hr.1; simpa [nums, zl] using this
  have hlz : (zl vs).length = n := by unfold zl; rw [List.length_map]; exact hl
  have hf : Fit (zl vs) := fun z hz => by
    unfold zl at hz
    obtain ⟨x, hx, rfl⟩ := List.mem_map.1 hz
    have := hv x hx
    omega
  refine enter Try.func7 rfl (by kernel_rfl) ?_
  refine J.seq ?_
  refine J.region ?_
  refine L.va rfl (X.assign (by conv => lhs; whnf)) ?_
  refine L.nil ?_
  refine J.seq ?_
  refine J.region ?_
  refine L.va rfl (X.assign (by conv => lhs; whnf)) ?_
  refine L.nil ?_
  refine J.seq ?_
  refine J.seq ?_
  refine J.region ?_
  refine L.va rfl (X.assign (by conv => lhs; whnf)) ?_
  refine L.nil ?_
  refine J.block ?_
  refine J.loop (X := Nat × Option Addr × Nat × Nat × List Int) [3, 4, 5, 6, 7, 8, 9, 10, 11, 12, 13, 14, 15, 16, 17, 18, 19, 20, 21, 22, 23, 24, 25, 26, 27, 28, 29, 30, 31, 32] (fun (k, B, m, d, o) => [(4, .int .i64 ((k : Int) - 1)), (3, .slice B m d)]) (fun (k, B, m, d, o) w' => k ≤ 33 ∧ w'.ownsRow w.heap.size 30 1 (.slice B m d) m (nums .u32 o) ∧ Gt (zl vs) k o ∧ m ≤ 100 * (33 - k) ∧ Ext w w') (fun (k, _) => k) ((33, none, 0, 0, [])) (At2 (by first | rfl | exact at_int rfl (by omega) | exact at_slice rfl (by omega) | exact at_int rfl (by simp)) (by first | rfl | exact at_int rfl (by omega) | exact at_slice rfl (by omega) | exact at_int rfl (by simp))) ?_ ?_
  · exact ⟨Nat.le_refl _, own_nil _ _ _ _, Gt.start _, by omega, Ext.refl _⟩
  · rintro ⟨k, B, m, d, o⟩ g w2 ⟨hk, ho2, hG, hm, he2⟩
    refine J.seq ?_
    refine J.seq ?_
    refine J.region ?_
    refine L.va rfl (X.move (by conv => lhs; whnf)) ?_
    refine L.va rfl (X.geq rfl rfl) ?_
    refine L.nil ?_
    refine J.dec rfl (fun hge => ?_) (fun hge => ?_)
    · obtain ⟨q, rfl⟩ : ∃ q, k = q + 1 := ⟨k - 1, by omega⟩
      refine J.skip ?_
      refine J.seq ?_
      refine J.block ?_
      refine J.seq ?_
      refine J.region ?_
      refine L.va rfl (X.assign (by conv => lhs; whnf)) ?_
      refine L.nil ?_
      refine J.cut (X := Option Addr × Nat × Nat × List Int) [5, 6, 11, 12, 13, 14, 15, 16, 17, 18, 19, 20, 21, 22, 23, 24, 25, 26, 27, 28, 29] (fun (C, u, b, s) => [(5, .slice C u b)]) (fun (C, u, b, s) w' => Reads w' w'.heap.size 1 C u (nums .u32 s) ∧ u ≤ 100 ∧ Lv (zl vs) q (zl vs).length s ∧ Ext w2 w') ?_ ?_
      · refine J.seq ?_
        refine J.region ?_
        refine L.va rfl (X.assign (by conv => lhs; whnf)) ?_
        refine L.nil ?_
        refine J.block ?_
        refine J.loop (X := Nat × Option Addr × Nat × Nat × List Int) [5, 6, 11, 12, 13, 14, 15, 16, 17, 18, 19, 20, 21, 22, 23, 24, 25, 26, 27, 28, 29] (fun (i, C, u, b, s) => [(6, .int .i64 (i : Int)), (5, .slice C u b)]) (fun (i, C, u, b, s) w' => i ≤ n ∧ Reads w' w'.heap.size 1 C u (nums .u32 s) ∧ u ≤ i ∧ u ≤ b ∧ b ≤ maxLen ∧ Lv (zl vs) q i s ∧ Ext w2 w') (fun (i, _) => n - i) ((0, none, 0, 0, [])) (At2 (by first | rfl | exact at_int rfl (by omega) | exact at_slice rfl (by omega) | exact at_int rfl (by simp)) (by first | rfl | exact at_int rfl (by omega) | exact at_slice rfl (by omega) | exact at_int rfl (by simp))) ?_ ?_
        · exact ⟨Nat.zero_le _, Reads.none_, Nat.le_refl _, Nat.le_refl _, Nat.zero_le _, Lv.start _ _, Ext.refl _⟩
        · rintro ⟨i, C, u, b, s⟩ g w4 ⟨hi, hs, hu1, hu2, hu3, hLv, he4⟩
          have he04 := he2.trans he4
          have k4 := (hr.ext he04).more he04.le
          refine J.seq ?_
          refine J.seq ?_
          refine J.region ?_
          refine L.va rfl (X.move (by conv => lhs; whnf)) ?_
          refine L.va rfl (X.move (by conv => lhs; whnf)) ?_
          refine L.va rfl (X.len rfl Try.underlying22) ?_
          refine L.va rfl (X.lss rfl rfl) ?_
          refine L.nil ?_
          refine J.dec rfl (fun hlt => ?_) (fun hlt => ?_)
          · have hil : i < n := by omega
            have hA := hr.some_ (by omega)
            have hx := getN_lt hv i
            have hz := zl_at vs i
            refine J.skip ?_
            refine J.seq ?_
            refine J.block ?_
            refine J.seq ?_
            refine J.region ?_
            refine L.va rfl (X.move (by conv => lhs; whnf)) ?_
            refine L.va rfl (X.move (by conv => lhs; whnf)) ?_
            refine L.va rfl ((by first | exact X.index1n rfl rfl Try.underlying22 sz_30 (by first | exact Option.some_ne_none _ | exact hA) (by omega) | exact X.index1 rfl rfl Try.underlying22 sz_30 (by first | exact Option.some_ne_none _ | exact hA) (by omega))) ?_
            refine L.va rfl (X.load rfl sc_30 (by first | exact hA | exact Ld.zl k4 hil)) ?_
            refine L.call rfl en_17 rfl (rcount_any (vs.getD i 0) w4 hx) ?_
            rintro e _ ⟨rfl, rfl⟩
            refine ⟨_, rfl, ?_⟩
            refine L.va rfl (X.move (by conv => lhs; whnf)) ?_
            refine L.va rfl (X.eql rfl rfl) ?_
            refine L.nil ?_
            refine J.dec rfl (fun heq => ?_) (fun heq => ?_)
            · refine J.region ?_
              refine L.va rfl (X.move (by conv => lhs; whnf)) ?_
              refine L.va rfl (X.move (by conv => lhs; whnf)) ?_
              refine L.va rfl (X.move (by conv => lhs; whnf)) ?_
              refine L.va rfl ((by first | exact X.index1n rfl rfl Try.underlying22 sz_30 (by first | exact Option.some_ne_none _ | exact hA) (by omega) | exact X.index1 rfl rfl Try.underlying22 sz_30 (by first | exact Option.some_ne_none _ | exact hA) (by omega))) ?_
              refine L.va rfl (X.load rfl sc_30 (by first | exact hA | exact Ld.zl k4 hil)) ?_
              refine L.call rfl en_18 rfl (rput17 C u b s ((vs.getD i 0 : Nat) : Int) w4 hs (by omega) hu2 hu3 hLv.up) ?_
              rintro e w5 ⟨C', u', b', s', rfl, hs', hup', hm', hu1', hu2', hu3', he5⟩
              refine ⟨_, rfl, ?_⟩
              refine L.va rfl (X.assign (by conv => lhs; whnf)) ?_
              refine L.nil ?_
              refine J.region ?_
              refine L.va rfl (X.move (by conv => lhs; whnf)) ?_
              refine L.va rfl (X.add rfl rfl (by omega)) ?_
              refine L.va rfl (X.assign (by conv => lhs; whnf)) ?_
              refine L.nil ?_
              refine ⟨(i + 1, C', u', b', s'), At2 (by first | rfl | exact at_int rfl (by omega) | exact at_slice rfl (by omega) | exact at_int rfl (by simp)) (by first | rfl | exact at_int rfl (by omega) | exact at_slice rfl (by omega) | exact at_int rfl (by simp)), (by (iterate 21 refine Agr.lk rfl ?_); exact Agr.lk rfl (Agr.hav rfl Agr.rfl')), ?_⟩
              refine ⟨⟨by omega, hs', by omega, hu2', hu3', hLv.yes (by omega) (by rw [hz, Int.toNat_natCast]; omega) hup' (by rw [hz]; exact hm'), he4.trans he5⟩, by show n - (i + 1) < n - i; omega⟩
            · refine J.skip ?_
              refine J.region ?_
              refine L.va rfl (X.move (by conv => lhs; whnf)) ?_
              refine L.va rfl (X.add rfl rfl (by omega)) ?_
              refine L.va rfl (X.assign (by conv => lhs; whnf)) ?_
              refine L.nil ?_
              refine ⟨(i + 1, C, u, b, s), At2 (by first | rfl | exact at_int rfl (by omega) | exact at_slice rfl (by omega) | exact at_int rfl (by simp)) (by first | rfl | exact at_int rfl (by omega) | exact at_slice rfl (by omega) | exact at_int rfl (by simp)), (by (iterate 14 refine Agr.lk rfl ?_); exact Agr.lk rfl (Agr.hav rfl Agr.rfl')), ?_⟩
              refine ⟨⟨by omega, hs, by omega, hu2, hu3, hLv.no (by omega) (by rw [hz, Int.toNat_natCast]; omega), he4⟩, by show n - (i + 1) < n - i; omega⟩
          · refine J.exit ?_
            refine ⟨(C, u, b, s), At1 (by first | rfl | exact at_int rfl (by omega) | exact at_slice rfl (by omega) | exact at_int rfl (by simp)), (by (iterate 4 refine Agr.lk rfl ?_); refine Agr.lk rfl ?_; refine Agr.hav rfl ?_; (iterate 1 refine Agr.lk rfl ?_); exact Agr.rfl'), ?_⟩
            obtain rfl : i = n := by omega
            exact ⟨hs, by omega, by rw [hlz]; exact hLv, he4⟩
      · rintro ⟨C, u, b, s⟩ g w5 ⟨hs, hu, hLv, he5⟩
        have ho5 := ho2.ext he5
        have z5 := (he2.trans he5).le
        refine J.region ?_
        refine L.va rfl (X.move (by conv => lhs; whnf)) ?_
        refine L.va rfl (X.move (by conv => lhs; whnf)) ?_
        refine L.appendQ (q := m + u) (ys := o ++ s) rfl rfl rfl Try.underlying22 el_30 (ho5) (hs) (by omega) (by simp) (by unfold maxLen; omega) (by omega) ?_
        intro A6 c6 w6 ho6 hg6 hb6 hor6
        refine L.va rfl (X.assign (by conv => lhs; whnf)) ?_
        refine L.nil ?_
        refine J.region ?_
        refine L.va rfl (X.move (by conv => lhs; whnf)) ?_
        refine L.va rfl (X.sub rfl rfl (by omega)) ?_
        refine L.va rfl (X.assign (by conv => lhs; whnf)) ?_
        refine L.nil ?_
        refine ⟨(q, A6, m + u, c6, o ++ s), At2 (at_int rfl (by omega)) (rfl), (by (iterate 7 refine Agr.lk rfl ?_); refine Agr.lk rfl ?_; refine Agr.hav rfl ?_; (iterate 3 refine Agr.lk rfl ?_); exact Agr.lk rfl (Agr.hav rfl Agr.rfl')), ?_⟩
        refine ⟨⟨by omega, ho6, hG.next hf hLv, by omega, (he2.trans he5).grw hg6 (fun g hg => (ho5.lt g hg).1)⟩, Nat.lt_succ_self _⟩
    · obtain rfl : k = 0 := by omega
      refine J.exit ?_
      refine J.seq ?_
      refine J.region ?_
      refine L.va rfl (X.move (by conv => lhs; whnf)) ?_
      refine L.va rfl (X.assign (by conv => lhs; whnf)) ?_
      refine L.nil ?_
      refine J.ret ?_
      refine fin1 ?_
      exact ⟨B, m, d, o, rfl, ho2, hG.up, hG.all, he2⟩
end Go.Proofs.Ytjegcohpmmbchaa
namespace Go.Proofs.Ytjegcohpmmbchaa
set_option maxRecDepth 100000
open Go.Shelf Go.RowKit Go.Lib Go.Sort H
open Mk Ors
open Nrm (Up)
set_option linter.unusedVariables false
def sortLay_ren : Go.Shelf.Ren := ⟨fun | 6 => 13 | 15 => 23 | 14 => 22 | 28 => 35 | 29 => 36 | 20 => 27 | 21 => 28 | 22 => 29 | 23 => 30 | 24 => 31 | 25 => 32 | 26 => 33 | 27 => 34 | 46 => 47 | 47 => 48 | 48 => 49 | 49 => 50 | 50 => 51 | 57 => 56 | n => n, fun | 22 => 22 | 24 => 30 | 25 => 37 | 3 => 3 | 39 => 46 | 0 => 0 | 53 => 30 | 55 => 58 | 4 => 4 | 46 => 52 | 45 => 51 | 50 => 40 | 5 => 5 | 9 => 9 | 66 => 65 | 70 => 69 | 76 => 74 | 77 => 75 | n => n, fun | n => n⟩
theorem sortLay : Go.Proofs.SlLaysF.n6 Try.prog sortLay_ren := {
  mixed := by kernel_rfl
  f6 := ⟨Try.f13.name, by decide, Try.func13.trans (congrArg some (by kernel_rfl))⟩
  f14 := ⟨Try.f22.name, by decide, Try.func22.trans (congrArg some (by kernel_rfl))⟩
  f15 := Try.func23.trans (congrArg some (by kernel_rfl))
  f20 := ⟨Try.f27.name, by decide, Try.func27.trans (congrArg some (by kernel_rfl))⟩
  f21 := ⟨Try.f28.name, by decide, Try.func28.trans (congrArg some (by kernel_rfl))⟩
  f22 := ⟨Try.f29.name, by decide, Try.func29.trans (congrArg some (by kernel_rfl))⟩
  f23 := ⟨Try.f30.name, by decide, Try.func30.trans (congrArg some (by kernel_rfl))⟩
  f24 := ⟨Try.f31.name, by decide, Try.func31.trans (congrArg some (by kernel_rfl))⟩
  f25 := ⟨Try.f32.name, by decide, Try.func32.trans (congrArg some (by kernel_rfl))⟩
  f26 := ⟨Try.f33.name, by decide, Try.func33.trans (congrArg some (by kernel_rfl))⟩
  f27 := ⟨Try.f34.name, by decide, Try.func34.trans (congrArg some (by kernel_rfl))⟩
  f28 := Try.func35.trans (congrArg some (by kernel_rfl))
  f29 := Try.func36.trans (congrArg some (by kernel_rfl))
  f46 := ⟨Try.f47.name, by decide, Try.func47.trans (congrArg some (by kernel_rfl))⟩
  f47 := Try.func48.trans (congrArg some (by kernel_rfl))
  f48 := Try.func49.trans (congrArg some (by kernel_rfl))
  f49 := ⟨Try.f50.name, by decide, Try.func50.trans (congrArg some (by kernel_rfl))⟩
  f50 := ⟨Try.f51.name, by decide, Try.func51.trans (congrArg some (by kernel_rfl))⟩
  f57 := ⟨Try.f56.name, by decide, Try.func56.trans (congrArg some (by kernel_rfl))⟩
  t0 := Try.underlying0
  a0 := Try.isAgg0
  z0 := Try.sizeOf0
  v0 := Try.zeroValue0
  t3 := Try.underlying3
  a3 := Try.isAgg3
  z3 := Try.sizeOf3
  v3 := Try.zeroValue3
  t4 := Try.underlying4
  a4 := Try.isAgg4
  z4 := Try.sizeOf4
  v4 := Try.zeroValue4
  t5 := Try.underlying5
  a5 := Try.isAgg5
  z5 := Try.sizeOf5
  v5 := Try.zeroValue5
  t9 := Try.underlying9
  a9 := Try.isAgg9
  z9 := Try.sizeOf9
  v9 := Try.zeroValue9
  t22 := Try.underlying22
  a22 := Try.isAgg22
  z22 := Try.sizeOf22
  v22 := Try.zeroValue22
  a24 := Try.isAgg30
  z24 := Try.sizeOf30
  t25 := Try.underlying37
  a25 := Try.isAgg37
  z25 := Try.sizeOf37
  v25 := Try.zeroValue37
  t39 := Try.underlying46
  a39 := Try.isAgg46
  z39 := Try.sizeOf46
  v39 := Try.zeroValue46
  t45 := Try.underlying51
  a45 := Try.isAgg51
  z45 := Try.sizeOf51
  v45 := Try.zeroValue51
  t46 := Try.underlying52
  a46 := Try.isAgg52
  z46 := Try.sizeOf52
  v46 := Try.zeroValue52
  t50 := Try.underlying40
  a50 := Try.isAgg40
  z50 := Try.sizeOf40
  v50 := Try.zeroValue40
  t53 := Try.underlying30
  a53 := Try.isAgg30
  z53 := Try.sizeOf30
  v53 := Try.zeroValue30
  t55 := Try.underlying58
  a55 := Try.isAgg58
  z55 := Try.sizeOf58
  v55 := Try.zeroValue58
  t66 := Try.underlying65
  a66 := Try.isAgg65
  z66 := Try.sizeOf65
  v66 := Try.zeroValue65
  t70 := Try.underlying69
  a70 := Try.isAgg69
  z70 := Try.sizeOf69
  v70 := Try.zeroValue69
  t76 := Try.underlying74
  a76 := Try.isAgg74
  z76 := Try.sizeOf74
  v76 := Try.zeroValue74
  t77 := Try.underlying75
  a77 := Try.isAgg75
  z77 := Try.sizeOf75
  v77 := Try.zeroValue75 }
section
variable {α : Type} [Inhabited α]
theorem holds_row (enc : α → Value) {w : World} {g : Nat} {cur : Array Value} {e : TypeId} {ss : List α} (hb : w.heap[g]? = some (.cells cur e (0, 0))) (ht : cur.toList.take ss.length = ss.map enc) : Holds enc w g 0 ss.toArray := by
  intro j hj
  have hj' : j < ss.length := by simpa using hj
  refine ⟨?_, by simp [World.frozen?, hb]⟩
  have h1 : (cur.toList.take ss.length)[j]? = (ss.map enc)[j]? := by rw [ht]
  rw [List.getElem?_take_of_lt hj'] at h1
  simp only [World.cell?, hb, Nat.zero_add]
  simp only [Option.isSome_none, Bool.false_eq_true, if_false]
  rw [← Array.getElem?_toList, h1]
  simp [hj']
theorem heap_row (enc : α → Value) {w : World} {g n : Nat} {os : Array Obj} {cur : Array Value} {e : TypeId} {fr : Nat × Nat} (d : Array α) (hb : w.heap[g]? = some (.cells cur e fr)) :
    (grow (putRow enc (Sort.ahead w n) g 0 d) os).heap[g]? = some (.cells (putCells enc 0 d cur) e fr) := by
  have hg : g < w.heap.size := (Array.getElem?_eq_some_iff.1 hb).1
  rw [heap_grow_old _ _ (by simpa using hg)]
  simp [putRow, mapBlock, Sort.ahead, Array.getElem?_modify, hb, onCells]
theorem grown_row (enc : α → Value) {w : World} {g n : Nat} {os : Array Obj} (d : Array α) : w.grownBy (grow (putRow enc (Sort.ahead w n) g 0 d) os) (some g) := by
  refine ⟨rfl, rfl, rfl, by simp, fun k hk hne => ?_⟩
  rw [heap_grow_old _ _ (by simpa using hk)]
  have : g ≠ k := fun e => hne (by rw [e])
  simp [putRow, mapBlock, Sort.ahead, Array.getElem?_modify, this]
theorem take_row (enc : α → Value) (cur : Array Value) (ts : List α) (h : ts.length ≤ cur.size) : (putCells enc 0 ts.toArray cur).toList.take ts.length = ts.map enc := by
  apply List.ext_getElem?
  intro j
  by_cases hj : j < ts.length
  · rw [List.getElem?_take_of_lt hj, Array.getElem?_toList]
    simp [putCells, hj, show j < cur.size by omega]
  · rw [List.getElem?_take_eq_none (by omega), List.getElem?_eq_none (by simp; omega)]
theorem own_row (enc : α → Value) {w : World} {base g cap n : Nat} {e : TypeId} {os : Array Obj} {cur : Array Value} {ss ts : List α} (hl : ts.length = ss.length) (hbase : base ≤ g) (hb : w.heap[g]? = some (.cells cur e (0, 0)))
    (h1 : ss.length ≤ cap) (h2 : cap ≤ maxLen) (h3 : cur.size = cap * 1) :
    (grow (putRow enc (Sort.ahead w n) g 0 ts.toArray) os).ownsRow base e 1 (.slice (some ⟨g, 0, none⟩) ss.length cap) ss.length (ts.map enc) :=
  ⟨by simp [hl], .inr ⟨g, cap, _, rfl, hbase, heap_row enc _ hb, h1, h2, by simp [putCells, h3], by rw [Nat.mul_one, ← hl]; exact take_row enc cur ts (by omega)⟩⟩
end
instance : Inhabited (Nm .u32) := ⟨⟨0, rfl⟩⟩
def encU (x : Nm .u32) : Value := .int .u32 x.z
def cfO (x y : Nm .u32) : Int := if kO x.z < kO y.z then -1 else if x.z = y.z then 0 else 1
theorem cfO_lt (x y : Nm .u32) : ltOf cfO x y = decide (kO x.z < kO y.z) := by
  unfold ltOf cfO
  by_cases h : kO x.z < kO y.z
  · simp [h]
  · rw [if_neg h]
    by_cases h2 : x.z = y.z <;> simp [h, h2]
theorem swoO : SWO (ltOf cfO) where
  irrefl x := by rw [cfO_lt]; simp
  trans x y z h1 h2 := by rw [cfO_lt] at *; simp at *; omega
  ntrans x y z h1 h2 := by rw [cfO_lt] at *; simp at *; omega
theorem nm_eq {x y : Nm .u32} (h : x.z = y.z) : x = y := by
  cases x
  cases y
  cases h
  rfl
theorem totO (x y : Nm .u32) (h1 : ltOf cfO x y = false) (h2 : ltOf cfO y x = false) : x = y := by
  rw [cfO_lt] at h1 h2
  have h1 := of_decide_eq_false h1
  have h2 := of_decide_eq_false h2
  exact nm_eq (kO_inj x.u32 y.u32 (by omega))
theorem order1 (x y : Nm .u32) (w : World) : Calls Try.prog 14 #[.int .u32 x.z, .int .u32 y.z] w fun e w' => e = .returned (.int .i64 (cfO x y)) ∧ w = w' := by
  have hlt := kO_lt x.u32 y.u32
  unfold cfO
  obtain ⟨a, ha⟩ := Int.eq_ofNat_of_zero_le x.u32.1
  obtain ⟨b, hb⟩ := Int.eq_ofNat_of_zero_le y.u32.1
  have ha32 : a < 4294967296 := by have := x.u32.2; omega
  have hb32 : b < 4294967296 := by have := y.u32.2; omega
  rw [ha, hb] at hlt ⊢
  rw [Int.toNat_natCast, Int.toNat_natCast] at hlt
  refine enter Try.func14 rfl (by kernel_rfl) ?_
  refine J.seq ?_
  refine J.region ?_
  refine L.va rfl (X.assign (by conv => lhs; whnf)) ?_
  refine L.nil ?_
  refine J.seq ?_
  refine J.region ?_
  refine L.va rfl (X.move (by conv => lhs; whnf)) ?_
  refine L.call rfl en_15 rfl (lcount_any a w ha32) ?_
  rintro e _ ⟨rfl, rfl⟩
  refine ⟨_, rfl, ?_⟩
  refine L.va rfl (X.move (by conv => lhs; whnf)) ?_
  refine L.call rfl en_15 rfl (lcount_any b w hb32) ?_
  rintro e _ ⟨rfl, rfl⟩
  refine ⟨_, rfl, ?_⟩
  refine L.va rfl (X.assign (by conv => lhs; whnf)) ?_
  refine L.va rfl (X.assign (by conv => lhs; whnf)) ?_
  refine L.nil ?_
  refine J.seq ?_
  refine J.block ?_
  refine J.seq ?_
  refine J.region ?_
  refine L.va rfl (X.move (by conv => lhs; whnf)) ?_
  refine L.va rfl (X.move (by conv => lhs; whnf)) ?_
  refine L.va rfl (X.gtr rfl rfl) ?_
  refine L.va rfl (X.move (by conv => lhs; whnf)) ?_
  refine L.caseDec (k := 15) rfl (fun h1 => ?_) (fun h1 => ?_)
  · refine L.no rfl ?_
    refine L.no rfl ?_
    refine L.no rfl ?_
    refine L.no rfl ?_
    refine L.no rfl ?_
    refine L.no rfl ?_
    refine L.no rfl ?_
    refine L.no rfl ?_
    refine L.va rfl (X.pickT rfl (by conv => lhs; whnf)) ?_
    refine L.va rfl (X.assign (by conv => lhs; whnf)) ?_
    refine L.nil ?_
    refine J.iteT rfl ?_
    refine J.seq ?_
    refine J.region ?_
    refine L.va rfl (X.assign (by conv => lhs; whnf)) ?_
    refine L.nil ?_
    refine J.ret ?_
    refine inB_ret <|  thn_ret <| ?_
    refine fin1 ?_
    rw [if_pos (hlt.2 (.inl (by omega)))]
    exact ⟨rfl, rfl⟩
  · refine L.va rfl (X.move (by conv => lhs; whnf)) ?_
    refine L.va rfl (X.move (by conv => lhs; whnf)) ?_
    refine L.va rfl (X.eql rfl rfl) ?_
    refine L.va rfl (X.move (by conv => lhs; whnf)) ?_
    refine L.caseDec (k := 19) rfl (fun h2 => ?_) (fun h2 => ?_)
    · refine L.va rfl (X.move (by conv => lhs; whnf)) ?_
      refine L.va rfl (X.move (by conv => lhs; whnf)) ?_
      refine L.va rfl (X.lss rfl rfl) ?_
      refine L.va rfl (X.pickT rfl (by conv => lhs; whnf)) ?_
      refine L.va rfl (X.pickF rfl (by conv => lhs; whnf)) ?_
      refine L.va rfl (X.assign (by conv => lhs; whnf)) ?_
      refine L.nil ?_
      refine J.dec rfl (fun h3 => ?_) (fun h3 => ?_)
      · refine J.seq ?_
        refine J.region ?_
        refine L.va rfl (X.assign (by conv => lhs; whnf)) ?_
        refine L.nil ?_
        refine J.ret ?_
        refine inB_ret <|  thn_ret <| ?_
        refine fin1 ?_
        rw [if_pos (hlt.2 (.inr ⟨by omega, by omega⟩))]
        exact ⟨rfl, rfl⟩
      · refine J.seq ?_
        refine J.region ?_
        refine L.va rfl (X.move (by conv => lhs; whnf)) ?_
        refine L.va rfl (X.move (by conv => lhs; whnf)) ?_
        refine L.va rfl (X.eql rfl rfl) ?_
        refine L.va rfl (X.assign (by conv => lhs; whnf)) ?_
        refine L.nil ?_
        refine J.dec rfl (fun h4 => ?_) (fun h4 => ?_)
        · refine J.seq ?_
          refine J.region ?_
          refine L.va rfl (X.assign (by conv => lhs; whnf)) ?_
          refine L.nil ?_
          refine J.ret ?_
          refine inB_ret <|  thn_ret <| ?_
          refine fin1 ?_
          rw [if_neg (fun h => by have := hlt.1 h; omega), if_pos h4]
          exact ⟨rfl, rfl⟩
        · refine J.skip ?_
          refine J.seq ?_
          refine J.region ?_
          refine L.va rfl (X.assign (by conv => lhs; whnf)) ?_
          refine L.nil ?_
          refine J.ret ?_
          refine fin1 ?_
          rw [if_neg (fun h => by have := hlt.1 h; omega), if_neg h4]
          exact ⟨rfl, rfl⟩
    · refine L.no rfl ?_
      refine L.no rfl ?_
      refine L.no rfl ?_
      refine L.va rfl (X.pickF rfl (by conv => lhs; whnf)) ?_
      refine L.va rfl (X.pickF rfl (by conv => lhs; whnf)) ?_
      refine L.va rfl (X.assign (by conv => lhs; whnf)) ?_
      refine L.nil ?_
      refine J.iteF rfl ?_
      refine J.seq ?_
      refine J.region ?_
      refine L.va rfl (X.move (by conv => lhs; whnf)) ?_
      refine L.va rfl (X.move (by conv => lhs; whnf)) ?_
      refine L.va rfl (X.eql rfl rfl) ?_
      refine L.va rfl (X.assign (by conv => lhs; whnf)) ?_
      refine L.nil ?_
      refine J.dec rfl (fun h4 => ?_) (fun h4 => ?_)
      · exact absurd (by rw [Int.ofNat_inj.1 h4]) h2
      · refine J.skip ?_
        refine J.seq ?_
        refine J.region ?_
        refine L.va rfl (X.assign (by conv => lhs; whnf)) ?_
        refine L.nil ?_
        refine J.ret ?_
        refine fin1 ?_
        rw [if_neg (fun h => by have := hlt.1 h; omega), if_neg h4]
        exact ⟨rfl, rfl⟩
theorem sortO (A : Option Addr) (n c N : Nat) (l : List (Nm .u32)) (w : World) (ho : w.ownsRow N 30 1 (.slice A n c) n (nums .u32 (zsOf l))) (hn : n ≤ 5000) :
    Calls Try.prog 13 #[.slice A n c, .func (.func 14) #[] #[]] w fun e w' => e = .returned (.tuple #[]) ∧ ∃ m : List Int, w'.ownsRow N 30 1 (.slice A n c) n (nums .u32 m) ∧ w.grownBy w' (Value.ownBlock (.slice A n c)) ∧ m.Perm (zsOf l) ∧ (∀ j, j + 1 < n → kO (m.getD j 0) ≤ kO (m.getD (j + 1) 0)) := by
  have hl : l.length = n := by have := ho.1; simpa [nums, zsOf] using this
  have he : ∀ m : List (Nm .u32), nums .u32 (zsOf m) = m.map encU := fun m => by simp [nums, zsOf, encU]
  rcases ho.2 with ⟨h0, rfl⟩ | ⟨g, cap, cur, h0, hbase, hb, h1, h2, h3, h4⟩
  · injection h0 with e1 _ e2
    subst e1 e2
    have hcon := AnyF.slices_SortFunc_none (ρ := sortLay_ren) { sortLay with } none 0 (.func (.func 14) #[] #[]) w
    change Calls Try.prog 13 _ _ _ at hcon
    refine hcon.mono ?_
    rintro e w' ⟨rfl, rfl⟩
    exact ⟨rfl, _, ho, grown_ext (Ext.refl _), .refl _, fun j hj => absurd hj (by omega)⟩
  · injection h0 with e1 _ e2
    subst e1 e2
    subst hl
    have eg : ∀ args w, (callFunc 14 args).run Try.prog w = .ok (.enter 14 args) w := enters_of Try.func14 (by kernel_rfl) rfl
    have hcmp : CmpReads Try.prog 14 #[] encU cfO g 0 l.toArray.size w := fun _ _ _ _ x y => (order1 x y _).mono fun _ _ ⟨h1, h2⟩ => ⟨h1, 0, h2.symm⟩
    have hH : Holds encU w g 0 l.toArray := holds_row encU hb (by rw [Nat.mul_one] at h4; rw [h4]; exact he l)
    have hcon := Any.slices_SortFunc_total sortLay encU (fun _ => rfl) cfO swoO 14 #[] g 0 c l.toArray w eg hcmp.lays hH (Array.getElem?_eq_some_iff.1 hb).1 (by simp; omega) totO
    change Calls Try.prog 13 #[.slice (some ⟨g, 0, none⟩) l.length c, _] _ _ at hcon
    refine hcon.mono ?_
    rintro e w' ⟨rfl, q, os, rfl⟩
    have hp := List.mergeSort_perm l (fun x y => !(ltOf cfO) y x)
    have hs := List.pairwise_mergeSort (le := fun x y => !(ltOf cfO) y x) (fun a b c h1 h2 => by simp only [cfO_lt, Bool.not_eq_true', decide_eq_false_iff_not] at *; omega) (fun a b => by simp only [cfO_lt, Bool.or_eq_true, Bool.not_eq_true', decide_eq_false_iff_not]; omega) l
    generalize hm : l.mergeSort (fun x y => !(ltOf cfO) y x) = m at hp hs
    have hlen : m.length = l.length := hp.length_eq
    have ho2 := own_row encU (n := q) (os := os) hlen hbase hb h1 h2 h3
    refine ⟨rfl, zsOf m, ?_, ?_, hp.map _, fun j hj => ?_⟩
    · rw [he]
      unfold sortWorld
      exact ho2
    · exact grown_row encU _
    · have := List.pairwise_iff_getElem.1 hs j (j + 1) (by omega) (by omega) (by omega)
      simp only [cfO_lt, Bool.not_eq_true', decide_eq_false_iff_not] at this
      have e1 : (zsOf m).getD j 0 = (m[j]'(by omega)).z := by unfold zsOf; rw [List.getD, List.getElem?_map, List.getElem?_eq_getElem (by omega)]; rfl
      have e2 : (zsOf m).getD (j + 1) 0 = (m[j + 1]'(by omega)).z := by unfold zsOf; rw [List.getD, List.getElem?_map, List.getElem?_eq_getElem (by omega)]; rfl
      rw [e1, e2]
      omega
theorem lorder (A : Option Addr) (n c : Nat) (xs : List (Nm .u32)) (w : World) (hr : Reads w w.heap.size 1 A n (nums .u32 (zsOf xs))) (hn : n ≤ 5000) : Calls Try.prog 6 #[.slice A n c] w fun e w' => ∃ A' k c' y, e = .returned (.slice A' k c') ∧ w'.ownsRow w.heap.size 30 1 (.slice A' k c') k (nums .u32 y) ∧ Up (y.map kO) ∧ (∀ x, x ∈ y ↔ x ∈ zsOf xs) ∧ Ext w w' := by
  refine enter Try.func6 rfl (by kernel_rfl) ?_
  refine J.seq ?_
  refine J.region ?_
  refine L.va rfl (X.assign (by conv => lhs; whnf)) ?_
  refine L.nil ?_
  refine J.seq ?_
  refine J.region ?_
  refine L.va rfl (X.move (by conv => lhs; whnf)) ?_
  refine L.call rfl en_12 rfl (cloneU A n c (zsOf xs) w hr hn) ?_
  rintro e w1 ⟨A1, c1, rfl, ho1, he1⟩
  refine ⟨_, rfl, ?_⟩
  refine L.va rfl (X.assign (by conv => lhs; whnf)) ?_
  refine L.nil ?_
  refine J.seq ?_
  refine J.region ?_
  refine L.va rfl (X.move (by conv => lhs; whnf)) ?_
  refine L.call rfl en_13 rfl (sortO A1 n c1 _ xs w1 ho1 hn) ?_
  rintro e w2 ⟨rfl, m, ho2, hg2, hp2, hs2⟩
  refine ⟨_, rfl, ?_⟩
  have hf2 : Fit m := fun z hz => by
    have := hp2.mem_iff.1 hz
    unfold zsOf at this
    obtain ⟨x, _, rfl⟩ := List.mem_map.1 this
    exact x.u32
  have he2 : Ext w w2 := he1.grw hg2 (fun g hg => (ho1.lt g hg).1)
  refine L.nil ?_
  refine J.seq ?_
  refine J.region ?_
  refine L.va rfl (X.move (by conv => lhs; whnf)) ?_
  refine L.call rfl en_16 rfl (compactO A1 n c1 _ m w2 ho2 hf2 hs2 (by omega)) ?_
  rintro e w3 ⟨k, y, rfl, ho3, hg3, hu3, hm3⟩
  refine ⟨_, rfl, ?_⟩
  have he3 : Ext w w3 := he2.grw hg3 (fun g hg => (ho2.lt g hg).1)
  refine L.va rfl (X.assign (by conv => lhs; whnf)) ?_
  refine L.nil ?_
  refine J.ret ?_
  refine fin1 ?_
  exact ⟨A1, k, c1, y, rfl, ho3, hu3, fun x => (hm3 x).trans hp2.mem_iff, he3⟩
end Go.Proofs.Ytjegcohpmmbchaa
namespace Go.Proofs.Ytjegcohpmmbchaa
set_option maxRecDepth 100000
open Go.RowKit H
open Mk Ors
set_option linter.unusedVariables false
theorem law_LatticeOrders (w : World) (A0 : Option Addr) (n0 c0 : Nat) (xs0 : List (Nm .u32)) (hn0 : n0 ≤ c0) (hc0 : c0 ≤ maxLen) (hA0 : A0 = none → c0 = 0) (hl0 : LiesSlice w w.heap.size A0 n0 xs0) :
    Calls Try.prog 3 #[.slice A0 n0 c0] w fun e w' => e = .returned (.bool true) ∧ Below w.heap.size w w' := by
  have hV := hl0.reads
  have hcm := hc0
  unfold maxLen at hcm
  obtain ⟨vs, ev, hv⟩ := u32_list xs0
  have hf : Fit (zsOf xs0) := fun z hz => by
    unfold zsOf at hz
    obtain ⟨x, _, rfl⟩ := List.mem_map.1 hz
    exact x.u32
  refine enter Try.func3 rfl (by kernel_rfl) ?_
  refine J.seq ?_
  refine J.region ?_
  refine L.va rfl (X.assign (by conv => lhs; whnf)) ?_
  refine L.nil ?_
  refine J.seq ?_
  refine J.seq ?_
  refine J.region ?_
  refine L.va rfl (X.move (by conv => lhs; whnf)) ?_
  refine L.va rfl (X.len rfl Try.underlying22) ?_
  refine L.va rfl (X.gtr rfl rfl) ?_
  refine L.nil ?_
  refine J.dec rfl (fun hgt => ?_) (fun hgt => ?_)
  · refine J.seq ?_
    refine J.region ?_
    refine L.call rfl en_4 rfl (awake17 w) ?_
    rintro e w1 ⟨rfl, he1⟩
    refine ⟨_, rfl, ?_⟩
    refine L.va rfl (X.assign (by conv => lhs; whnf)) ?_
    refine L.nil ?_
    refine J.ret ?_
    refine thn_ret <| ?_
    refine fin1 ?_
    exact ⟨rfl, he1⟩
  · refine J.skip ?_
    refine J.seq ?_
    refine J.region ?_
    refine L.va rfl (X.move (by conv => lhs; whnf)) ?_
    refine L.call rfl en_6 rfl (lorder A0 n0 c0 xs0 w hV (by omega)) ?_
    rintro e w1 ⟨A1, k1, d1, y1, rfl, ho1, hu1, hm1, he1⟩
    refine ⟨_, rfl, ?_⟩
    refine L.va rfl (X.move (by conv => lhs; whnf)) ?_
    refine L.call rfl en_7 rfl (rorder17 A0 n0 c0 vs w1 (by rw [← ev]; exact (hV.ext he1).more he1.le) hv (by omega)) ?_
    rintro e w2 ⟨A2, k2, d2, y2, rfl, ho2, hu2, hm2, he2⟩
    refine ⟨_, rfl, ?_⟩
    rw [← ev] at hm2
    have e12 : y1 = y2 := ors_eq hu1 hu2 (fun z hz => hf z ((hm1 z).1 hz)) (fun z hz => hf z ((hm2 z).1 hz)) (fun x => (hm1 x).trans (hm2 x).symm)
    subst e12
    have l1 : y1.length = k1 := by have := ho1.1; simpa [nums] using this
    have l2 : y1.length = k2 := by have := ho2.1; simpa [nums] using this
    obtain rfl : k1 = k2 := by omega
    have hb := own_bd ho1
    have hmx : k1 ≤ 9223372036854775807 := by have := hb.1; have := hb.2; unfold maxLen at this; omega
    refine L.call rfl en_5 rfl (rmasks_same A1 A2 k1 d1 d2 _ w2 (Reads.of_own (ho1.ext he2)) (Reads.of_own ho2) hmx) ?_
    rintro e w3 ⟨rfl, he3⟩
    refine ⟨_, rfl, ?_⟩
    refine L.va rfl (X.move (by conv => lhs; whnf)) ?_
    refine L.caseBT (k := 12) rfl (by rfl) ?_
    refine L.call rfl en_4 rfl (awake17 w3) ?_
    rintro e w4 ⟨rfl, he4⟩
    refine ⟨_, rfl, ?_⟩
    refine L.va rfl (X.pickT rfl (by conv => lhs; whnf)) ?_
    refine L.va rfl (X.assign (by conv => lhs; whnf)) ?_
    refine L.nil ?_
    refine J.ret ?_
    refine fin1 ?_
    exact ⟨rfl, ((he1.trans he2).trans he3).trans he4⟩
end Go.Proofs.Ytjegcohpmmbchaa
