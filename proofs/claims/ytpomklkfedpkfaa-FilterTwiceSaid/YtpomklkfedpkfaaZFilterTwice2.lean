import Derived.Lib.Strings
import Derived.Test.YtpomklkfedpkfaaZFilterTwice1
/-
  What the law leans on, part 2: WExaA, WExaB, WClone, WCelH, FlatSet, TypChg, WNames, WNamesB, WNamesD, WNamesE, SchemaData, WSchA, WSchB, WSchC, WSchD, SchPlain, WSchE, WSchF, WSchG, WDiffC, WCelA.
-/
namespace Go.Proofs.Ytpomklkfedpkfaa
set_option maxRecDepth 100000
open Go.RowKit H
open Exa Flo
set_option linter.unusedVariables false
namespace H
theorem X.index1e {P : Program} {w : World} {f : Fr} {x y : Operand} {d : Option Tmp} {t ty e : TypeId} {pos : String} {aft : Array Edge} {g : Option (Nat × Bool)} {A : Option Addr} {q c j : Nat} {k : IntKind} {m : Int} (hx : ev f x = .slice A q c) (hy : ev f y = .int k m) (hm : m = (j : Int)) (ht : P.underlying t = some (.slice e)) (hs : Siz P e 1) (hA : A ≠ none) (hj : j < q) : (execOp (ev f) ⟨d, .indexAddr t x y, ty, pos, aft, g⟩).run P w = .ok (.value (pA A j)) w :=
  X.index1n hx (by rw [hy, hm]) ht hs hA hj
end H
structure SizN (l : List Int) (k : Nat) : Prop where
  le : k ≤ l.length
  z : ∀ j, k ≤ j → j < l.length → l.getD j 0 = 0
  nz : 0 < k → l.getD (k - 1) 0 ≠ 0
theorem nsize (A : Option Addr) (n c : Nat) (l : List Int) (w : World) {N : Nat} (hr : Reads w N 1 A n (nums .u32 l)) (hl : l.length = n) (hn : n ≤ maxLen) : Calls Try.prog 114 #[.slice A n c] w fun e w' => w = w' ∧ ∃ k : Nat, e = .returned (.int .i64 (k : Int)) ∧ SizN l k := by
  unfold maxLen at hn
  refine enter Try.func114 rfl (by kernel_rfl) ?_
  refine J.seq ?_
  refine J.region ?_
  refine L.va rfl (X.assign (by conv => lhs; whnf)) ?_
  refine L.nil ?_
  refine J.seq ?_
  refine J.region ?_
  refine L.va rfl (X.move (by conv => lhs; whnf)) ?_
  refine L.va rfl (X.len rfl Try.underlying45) ?_
  refine L.va rfl (X.assign (by conv => lhs; whnf)) ?_
  refine L.nil ?_
  refine J.seq ?_
  refine J.block ?_
  refine J.loop (X := Nat) [3, 6, 7, 8, 9, 10, 11, 12, 13, 14, 15, 16, 17] (fun k => [(3, .int .i64 (k : Int))]) (fun k w' => k ≤ n ∧ (∀ j, k ≤ j → j < l.length → l.getD j 0 = 0) ∧ w = w') (fun k => k) (n) (At1 (by first | rfl | exact at_int rfl (by omega) | exact at_slice rfl (by omega) | exact at_int rfl (by simp))) ?_ ?_
  · exact ⟨Nat.le_refl _, fun j h1 h2 => by omega, rfl⟩
  · rintro k g w2 ⟨hk, hz, rfl⟩
    refine J.seq ?_
    refine J.seq ?_
    refine J.region ?_
    refine L.va rfl (X.move (by conv => lhs; whnf)) ?_
    refine L.va rfl (X.gtr rfl rfl) ?_
    refine L.va rfl (X.move (by conv => lhs; whnf)) ?_
    refine L.caseDec (k := 8) rfl (fun h1 => ?_) (fun h1 => ?_)
    · obtain ⟨m, rfl⟩ : ∃ m, k = m + 1 := ⟨k - 1, by omega⟩
      have hA := hr.some_ (by omega)
      refine L.va rfl (X.move (by conv => lhs; whnf)) ?_
      refine L.va rfl (X.move (by conv => lhs; whnf)) ?_
      refine L.va rfl (X.sub rfl rfl (by omega)) ?_
      refine L.va rfl (X.index1e (j := m) rfl rfl (by omega) Try.underlying45 sz_53 hA (by omega)) ?_
      refine L.va rfl (X.load rfl sc_53 (by first | exact Ld.num hr (by omega))) ?_
      refine L.va rfl (X.eql rfl rfl) ?_
      refine L.va rfl (X.pickT rfl (by conv => lhs; whnf)) ?_
      refine L.nil ?_
      refine J.dec rfl (fun h2 => ?_) (fun h2 => ?_)
      · refine J.skip ?_
        refine J.block ?_
        refine J.region ?_
        refine L.va rfl (X.move (by conv => lhs; whnf)) ?_
        refine L.va rfl (X.sub rfl rfl (by omega)) ?_
        refine L.va rfl (X.assign (by conv => lhs; whnf)) ?_
        refine L.nil ?_
        refine ⟨m, At1 (at_int rfl (by omega)), (by (iterate 14 refine Agr.lk rfl ?_); exact Agr.lk rfl (Agr.hav rfl Agr.rfl')), ?_⟩
        refine ⟨⟨by omega, fun j hj hjl => ?_, rfl⟩, by omega⟩
        rcases Nat.lt_or_ge m j with h | h
        · exact hz j h hjl
        · obtain rfl : j = m := by omega
          exact h2
      · refine J.exit ?_
        refine J.seq ?_
        refine J.region ?_
        refine L.va rfl (X.move (by conv => lhs; whnf)) ?_
        refine L.va rfl (X.assign (by conv => lhs; whnf)) ?_
        refine L.nil ?_
        refine J.ret ?_
        refine fin1 ?_
        exact ⟨rfl, _, rfl, by omega, hz, fun _ => h2⟩
    · refine L.no rfl ?_
      refine L.no rfl ?_
      refine L.no rfl ?_
      refine L.no rfl ?_
      refine L.no rfl ?_
      refine L.no rfl ?_
      refine L.va rfl (X.pickF rfl (by conv => lhs; whnf)) ?_
      refine L.nil ?_
      refine J.iteF rfl ?_
      refine J.exit ?_
      refine J.seq ?_
      refine J.region ?_
      refine L.va rfl (X.move (by conv => lhs; whnf)) ?_
      refine L.va rfl (X.assign (by conv => lhs; whnf)) ?_
      refine L.nil ?_
      refine J.ret ?_
      refine fin1 ?_
      exact ⟨rfl, _, rfl, by omega, hz, fun h => absurd h (by omega)⟩
theorem ntrim (A : Option Addr) (n c : Nat) (l : List Int) (w : World) {N : Nat} (hN : N ≤ w.heap.size) (hr : Reads w N 1 A n (nums .u32 l)) (hl : l.length = n) (hc : n ≤ c) (hn : n ≤ 1000000) : Calls Try.prog 87 #[.slice A n c] w fun e w' => ∃ (A' : Option Addr) (k c' : Nat), e = .returned (.slice A' k c') ∧ SizN l k ∧ w'.ownsRow w.heap.size 53 1 (.slice A' k c') k (nums .u32 (l.take k)) ∧ Ext w w' := by
  have c1 := nsize A n c l w hr hl (by unfold maxLen; omega)
  refine enter Try.func87 rfl (by kernel_rfl) ?_
  refine J.seq ?_
  refine J.region ?_
  refine L.va rfl (X.assign (by conv => lhs; whnf)) ?_
  refine L.nil ?_
  refine J.seq ?_
  refine J.region ?_
  refine L.va rfl (X.move (by conv => lhs; whnf)) ?_
  refine L.va rfl (X.move (by conv => lhs; whnf)) ?_
  refine L.call rfl en_114 rfl (c1) ?_
  rintro e _ ⟨rfl, k, rfl, hk⟩
  refine ⟨_, rfl, ?_⟩
  have hkl := hk.le
  have hrk : Reads w N 1 A k (nums .u32 (l.take k)) := by
    have := hr.first (k := k) (by omega)
    rw [Nat.mul_one] at this
    have e : (nums .u32 l).take k = nums .u32 (l.take k) := by unfold nums; rw [List.map_take]
    rwa [e] at this
  refine L.va rfl ((by first | exact X.sliceTon rfl rfl Try.underlying45 sz_53 (by omega) | exact X.sliceTo rfl rfl Try.underlying45 sz_53 (by omega))) ?_
  have ho0 : w.ownsRow w.heap.size 53 1 (.slice none 0 0) 0 (nums .u32 []) := own_nil _ _ _ _
  refine L.appendQ (q := k) (ys := l.take k) rfl rfl rfl Try.underlying45 el_53 (ho0) (hrk) (by omega) (by simp) (by unfold maxLen; omega) (by omega) ?_
  intro A2 c2 w2 ho2 hg2 hb2 hor2
  refine L.va rfl (X.assign (by conv => lhs; whnf)) ?_
  refine L.nil ?_
  refine J.ret ?_
  refine fin1 ?_
  exact ⟨A2, k, c2, rfl, hk, ho2, hb2⟩
theorem fless (x y : Nat) (w : World) (hx : x < 18446744073709551616) (hy : y < 18446744073709551616) : Calls Try.prog 89 #[.float .f64 x, .float .f64 y] w fun e w' => e = .returned (.bool (decide ((keyF x : Int) < (keyF y : Int)))) ∧ w = w' := by
  have c1 := flo_key x w hx
  have c2 := flo_key y w hy
  refine enter Try.func89 rfl (by kernel_rfl) ?_
  refine J.seq ?_
  refine J.region ?_
  refine L.va rfl (X.assign (by conv => lhs; whnf)) ?_
  refine L.nil ?_
  refine J.seq ?_
  refine J.region ?_
  refine L.va rfl (X.move (by conv => lhs; whnf)) ?_
  refine L.call rfl en_61 rfl (c1) ?_
  rintro e _ ⟨rfl, rfl⟩
  refine ⟨_, rfl, ?_⟩
  refine L.va rfl (X.move (by conv => lhs; whnf)) ?_
  refine L.call rfl en_61 rfl (c2) ?_
  rintro e _ ⟨rfl, rfl⟩
  refine ⟨_, rfl, ?_⟩
  refine L.va rfl (X.lss rfl rfl) ?_
  refine L.va rfl (X.assign (by conv => lhs; whnf)) ?_
  refine L.nil ?_
  refine J.ret ?_
  refine fin1 ?_
  exact ⟨rfl, rfl⟩
theorem ehead (A : Option Addr) (n c : Nat) (b : List Int) (w : World) {N : Nat} (hr : Reads w N 1 A n (nums .u8 b)) (hb : InB 256 b) (hl : b.length = n) : Calls Try.prog 115 #[.slice A n c] w fun e w' => e = .returned (.int .i64 (headE b)) ∧ Ext w w' := by
  have b0 := at_b hb 0
  have b1 := at_b hb 1
  have b2 := at_b hb 2
  have a32 := and32 b0
  have a16 := and16 b0
  have six : ∀ w' : World, Ext w w' → (H1 b ∨ H2 b ∨ H3 b) → Ending.returned (.int .i64 6) = .returned (.int .i64 (headE b)) ∧ Ext w w' := fun w' he h => ⟨by unfold headE; rw [if_pos h], he⟩
  refine enter Try.func115 rfl (by kernel_rfl) ?_
  refine J.seq ?_
  refine J.region ?_
  refine L.va rfl (X.assign (by conv => lhs; whnf)) ?_
  refine L.nil ?_
  refine J.cut (X := Unit) [2, 3, 4, 5, 6, 7, 8, 9, 10, 11, 12, 13, 14, 15, 16, 17, 18, 19, 20, 21, 22, 23, 24, 25] (fun _ => []) (fun _ w' => ¬ H1 b ∧ w = w') ?_ ?_
  · skip
    refine J.seq ?_
    refine J.region ?_
    refine L.va rfl (X.move (by conv => lhs; whnf)) ?_
    refine L.va rfl (X.len rfl Try.underlying91) ?_
    refine L.va rfl (X.gtr rfl rfl) ?_
    refine L.va rfl (X.move (by conv => lhs; whnf)) ?_
    refine L.caseDec (k := 6) rfl (fun h1 => ?_) (fun h1 => ?_)
    · have hA := hr.some_ (by omega)
      refine L.va rfl (X.move (by conv => lhs; whnf)) ?_
      refine L.va rfl (X.index1n (j := 0) rfl rfl Try.underlying91 sz_5 (by first | exact Option.some_ne_none _ | exact hr.some_ (by omega) | exact hA) (by omega)) ?_
      refine L.va rfl (X.load rfl sc_5 (by first | exact Ld.num hr (by omega) | exact hA)) ?_
      refine L.va rfl (X.gtr rfl rfl) ?_
      refine L.va rfl (X.move (by conv => lhs; whnf)) ?_
      refine L.caseDec (k := 11) rfl (fun h2 => ?_) (fun h2 => ?_)
      · refine L.no rfl ?_
        refine L.no rfl ?_
        refine L.no rfl ?_
        refine L.no rfl ?_
        refine L.no rfl ?_
        refine L.no rfl ?_
        refine L.no rfl ?_
        refine L.no rfl ?_
        refine L.no rfl ?_
        refine L.no rfl ?_
        refine L.no rfl ?_
        refine L.no rfl ?_
        refine L.va rfl (X.pickT rfl (by conv => lhs; whnf)) ?_
        refine L.va rfl (X.pickT rfl (by conv => lhs; whnf)) ?_
        refine L.nil ?_
        refine J.iteT rfl ?_
        refine J.seq ?_
        refine J.region ?_
        refine L.va rfl (X.assign (by conv => lhs; whnf)) ?_
        refine L.nil ?_
        refine J.ret ?_
        refine thn_ret <| ?_
        refine fin1 ?_
        exact six _ (Ext.refl _) (.inl ⟨by omega, .inl h2⟩)
      · refine L.va rfl (X.move (by conv => lhs; whnf)) ?_
        refine L.va rfl (X.index1n (j := 0) rfl rfl Try.underlying91 sz_5 (by first | exact Option.some_ne_none _ | exact hr.some_ (by omega) | exact hA) (by omega)) ?_
        refine L.va rfl (X.load rfl sc_5 (by first | exact Ld.num hr (by omega) | exact hA)) ?_
        refine L.va rfl (X.and rfl rfl) ?_
        refine L.va rfl (X.neq rfl rfl) ?_
        refine L.va rfl (X.move (by conv => lhs; whnf)) ?_
        refine L.caseNdec (k := 17) rfl (fun h3 => ?_) (fun h3 => ?_)
        · have h3 : ¬ bits .and .u8 (b.getD 0 0) 32 = 0 := h3
          refine L.va rfl (X.move (by conv => lhs; whnf)) ?_
          refine L.va rfl (X.index1n (j := 0) rfl rfl Try.underlying91 sz_5 (by first | exact Option.some_ne_none _ | exact hr.some_ (by omega) | exact hA) (by omega)) ?_
          refine L.va rfl (X.load rfl sc_5 (by first | exact Ld.num hr (by omega) | exact hA)) ?_
          refine L.va rfl (X.and rfl rfl) ?_
          refine L.va rfl (X.eql rfl rfl) ?_
          refine L.va rfl (X.pickT rfl (by conv => lhs; whnf)) ?_
          refine L.va rfl (X.pickF rfl (by conv => lhs; whnf)) ?_
          refine L.va rfl (X.pickT rfl (by conv => lhs; whnf)) ?_
          refine L.nil ?_
          refine J.dec rfl (fun h4 => ?_) (fun h4 => ?_)
          · have h4 : bits .and .u8 (b.getD 0 0) 16 = 0 := h4
            refine J.seq ?_
            refine J.region ?_
            refine L.va rfl (X.assign (by conv => lhs; whnf)) ?_
            refine L.nil ?_
            refine J.ret ?_
            refine thn_ret <| ?_
            refine fin1 ?_
            exact six _ (Ext.refl _) (.inl ⟨by omega, .inr ⟨by omega, by omega⟩⟩)
          · have h4 : ¬ bits .and .u8 (b.getD 0 0) 16 = 0 := h4
            refine J.skip ?_
            refine ⟨(), At0 , (by (iterate 26 refine Agr.lk rfl ?_); exact Agr.rfl'), ?_⟩
            refine ⟨?_, rfl⟩
            rintro ⟨_, h | ⟨_, h⟩⟩ <;> omega
        · have h3 : bits .and .u8 (b.getD 0 0) 32 = 0 := h3
          refine L.no rfl ?_
          refine L.no rfl ?_
          refine L.no rfl ?_
          refine L.no rfl ?_
          refine L.no rfl ?_
          refine L.va rfl (X.pickF rfl (by conv => lhs; whnf)) ?_
          refine L.va rfl (X.pickF rfl (by conv => lhs; whnf)) ?_
          refine L.va rfl (X.pickT rfl (by conv => lhs; whnf)) ?_
          refine L.nil ?_
          refine J.iteF rfl ?_
          refine J.skip ?_
          refine ⟨(), At0 , (by (iterate 26 refine Agr.lk rfl ?_); exact Agr.rfl'), ?_⟩
          refine ⟨?_, rfl⟩
          rintro ⟨_, h | ⟨h, _⟩⟩ <;> omega
    · refine L.no rfl ?_
      refine L.no rfl ?_
      refine L.no rfl ?_
      refine L.no rfl ?_
      refine L.no rfl ?_
      refine L.no rfl ?_
      refine L.no rfl ?_
      refine L.no rfl ?_
      refine L.no rfl ?_
      refine L.no rfl ?_
      refine L.no rfl ?_
      refine L.no rfl ?_
      refine L.no rfl ?_
      refine L.no rfl ?_
      refine L.no rfl ?_
      refine L.no rfl ?_
      refine L.no rfl ?_
      refine L.no rfl ?_
      refine L.va rfl (X.pickF rfl (by conv => lhs; whnf)) ?_
      refine L.nil ?_
      refine J.iteF rfl ?_
      refine J.skip ?_
      refine ⟨(), At0 , (by (iterate 24 refine Agr.lk rfl ?_); exact Agr.rfl'), ?_⟩
      refine ⟨?_, rfl⟩
      rintro ⟨h, _⟩
      omega
  · rintro ⟨⟩ g w1 ⟨n1, rfl⟩
    refine J.cut (X := Unit) [2, 26, 27, 28, 29, 30, 31, 32, 33, 34, 35, 36, 37, 38, 39, 40, 41, 42, 43, 44, 45, 46, 47] (fun _ => []) (fun _ w' => ¬ H2 b ∧ w = w') ?_ ?_
    · skip
      refine J.seq ?_
      refine J.region ?_
      refine L.va rfl (X.move (by conv => lhs; whnf)) ?_
      refine L.va rfl (X.len rfl Try.underlying91) ?_
      refine L.va rfl (X.gtr rfl rfl) ?_
      refine L.va rfl (X.move (by conv => lhs; whnf)) ?_
      refine L.caseDec (k := 29) rfl (fun h1 => ?_) (fun h1 => ?_)
      · have hA := hr.some_ (by omega)
        refine L.va rfl (X.move (by conv => lhs; whnf)) ?_
        refine L.va rfl (X.index1n (j := 1) rfl rfl Try.underlying91 sz_5 (by first | exact Option.some_ne_none _ | exact hr.some_ (by omega) | exact hA) (by omega)) ?_
        refine L.va rfl (X.load rfl sc_5 (by first | exact Ld.num hr (by omega) | exact hA)) ?_
        refine L.va rfl (X.gtr rfl rfl) ?_
        refine L.va rfl (X.move (by conv => lhs; whnf)) ?_
        refine L.caseDec (k := 34) rfl (fun h2 => ?_) (fun h2 => ?_)
        · refine L.no rfl ?_
          refine L.no rfl ?_
          refine L.no rfl ?_
          refine L.no rfl ?_
          refine L.no rfl ?_
          refine L.no rfl ?_
          refine L.no rfl ?_
          refine L.no rfl ?_
          refine L.no rfl ?_
          refine L.no rfl ?_
          refine L.no rfl ?_
          refine L.va rfl (X.pickT rfl (by conv => lhs; whnf)) ?_
          refine L.va rfl (X.pickT rfl (by conv => lhs; whnf)) ?_
          refine L.nil ?_
          refine J.iteT rfl ?_
          refine J.seq ?_
          refine J.region ?_
          refine L.va rfl (X.assign (by conv => lhs; whnf)) ?_
          refine L.nil ?_
          refine J.ret ?_
          refine thn_ret <| ?_
          refine fin1 ?_
          exact six _ (Ext.refl _) (.inr (.inl ⟨by omega, .inl h2⟩))
        · refine L.va rfl (X.move (by conv => lhs; whnf)) ?_
          refine L.va rfl (X.index1n (j := 1) rfl rfl Try.underlying91 sz_5 (by first | exact Option.some_ne_none _ | exact hr.some_ (by omega) | exact hA) (by omega)) ?_
          refine L.va rfl (X.load rfl sc_5 (by first | exact Ld.num hr (by omega) | exact hA)) ?_
          refine L.va rfl (X.gtr rfl rfl) ?_
          refine L.va rfl (X.move (by conv => lhs; whnf)) ?_
          refine L.caseDec (k := 39) rfl (fun h3 => ?_) (fun h3 => ?_)
          · refine L.va rfl (X.move (by conv => lhs; whnf)) ?_
            refine L.va rfl (X.index1n (j := 0) rfl rfl Try.underlying91 sz_5 (by first | exact Option.some_ne_none _ | exact hr.some_ (by omega) | exact hA) (by omega)) ?_
            refine L.va rfl (X.load rfl sc_5 (by first | exact Ld.num hr (by omega) | exact hA)) ?_
            refine L.va rfl (X.and rfl rfl) ?_
            refine L.va rfl (X.eql rfl rfl) ?_
            refine L.va rfl (X.pickT rfl (by conv => lhs; whnf)) ?_
            refine L.va rfl (X.pickF rfl (by conv => lhs; whnf)) ?_
            refine L.va rfl (X.pickT rfl (by conv => lhs; whnf)) ?_
            refine L.nil ?_
            refine J.dec rfl (fun h4 => ?_) (fun h4 => ?_)
            · have h4 : bits .and .u8 (b.getD 0 0) 16 = 0 := h4
              refine J.seq ?_
              refine J.region ?_
              refine L.va rfl (X.assign (by conv => lhs; whnf)) ?_
              refine L.nil ?_
              refine J.ret ?_
              refine thn_ret <| ?_
              refine fin1 ?_
              exact six _ (Ext.refl _) (.inr (.inl ⟨by omega, .inr ⟨by omega, by omega⟩⟩))
            · have h4 : ¬ bits .and .u8 (b.getD 0 0) 16 = 0 := h4
              refine J.skip ?_
              refine ⟨(), At0 , (by (iterate 25 refine Agr.lk rfl ?_); exact Agr.rfl'), ?_⟩
              refine ⟨?_, rfl⟩
              rintro ⟨_, h | ⟨_, h⟩⟩ <;> omega
          · refine L.no rfl ?_
            refine L.no rfl ?_
            refine L.no rfl ?_
            refine L.no rfl ?_
            refine L.no rfl ?_
            refine L.va rfl (X.pickF rfl (by conv => lhs; whnf)) ?_
            refine L.va rfl (X.pickF rfl (by conv => lhs; whnf)) ?_
            refine L.va rfl (X.pickT rfl (by conv => lhs; whnf)) ?_
            refine L.nil ?_
            refine J.iteF rfl ?_
            refine J.skip ?_
            refine ⟨(), At0 , (by (iterate 25 refine Agr.lk rfl ?_); exact Agr.rfl'), ?_⟩
            refine ⟨?_, rfl⟩
            rintro ⟨_, h | ⟨h, _⟩⟩ <;> omega
      · refine L.no rfl ?_
        refine L.no rfl ?_
        refine L.no rfl ?_
        refine L.no rfl ?_
        refine L.no rfl ?_
        refine L.no rfl ?_
        refine L.no rfl ?_
        refine L.no rfl ?_
        refine L.no rfl ?_
        refine L.no rfl ?_
        refine L.no rfl ?_
        refine L.no rfl ?_
        refine L.no rfl ?_
        refine L.no rfl ?_
        refine L.no rfl ?_
        refine L.no rfl ?_
        refine L.no rfl ?_
        refine L.va rfl (X.pickF rfl (by conv => lhs; whnf)) ?_
        refine L.nil ?_
        refine J.iteF rfl ?_
        refine J.skip ?_
        refine ⟨(), At0 , (by (iterate 23 refine Agr.lk rfl ?_); exact Agr.rfl'), ?_⟩
        refine ⟨?_, rfl⟩
        rintro ⟨h, _⟩
        omega
    · rintro ⟨⟩ g w1 ⟨n2, rfl⟩
      refine J.cut (X := Unit) [2, 48, 49, 50, 51, 52, 53, 54, 55, 56, 57, 58, 59, 60, 61, 62, 63, 64, 65, 66, 67, 68, 69, 70, 71, 72, 73, 74, 75, 76, 77, 78, 79, 80, 81, 82, 83, 84, 85, 86, 87, 88, 89, 90, 91, 92, 93, 94] (fun _ => []) (fun _ w' => ¬ H3 b ∧ Ext w w') ?_ ?_
      · skip
        by_cases h1 : 2 < n
        · have hA := hr.some_ (by omega)
          refine J.seq ?_
          refine J.draw (ℓ := 1000000) (S := Ext w) mixed (fun w2 hS hS_h => ?_)
          refine D.va 0 rfl (by kernel_rfl) (fun _ _ _ h => h) rfl (fun w' hw => X.move (by conv => lhs; whnf)) hS ?_
          refine D.va 1 rfl (by kernel_rfl) (fun _ _ _ h => h) rfl (fun w' hw => X.len rfl Try.underlying91) hS ?_
          refine D.va 2 rfl (by kernel_rfl) (fun _ _ _ h => h) rfl (fun w' hw => X.gtr rfl rfl) hS ?_
          refine D.va 3 rfl (by kernel_rfl) (fun _ _ _ h => h) rfl (fun w' hw => X.move (by conv => lhs; whnf)) hS ?_
          refine D.caseDecT (k := 51) rfl (by omega) ?_
          refine D.va 4 rfl (by kernel_rfl) (fun _ _ _ h => h) rfl (fun w' hw => X.move (by conv => lhs; whnf)) hS ?_
          refine D.va 5 rfl (by kernel_rfl) (fun _ _ _ h => h) rfl (fun w' hw => X.index1n (j := 1) rfl rfl Try.underlying91 sz_5 (by first | exact Option.some_ne_none _ | exact hr.some_ (by omega) | exact hA) (by omega)) hS ?_
          refine D.va 6 rfl (by kernel_rfl) (fun _ _ _ h => h) rfl (fun w' hw => X.load rfl sc_5 (by first | exact Ld.num (hr.ext hw) (by omega) | exact hA)) hS ?_
          refine D.va 7 rfl (by kernel_rfl) (fun _ _ _ h => h) rfl (fun w' hw => (by first | exact X.convI rfl is_5 Try.underlying3 (by omega) | exact X.convw rfl is_5 Try.underlying3)) hS ?_
          refine D.va 8 rfl (by kernel_rfl) (fun _ _ _ h => h) rfl (fun w' hw => X.move (by conv => lhs; whnf)) hS ?_
          refine D.va 9 rfl (by kernel_rfl) (fun _ _ _ h => h) rfl (fun w' hw => X.index1n (j := 2) rfl rfl Try.underlying91 sz_5 (by first | exact Option.some_ne_none _ | exact hr.some_ (by omega) | exact hA) (by omega)) hS ?_
          refine D.va 10 rfl (by kernel_rfl) (fun _ _ _ h => h) rfl (fun w' hw => X.load rfl sc_5 (by first | exact Ld.num (hr.ext hw) (by omega) | exact hA)) hS ?_
          refine D.va 11 rfl (by kernel_rfl) (fun _ _ _ h => h) rfl (fun w' hw => (by first | exact X.convI rfl is_5 Try.underlying3 (by omega) | exact X.convw rfl is_5 Try.underlying3)) hS ?_
          refine D.va 12 rfl (by kernel_rfl) (fun _ _ _ h => h) rfl (fun w' hw => X.add rfl rfl (by omega)) hS ?_
          refine D.va 13 rfl (by kernel_rfl) (fun _ _ _ h => h) rfl (fun w' hw => X.gtr rfl rfl) hS ?_
          refine D.va 14 rfl (by kernel_rfl) (fun _ _ _ h => h) rfl (fun w' hw => X.move (by conv => lhs; whnf)) hS ?_
          refine D.caseDec (k := 62) rfl (fun h2 => ?_) (fun h2 => ?_)
          · refine D.no 15 rfl (by kernel_rfl) (fun _ _ _ h => h) rfl hS ?_
            refine D.no 16 rfl (by kernel_rfl) (fun _ _ _ h => h) rfl hS ?_
            refine D.no 17 rfl (by kernel_rfl) (fun _ _ _ h => h) rfl hS ?_
            refine D.no 18 rfl (by kernel_rfl) (fun _ _ _ h => h) rfl hS ?_
            refine D.no 19 rfl (by kernel_rfl) (fun _ _ _ h => h) rfl hS ?_
            refine D.no 20 rfl (by kernel_rfl) (fun _ _ _ h => h) rfl hS ?_
            refine D.no 21 rfl (by kernel_rfl) (fun _ _ _ h => h) rfl hS ?_
            refine D.no 22 rfl (by kernel_rfl) (fun _ _ _ h => h) rfl hS ?_
            refine D.no 23 rfl (by kernel_rfl) (fun _ _ _ h => h) rfl hS ?_
            refine D.no 24 rfl (by kernel_rfl) (fun _ _ _ h => h) rfl hS ?_
            refine D.no 25 rfl (by kernel_rfl) (fun _ _ _ h => h) rfl hS ?_
            refine D.va 26 rfl (by kernel_rfl) (fun _ _ _ h => h) rfl (fun w' hw => X.pickT rfl (by conv => lhs; whnf)) hS ?_
            refine D.va 27 rfl (by kernel_rfl) (fun _ _ _ h => h) rfl (fun w' hw => X.move (by conv => lhs; whnf)) hS ?_
            refine D.no 28 rfl (by kernel_rfl) (fun _ _ _ h => h) rfl hS ?_
            refine D.no 29 rfl (by kernel_rfl) (fun _ _ _ h => h) rfl hS ?_
            refine D.no 30 rfl (by kernel_rfl) (fun _ _ _ h => h) rfl hS ?_
            refine D.no 31 rfl (by kernel_rfl) (fun _ _ _ h => h) rfl hS ?_
            refine D.no 32 rfl (by kernel_rfl) (fun _ _ _ h => h) rfl hS ?_
            refine D.no 33 rfl (by kernel_rfl) (fun _ _ _ h => h) rfl hS ?_
            refine D.no 34 rfl (by kernel_rfl) (fun _ _ _ h => h) rfl hS ?_
            refine D.no 35 rfl (by kernel_rfl) (fun _ _ _ h => h) rfl hS ?_
            refine D.no 36 rfl (by kernel_rfl) (fun _ _ _ h => h) rfl hS ?_
            refine D.no 37 rfl (by kernel_rfl) (fun _ _ _ h => h) rfl hS ?_
            refine D.no 38 rfl (by kernel_rfl) (fun _ _ _ h => h) rfl hS ?_
            refine D.no 39 rfl (by kernel_rfl) (fun _ _ _ h => h) rfl hS ?_
            refine D.no 40 rfl (by kernel_rfl) (fun _ _ _ h => h) rfl hS ?_
            refine D.no 41 rfl (by kernel_rfl) (fun _ _ _ h => h) rfl hS ?_
            refine D.no 42 rfl (by kernel_rfl) (fun _ _ _ h => h) rfl hS ?_
            refine D.no 43 rfl (by kernel_rfl) (fun _ _ _ h => h) rfl hS ?_
            refine D.no 44 rfl (by kernel_rfl) (fun _ _ _ h => h) rfl hS ?_
            refine D.va 45 rfl (by kernel_rfl) (fun _ _ _ h => h) rfl (fun w' hw => X.pickT rfl (by conv => lhs; whnf)) hS ?_
            refine D.va 46 rfl (by kernel_rfl) (fun _ _ _ h => h) rfl (fun w' hw => X.pickT rfl (by conv => lhs; whnf)) hS ?_
            refine D.done (by kernel_rfl) ?_
            replace hr := hr.ext hS
            refine J.iteT rfl ?_
            refine J.seq ?_
            refine J.region ?_
            refine L.va rfl (X.assign (by conv => lhs; whnf)) ?_
            refine L.nil ?_
            refine J.ret ?_
            refine thn_ret <| ?_
            refine fin1 ?_
            exact six _ hS (.inr (.inr ⟨by omega, .inl h2⟩))
          · refine D.va 15 rfl (by kernel_rfl) (fun _ _ _ h => h) rfl (fun w' hw => X.move (by conv => lhs; whnf)) hS ?_
            refine D.va 16 rfl (by kernel_rfl) (fun _ _ _ h => h) rfl (fun w' hw => X.index1n (j := 2) rfl rfl Try.underlying91 sz_5 (by first | exact Option.some_ne_none _ | exact hr.some_ (by omega) | exact hA) (by omega)) hS ?_
            refine D.va 17 rfl (by kernel_rfl) (fun _ _ _ h => h) rfl (fun w' hw => X.load rfl sc_5 (by first | exact Ld.num (hr.ext hw) (by omega) | exact hA)) hS ?_
            refine D.va 18 rfl (by kernel_rfl) (fun _ _ _ h => h) rfl (fun w' hw => X.gtr rfl rfl) hS ?_
            refine D.va 19 rfl (by kernel_rfl) (fun _ _ _ h => h) rfl (fun w' hw => X.move (by conv => lhs; whnf)) hS ?_
            refine D.caseDec (k := 67) rfl (fun h3 => ?_) (fun h3 => ?_)
            · refine D.va 20 rfl (by kernel_rfl) (fun _ _ _ h => h) rfl (fun w' hw => X.move (by conv => lhs; whnf)) hS ?_
              refine D.va 21 rfl (by kernel_rfl) (fun _ _ _ h => h) rfl (fun w' hw => X.index1n (j := 0) rfl rfl Try.underlying91 sz_5 (by first | exact Option.some_ne_none _ | exact hr.some_ (by omega) | exact hA) (by omega)) hS ?_
              refine D.va 22 rfl (by kernel_rfl) (fun _ _ _ h => h) rfl (fun w' hw => X.load rfl sc_5 (by first | exact Ld.num (hr.ext hw) (by omega) | exact hA)) hS ?_
              refine D.va 23 rfl (by kernel_rfl) (fun _ _ _ h => h) rfl (fun w' hw => X.and rfl rfl) hS ?_
              refine D.va 24 rfl (by kernel_rfl) (fun _ _ _ h => h) rfl (fun w' hw => X.eql rfl rfl) hS ?_
              refine D.va 25 rfl (by kernel_rfl) (fun _ _ _ h => h) rfl (fun w' hw => X.pickT rfl (by conv => lhs; whnf)) hS ?_
              refine D.va 26 rfl (by kernel_rfl) (fun _ _ _ h => h) rfl (fun w' hw => X.pickF rfl (by conv => lhs; whnf)) hS ?_
              refine D.va 27 rfl (by kernel_rfl) (fun _ _ _ h => h) rfl (fun w' hw => X.move (by conv => lhs; whnf)) hS ?_
              refine D.caseDec (k := 75) rfl (fun h4 => ?_) (fun h4 => ?_)
              · have h4 : bits .and .u8 (b.getD 0 0) 16 = 0 := h4
                refine D.no 28 rfl (by kernel_rfl) (fun _ _ _ h => h) rfl hS ?_
                refine D.no 29 rfl (by kernel_rfl) (fun _ _ _ h => h) rfl hS ?_
                refine D.no 30 rfl (by kernel_rfl) (fun _ _ _ h => h) rfl hS ?_
                refine D.no 31 rfl (by kernel_rfl) (fun _ _ _ h => h) rfl hS ?_
                refine D.no 32 rfl (by kernel_rfl) (fun _ _ _ h => h) rfl hS ?_
                refine D.no 33 rfl (by kernel_rfl) (fun _ _ _ h => h) rfl hS ?_
                refine D.no 34 rfl (by kernel_rfl) (fun _ _ _ h => h) rfl hS ?_
                refine D.no 35 rfl (by kernel_rfl) (fun _ _ _ h => h) rfl hS ?_
                refine D.no 36 rfl (by kernel_rfl) (fun _ _ _ h => h) rfl hS ?_
                refine D.no 37 rfl (by kernel_rfl) (fun _ _ _ h => h) rfl hS ?_
                refine D.no 38 rfl (by kernel_rfl) (fun _ _ _ h => h) rfl hS ?_
                refine D.no 39 rfl (by kernel_rfl) (fun _ _ _ h => h) rfl hS ?_
                refine D.no 40 rfl (by kernel_rfl) (fun _ _ _ h => h) rfl hS ?_
                refine D.no 41 rfl (by kernel_rfl) (fun _ _ _ h => h) rfl hS ?_
                refine D.no 42 rfl (by kernel_rfl) (fun _ _ _ h => h) rfl hS ?_
                refine D.no 43 rfl (by kernel_rfl) (fun _ _ _ h => h) rfl hS ?_
                refine D.no 44 rfl (by kernel_rfl) (fun _ _ _ h => h) rfl hS ?_
                refine D.va 45 rfl (by kernel_rfl) (fun _ _ _ h => h) rfl (fun w' hw => X.pickT rfl (by conv => lhs; whnf)) hS ?_
                refine D.va 46 rfl (by kernel_rfl) (fun _ _ _ h => h) rfl (fun w' hw => X.pickT rfl (by conv => lhs; whnf)) hS ?_
                refine D.done (by kernel_rfl) ?_
                replace hr := hr.ext hS
                refine J.iteT rfl ?_
                refine J.seq ?_
                refine J.region ?_
                refine L.va rfl (X.assign (by conv => lhs; whnf)) ?_
                refine L.nil ?_
                refine J.ret ?_
                refine thn_ret <| ?_
                refine fin1 ?_
                exact six _ hS (.inr (.inr ⟨by omega, .inr (.inl ⟨by omega, by omega⟩)⟩))
              · have h4 : ¬ bits .and .u8 (b.getD 0 0) 16 = 0 := h4
                refine D.va 28 rfl (by kernel_rfl) (fun _ _ _ h => h) rfl (fun w' hw => X.move (by conv => lhs; whnf)) hS ?_
                refine D.va 29 rfl (by kernel_rfl) (fun _ _ _ h => h) rfl (fun w' hw => X.index1n (j := 2) rfl rfl Try.underlying91 sz_5 (by first | exact Option.some_ne_none _ | exact hr.some_ (by omega) | exact hA) (by omega)) hS ?_
                refine D.va 30 rfl (by kernel_rfl) (fun _ _ _ h => h) rfl (fun w' hw => X.load rfl sc_5 (by first | exact Ld.num (hr.ext hw) (by omega) | exact hA)) hS ?_
                refine D.va 31 rfl (by kernel_rfl) (fun _ _ _ h => h) rfl (fun w' hw => X.eql rfl rfl) hS ?_
                refine D.va 32 rfl (by kernel_rfl) (fun _ _ _ h => h) rfl (fun w' hw => X.move (by conv => lhs; whnf)) hS ?_
                refine D.caseDecF (k := 80) rfl (by omega) ?_
                refine D.no 33 rfl (by kernel_rfl) (fun _ _ _ h => h) rfl hS ?_
                refine D.no 34 rfl (by kernel_rfl) (fun _ _ _ h => h) rfl hS ?_
                refine D.no 35 rfl (by kernel_rfl) (fun _ _ _ h => h) rfl hS ?_
                refine D.no 36 rfl (by kernel_rfl) (fun _ _ _ h => h) rfl hS ?_
                refine D.no 37 rfl (by kernel_rfl) (fun _ _ _ h => h) rfl hS ?_
                refine D.no 38 rfl (by kernel_rfl) (fun _ _ _ h => h) rfl hS ?_
                refine D.no 39 rfl (by kernel_rfl) (fun _ _ _ h => h) rfl hS ?_
                refine D.no 40 rfl (by kernel_rfl) (fun _ _ _ h => h) rfl hS ?_
                refine D.no 41 rfl (by kernel_rfl) (fun _ _ _ h => h) rfl hS ?_
                refine D.no 42 rfl (by kernel_rfl) (fun _ _ _ h => h) rfl hS ?_
                refine D.no 43 rfl (by kernel_rfl) (fun _ _ _ h => h) rfl hS ?_
                refine D.va 44 rfl (by kernel_rfl) (fun _ _ _ h => h) rfl (fun w' hw => X.pickF rfl (by conv => lhs; whnf)) hS ?_
                refine D.va 45 rfl (by kernel_rfl) (fun _ _ _ h => h) rfl (fun w' hw => X.pickF rfl (by conv => lhs; whnf)) hS ?_
                refine D.va 46 rfl (by kernel_rfl) (fun _ _ _ h => h) rfl (fun w' hw => X.pickT rfl (by conv => lhs; whnf)) hS ?_
                refine D.done (by kernel_rfl) ?_
                replace hr := hr.ext hS
                refine J.iteF rfl ?_
                refine J.skip ?_
                refine ⟨(), At0 , (by (iterate 52 refine Agr.lk rfl ?_); exact Agr.rfl'), ?_⟩
                refine ⟨?_, hS⟩
                rintro ⟨_, h | ⟨_, h⟩ | ⟨h, _⟩⟩ <;> omega
            · refine D.no 20 rfl (by kernel_rfl) (fun _ _ _ h => h) rfl hS ?_
              refine D.no 21 rfl (by kernel_rfl) (fun _ _ _ h => h) rfl hS ?_
              refine D.no 22 rfl (by kernel_rfl) (fun _ _ _ h => h) rfl hS ?_
              refine D.no 23 rfl (by kernel_rfl) (fun _ _ _ h => h) rfl hS ?_
              refine D.no 24 rfl (by kernel_rfl) (fun _ _ _ h => h) rfl hS ?_
              refine D.va 25 rfl (by kernel_rfl) (fun _ _ _ h => h) rfl (fun w' hw => X.pickF rfl (by conv => lhs; whnf)) hS ?_
              refine D.va 26 rfl (by kernel_rfl) (fun _ _ _ h => h) rfl (fun w' hw => X.pickF rfl (by conv => lhs; whnf)) hS ?_
              refine D.va 27 rfl (by kernel_rfl) (fun _ _ _ h => h) rfl (fun w' hw => X.move (by conv => lhs; whnf)) hS ?_
              refine D.va 28 rfl (by kernel_rfl) (fun _ _ _ h => h) rfl (fun w' hw => X.move (by conv => lhs; whnf)) hS ?_
              refine D.va 29 rfl (by kernel_rfl) (fun _ _ _ h => h) rfl (fun w' hw => X.index1n (j := 2) rfl rfl Try.underlying91 sz_5 (by first | exact Option.some_ne_none _ | exact hr.some_ (by omega) | exact hA) (by omega)) hS ?_
              refine D.va 30 rfl (by kernel_rfl) (fun _ _ _ h => h) rfl (fun w' hw => X.load rfl sc_5 (by first | exact Ld.num (hr.ext hw) (by omega) | exact hA)) hS ?_
              refine D.va 31 rfl (by kernel_rfl) (fun _ _ _ h => h) rfl (fun w' hw => X.eql rfl rfl) hS ?_
              refine D.va 32 rfl (by kernel_rfl) (fun _ _ _ h => h) rfl (fun w' hw => X.move (by conv => lhs; whnf)) hS ?_
              refine D.caseDecT (k := 80) rfl (by omega) ?_
              refine D.va 33 rfl (by kernel_rfl) (fun _ _ _ h => h) rfl (fun w' hw => X.move (by conv => lhs; whnf)) hS ?_
              refine D.va 34 rfl (by kernel_rfl) (fun _ _ _ h => h) rfl (fun w' hw => X.index1n (j := 1) rfl rfl Try.underlying91 sz_5 (by first | exact Option.some_ne_none _ | exact hr.some_ (by omega) | exact hA) (by omega)) hS ?_
              refine D.va 35 rfl (by kernel_rfl) (fun _ _ _ h => h) rfl (fun w' hw => X.load rfl sc_5 (by first | exact Ld.num (hr.ext hw) (by omega) | exact hA)) hS ?_
              refine D.va 36 rfl (by kernel_rfl) (fun _ _ _ h => h) rfl (fun w' hw => X.gtr rfl rfl) hS ?_
              refine D.va 37 rfl (by kernel_rfl) (fun _ _ _ h => h) rfl (fun w' hw => X.move (by conv => lhs; whnf)) hS ?_
              refine D.caseDec (k := 85) rfl (fun h5 => ?_) (fun h5 => ?_)
              · refine D.no 38 rfl (by kernel_rfl) (fun _ _ _ h => h) rfl hS ?_
                refine D.no 39 rfl (by kernel_rfl) (fun _ _ _ h => h) rfl hS ?_
                refine D.no 40 rfl (by kernel_rfl) (fun _ _ _ h => h) rfl hS ?_
                refine D.no 41 rfl (by kernel_rfl) (fun _ _ _ h => h) rfl hS ?_
                refine D.no 42 rfl (by kernel_rfl) (fun _ _ _ h => h) rfl hS ?_
                refine D.va 43 rfl (by kernel_rfl) (fun _ _ _ h => h) rfl (fun w' hw => X.pickT rfl (by conv => lhs; whnf)) hS ?_
                refine D.va 44 rfl (by kernel_rfl) (fun _ _ _ h => h) rfl (fun w' hw => X.pickT rfl (by conv => lhs; whnf)) hS ?_
                refine D.va 45 rfl (by kernel_rfl) (fun _ _ _ h => h) rfl (fun w' hw => X.pickF rfl (by conv => lhs; whnf)) hS ?_
                refine D.va 46 rfl (by kernel_rfl) (fun _ _ _ h => h) rfl (fun w' hw => X.pickT rfl (by conv => lhs; whnf)) hS ?_
                refine D.done (by kernel_rfl) ?_
                replace hr := hr.ext hS
                refine J.iteT rfl ?_
                refine J.seq ?_
                refine J.region ?_
                refine L.va rfl (X.assign (by conv => lhs; whnf)) ?_
                refine L.nil ?_
                refine J.ret ?_
                refine thn_ret <| ?_
                refine fin1 ?_
                exact six _ hS (.inr (.inr ⟨by omega, .inr (.inr ⟨by omega, .inl h5⟩)⟩))
              · refine D.va 38 rfl (by kernel_rfl) (fun _ _ _ h => h) rfl (fun w' hw => X.move (by conv => lhs; whnf)) hS ?_
                refine D.va 39 rfl (by kernel_rfl) (fun _ _ _ h => h) rfl (fun w' hw => X.index1n (j := 0) rfl rfl Try.underlying91 sz_5 (by first | exact Option.some_ne_none _ | exact hr.some_ (by omega) | exact hA) (by omega)) hS ?_
                refine D.va 40 rfl (by kernel_rfl) (fun _ _ _ h => h) rfl (fun w' hw => X.load rfl sc_5 (by first | exact Ld.num (hr.ext hw) (by omega) | exact hA)) hS ?_
                refine D.va 41 rfl (by kernel_rfl) (fun _ _ _ h => h) rfl (fun w' hw => X.and rfl rfl) hS ?_
                refine D.va 42 rfl (by kernel_rfl) (fun _ _ _ h => h) rfl (fun w' hw => X.neq rfl rfl) hS ?_
                refine D.va 43 rfl (by kernel_rfl) (fun _ _ _ h => h) rfl (fun w' hw => X.pickF rfl (by conv => lhs; whnf)) hS ?_
                refine D.va 44 rfl (by kernel_rfl) (fun _ _ _ h => h) rfl (fun w' hw => X.pickT rfl (by conv => lhs; whnf)) hS ?_
                refine D.va 45 rfl (by kernel_rfl) (fun _ _ _ h => h) rfl (fun w' hw => X.pickF rfl (by conv => lhs; whnf)) hS ?_
                refine D.va 46 rfl (by kernel_rfl) (fun _ _ _ h => h) rfl (fun w' hw => X.pickT rfl (by conv => lhs; whnf)) hS ?_
                refine D.done (by kernel_rfl) ?_
                replace hr := hr.ext hS
                refine J.ndec rfl (fun h6 => ?_) (fun h6 => ?_)
                · have h6 : ¬ bits .and .u8 (b.getD 0 0) 32 = 0 := h6
                  refine J.seq ?_
                  refine J.region ?_
                  refine L.va rfl (X.assign (by conv => lhs; whnf)) ?_
                  refine L.nil ?_
                  refine J.ret ?_
                  refine thn_ret <| ?_
                  refine fin1 ?_
                  exact six _ hS (.inr (.inr ⟨by omega, .inr (.inr ⟨by omega, .inr (by omega)⟩)⟩))
                · have h6 : bits .and .u8 (b.getD 0 0) 32 = 0 := h6
                  refine J.skip ?_
                  refine ⟨(), At0 , (by (iterate 52 refine Agr.lk rfl ?_); exact Agr.rfl'), ?_⟩
                  refine ⟨?_, hS⟩
                  rintro ⟨_, h | ⟨h, _⟩ | ⟨_, h⟩⟩ <;> omega
        · refine J.seq ?_
          refine J.draw (ℓ := 1000000) (S := Ext w) mixed (fun w2 hS hS_h => ?_)
          refine D.va 0 rfl (by kernel_rfl) (fun _ _ _ h => h) rfl (fun w' hw => X.move (by conv => lhs; whnf)) hS ?_
          refine D.va 1 rfl (by kernel_rfl) (fun _ _ _ h => h) rfl (fun w' hw => X.len rfl Try.underlying91) hS ?_
          refine D.va 2 rfl (by kernel_rfl) (fun _ _ _ h => h) rfl (fun w' hw => X.gtr rfl rfl) hS ?_
          refine D.va 3 rfl (by kernel_rfl) (fun _ _ _ h => h) rfl (fun w' hw => X.move (by conv => lhs; whnf)) hS ?_
          refine D.caseDecF (k := 51) rfl (by omega) ?_
          refine D.no 4 rfl (by kernel_rfl) (fun _ _ _ h => h) rfl hS ?_
          refine D.no 5 rfl (by kernel_rfl) (fun _ _ _ h => h) rfl hS ?_
          refine D.no 6 rfl (by kernel_rfl) (fun _ _ _ h => h) rfl hS ?_
          refine D.no 7 rfl (by kernel_rfl) (fun _ _ _ h => h) rfl hS ?_
          refine D.no 8 rfl (by kernel_rfl) (fun _ _ _ h => h) rfl hS ?_
          refine D.no 9 rfl (by kernel_rfl) (fun _ _ _ h => h) rfl hS ?_
          refine D.no 10 rfl (by kernel_rfl) (fun _ _ _ h => h) rfl hS ?_
          refine D.no 11 rfl (by kernel_rfl) (fun _ _ _ h => h) rfl hS ?_
          refine D.no 12 rfl (by kernel_rfl) (fun _ _ _ h => h) rfl hS ?_
          refine D.no 13 rfl (by kernel_rfl) (fun _ _ _ h => h) rfl hS ?_
          refine D.no 14 rfl (by kernel_rfl) (fun _ _ _ h => h) rfl hS ?_
          refine D.no 15 rfl (by kernel_rfl) (fun _ _ _ h => h) rfl hS ?_
          refine D.no 16 rfl (by kernel_rfl) (fun _ _ _ h => h) rfl hS ?_
          refine D.no 17 rfl (by kernel_rfl) (fun _ _ _ h => h) rfl hS ?_
          refine D.no 18 rfl (by kernel_rfl) (fun _ _ _ h => h) rfl hS ?_
          refine D.no 19 rfl (by kernel_rfl) (fun _ _ _ h => h) rfl hS ?_
          refine D.no 20 rfl (by kernel_rfl) (fun _ _ _ h => h) rfl hS ?_
          refine D.no 21 rfl (by kernel_rfl) (fun _ _ _ h => h) rfl hS ?_
          refine D.no 22 rfl (by kernel_rfl) (fun _ _ _ h => h) rfl hS ?_
          refine D.no 23 rfl (by kernel_rfl) (fun _ _ _ h => h) rfl hS ?_
          refine D.no 24 rfl (by kernel_rfl) (fun _ _ _ h => h) rfl hS ?_
          refine D.no 25 rfl (by kernel_rfl) (fun _ _ _ h => h) rfl hS ?_
          refine D.no 26 rfl (by kernel_rfl) (fun _ _ _ h => h) rfl hS ?_
          refine D.no 27 rfl (by kernel_rfl) (fun _ _ _ h => h) rfl hS ?_
          refine D.no 28 rfl (by kernel_rfl) (fun _ _ _ h => h) rfl hS ?_
          refine D.no 29 rfl (by kernel_rfl) (fun _ _ _ h => h) rfl hS ?_
          refine D.no 30 rfl (by kernel_rfl) (fun _ _ _ h => h) rfl hS ?_
          refine D.no 31 rfl (by kernel_rfl) (fun _ _ _ h => h) rfl hS ?_
          refine D.no 32 rfl (by kernel_rfl) (fun _ _ _ h => h) rfl hS ?_
          refine D.no 33 rfl (by kernel_rfl) (fun _ _ _ h => h) rfl hS ?_
          refine D.no 34 rfl (by kernel_rfl) (fun _ _ _ h => h) rfl hS ?_
          refine D.no 35 rfl (by kernel_rfl) (fun _ _ _ h => h) rfl hS ?_
          refine D.no 36 rfl (by kernel_rfl) (fun _ _ _ h => h) rfl hS ?_
          refine D.no 37 rfl (by kernel_rfl) (fun _ _ _ h => h) rfl hS ?_
          refine D.no 38 rfl (by kernel_rfl) (fun _ _ _ h => h) rfl hS ?_
          refine D.no 39 rfl (by kernel_rfl) (fun _ _ _ h => h) rfl hS ?_
          refine D.no 40 rfl (by kernel_rfl) (fun _ _ _ h => h) rfl hS ?_
          refine D.no 41 rfl (by kernel_rfl) (fun _ _ _ h => h) rfl hS ?_
          refine D.no 42 rfl (by kernel_rfl) (fun _ _ _ h => h) rfl hS ?_
          refine D.no 43 rfl (by kernel_rfl) (fun _ _ _ h => h) rfl hS ?_
          refine D.no 44 rfl (by kernel_rfl) (fun _ _ _ h => h) rfl hS ?_
          refine D.no 45 rfl (by kernel_rfl) (fun _ _ _ h => h) rfl hS ?_
          refine D.va 46 rfl (by kernel_rfl) (fun _ _ _ h => h) rfl (fun w' hw => X.pickF rfl (by conv => lhs; whnf)) hS ?_
          refine D.done (by kernel_rfl) ?_
          refine J.iteF rfl ?_
          refine J.skip ?_
          refine ⟨(), At0 , (by (iterate 48 refine Agr.lk rfl ?_); exact Agr.rfl'), ?_⟩
          exact ⟨fun h => h1 (by have := h.1; omega), hS⟩
      · rintro ⟨⟩ g w2 ⟨n3, he2⟩
        refine J.seq ?_
        refine J.region ?_
        refine L.va rfl (X.assign (by conv => lhs; whnf)) ?_
        refine L.nil ?_
        refine J.ret ?_
        refine fin1 ?_
        have hh : headE b = 0 := if_neg (by
          rintro (h | h | h)
          · exact n1 h
          · exact n2 h
          · exact n3 h)
        refine ⟨?_, he2⟩
        rw [hh]
        rfl
end Go.Proofs.Ytpomklkfedpkfaa
namespace Go.Proofs.Ytpomklkfedpkfaa
set_option maxRecDepth 100000
open Go.RowKit H
open Exa
set_option linter.unusedVariables false
def ReadR (b : List Int) (w : World) (e : Ending) (w' : World) : Prop :=
  ∃ p : Value, e = .returned (.tuple #[p, .int .i64 (readE b)]) ∧ Ext w w' ∧ (readE b = 0 →
    ∃ (g : Nat) (A' : Option Addr) (q c' : Nat), p = .pointer (some ⟨g, 0, none⟩) ∧ w.heap.size ≤ g ∧ Blk w' g 168 #[.bool true, .int .u8 (bits .andNot .u8 (b.getD 0 0) 32), .bool (!decide (bits .and .u8 (b.getD 0 0) 32 = 0)), .slice A' q c'] ∧ q ≤ 70 ∧ (magOf b).length = q ∧ w'.ownsRow w.heap.size 53 1 (.slice A' q c') q (nums .u32 (magOf b)))
theorem ReadR.bad {b : List Int} {w w' : World} {e : Ending} {z : Int} (hz : readE b = z) (h0 : z ≠ 0) (he : e = .returned (.tuple #[.pointer none, .int .i64 z])) (hx : Ext w w') : ReadR b w e w' := ⟨_, by rw [he, hz], hx, fun h => absurd (hz.symm.trans h) h0⟩
theorem eread (A : Option Addr) (n c : Nat) (b : List Int) (w : World) {N : Nat} (hN : N ≤ w.heap.size) (hr : Reads w N 1 A n (nums .u8 b)) (hb : InB 256 b) (hl : b.length = n) (hn : n ≤ 1000000) : Calls Try.prog 88 #[.slice A n c] w (ReadR b w) := by
  have b0 := at_b hb 0
  have b1 := at_b hb 1
  have b2 := at_b hb 2
  have c1 := ehead A n c b w hr hb hl
  refine enter Try.func88 rfl (by kernel_rfl) ?_
  refine J.seq ?_
  refine J.region ?_
  refine L.va rfl (X.assign (by conv => lhs; whnf)) ?_
  refine L.va rfl (X.assign (by conv => lhs; whnf)) ?_
  refine L.nil ?_
  refine J.seq ?_
  refine J.seq ?_
  refine J.region ?_
  refine L.va rfl (X.move (by conv => lhs; whnf)) ?_
  refine L.call rfl en_115 rfl (c1) ?_
  rintro e w1 ⟨rfl, he1⟩
  refine ⟨_, rfl, ?_⟩
  have he1 : Ext w w1 := he1
  have z1 := he1.le
  refine L.va rfl (X.assign (by conv => lhs; whnf)) ?_
  refine L.nil ?_
  refine J.seq ?_
  refine J.region ?_
  refine L.va rfl (X.move (by conv => lhs; whnf)) ?_
  refine L.va rfl (X.neq rfl rfl) ?_
  refine L.nil ?_
  refine J.ndec rfl (fun h0 => ?_) (fun h0 => ?_)
  · refine J.seq ?_
    refine J.region ?_
    refine L.va rfl (X.move (by conv => lhs; whnf)) ?_
    refine L.va rfl (X.assign (by conv => lhs; whnf)) ?_
    refine L.va rfl (X.assign (by conv => lhs; whnf)) ?_
    refine L.nil ?_
    refine J.ret ?_
    refine thn_ret <| ?_
    refine fin2 ?_
    exact ReadR.bad ((readE_h h0).trans (headE_6 h0).symm) h0 rfl he1
  · have h0 : headE b = 0 := by omega
    have n3 : ¬ H3 b := fun h => by unfold headE at h0; rw [if_pos (.inr (.inr h))] at h0; cases h0
    refine J.skip ?_
    refine J.seq ?_
    refine J.seq ?_
    refine J.region ?_
    refine L.va rfl (X.move (by conv => lhs; whnf)) ?_
    refine L.va rfl (X.len rfl Try.underlying91) ?_
    refine L.va rfl (X.lss rfl rfl) ?_
    refine L.nil ?_
    refine J.dec rfl (fun h3 => ?_) (fun h3 => ?_)
    · refine J.seq ?_
      refine J.region ?_
      refine L.va rfl (X.assign (by conv => lhs; whnf)) ?_
      refine L.va rfl (X.assign (by conv => lhs; whnf)) ?_
      refine L.nil ?_
      refine J.ret ?_
      refine thn_ret <| ?_
      refine fin2 ?_
      exact ReadR.bad (readE_s h0 (by omega)) (by decide) rfl he1
    · have h3 : ¬ b.length < 3 := by omega
      obtain ⟨lo, elo⟩ := Int.eq_ofNat_of_zero_le b1.1
      obtain ⟨m, em⟩ := Int.eq_ofNat_of_zero_le b2.1
      have hq : lo + m ≤ 70 := by
        apply Decidable.byContradiction
        intro h
        exact n3 ⟨by omega, .inl (by omega)⟩
      have hA := hr.some_ (by omega)
      have hr1 := hr.ext he1
      refine J.skip ?_
      refine J.cut (X := Unit) [5, 6, 19, 20, 21, 22, 23, 24, 25, 26] (fun _ => [(5, .int .i64 (lo : Int)), (6, .int .i64 (m : Int))]) (fun _ w' => Ext w1 w') ?_ ?_
      ·
        refine J.draw (ℓ := 1000000) (S := Ext w1) mixed (fun w2 hS hS_h => ?_)
        refine D.va 0 rfl (by kernel_rfl) (fun _ _ _ h => h) rfl (fun w' hw => X.move (by conv => lhs; whnf)) hS ?_
        refine D.va 1 rfl (by kernel_rfl) (fun _ _ _ h => h) rfl (fun w' hw => X.index1n (j := 1) rfl rfl Try.underlying91 sz_5 (by first | exact Option.some_ne_none _ | exact hr1.some_ (by omega) | exact hA) (by omega)) hS ?_
        refine D.va 2 rfl (by kernel_rfl) (fun _ _ _ h => h) rfl (fun w' hw => X.load rfl sc_5 (by first | exact Ld.num (hr1.ext hw) (by omega) | exact hA)) hS ?_
        refine D.va 3 rfl (by kernel_rfl) (fun _ _ _ h => h) rfl (fun w' hw => (by first | exact X.convI rfl is_5 Try.underlying3 (by omega) | exact X.convw rfl is_5 Try.underlying3)) hS ?_
        refine D.va 4 rfl (by kernel_rfl) (fun _ _ _ h => h) rfl (fun w' hw => X.move (by conv => lhs; whnf)) hS ?_
        refine D.va 5 rfl (by kernel_rfl) (fun _ _ _ h => h) rfl (fun w' hw => X.index1n (j := 2) rfl rfl Try.underlying91 sz_5 (by first | exact Option.some_ne_none _ | exact hr1.some_ (by omega) | exact hA) (by omega)) hS ?_
        refine D.va 6 rfl (by kernel_rfl) (fun _ _ _ h => h) rfl (fun w' hw => X.load rfl sc_5 (by first | exact Ld.num (hr1.ext hw) (by omega) | exact hA)) hS ?_
        refine D.va 7 rfl (by kernel_rfl) (fun _ _ _ h => h) rfl (fun w' hw => (by first | exact X.convI rfl is_5 Try.underlying3 (by omega) | exact X.convw rfl is_5 Try.underlying3)) hS ?_
        refine D.va 8 rfl (by kernel_rfl) (fun _ _ _ h => h) rfl (fun w' hw => X.assign (by conv => lhs; whnf)) hS ?_
        refine D.va 9 rfl (by kernel_rfl) (fun _ _ _ h => h) rfl (fun w' hw => X.assign (by conv => lhs; whnf)) hS ?_
        refine D.done (by kernel_rfl) ?_
        replace hr1 := hr1.ext hS
        refine ⟨(), At2 (at_int rfl elo) (at_int rfl em), (by (iterate 10 refine Agr.lk rfl ?_); exact Agr.rfl'), ?_⟩
        exact hS
      · rintro ⟨⟩ g w2 he2
        refine J.seq ?_
        refine J.region ?_
        refine L.va rfl (X.move (by conv => lhs; whnf)) ?_
        refine L.va rfl (X.move (by conv => lhs; whnf)) ?_
        refine L.va rfl (X.add rfl rfl (by omega)) ?_
        refine L.make (q := lo + m) (c := lo + m) rfl rfl rfl Try.underlying45 el_53 (by omega) ?_
        intro b3 w3 hb3 hs3 hk3 he3
        rw [made_one rfl] at hk3
        have he03 := (he1.trans he2).trans he3
        have z2 := (he1.trans he2).le
        have ho3 : w3.ownsRow w.heap.size 53 1 (.slice (some ⟨b3, 0, none⟩) (lo + m) (lo + m)) (lo + m) (nums .u32 (mg b (lo + m) 0)) := by
          have := blk_own1 (base := w.heap.size) (q := lo + m) (l := List.replicate (lo + m) (Value.int .u32 0)) hk3 (by omega) (by unfold maxLen; omega) (by simp)
          have e : nums .u32 (mg b (lo + m) 0) = List.replicate (lo + m) (Value.int .u32 0) := by unfold mg nums; simp
          rw [e]
          exact this
        refine L.va rfl (X.assign (by conv => lhs; whnf)) ?_
        refine L.nil ?_
        refine J.seq ?_
        refine J.seq ?_
        refine J.region ?_
        refine L.va rfl (X.move (by conv => lhs; whnf)) ?_
        refine L.va rfl (X.move (by conv => lhs; whnf)) ?_
        refine L.nil ?_
        refine J.block ?_
        refine J.loop (X := Nat) [2, 3, 8, 9, 10, 32, 33, 34, 35, 36, 37, 38, 39, 40, 41, 42, 43, 44, 45, 46, 47, 48, 49, 50, 51, 52, 53, 54, 55, 56, 57, 58, 59, 60, 61, 62, 63, 64, 65, 66, 67, 68, 69, 70, 71, 72, 73, 74, 75, 76, 77, 78, 79, 80, 81, 82, 83, 84, 85, 86, 87, 88, 89, 90, 91, 92, 93, 94, 95, 96, 97] (fun i => [(32, .int .i64 (i : Int))]) (fun i w' => i ≤ m ∧ (∀ j, j < i → stepE b m j = 0) ∧ w'.ownsRow w.heap.size 53 1 (.slice (some ⟨b3, 0, none⟩) (lo + m) (lo + m)) (lo + m) (nums .u32 (mg b (lo + m) i)) ∧ Ext w w') (fun i => m - i) (0) (At1 (by first | rfl | exact at_int rfl (by omega) | exact at_slice rfl (by omega) | exact at_int rfl (by simp))) ?_ ?_
        · exact ⟨Nat.zero_le _, fun j hj => absurd hj (by omega), ho3, he03⟩
        · rintro i g w4 ⟨hi, hs, ho4, he4⟩
          have z4 := he4.le
          have bad : ∀ z : Int, z ≠ 0 → i < m → stepE b m i = z → readE b = z := fun z hz him e => by
            have := wordsE_at him hs (by rw [e]; exact hz)
            rw [readE_w h0 h3 em (by rw [this, e]; exact hz), this, e]
          refine J.seq ?_
          refine J.region ?_
          refine L.va rfl (X.lss rfl rfl) ?_
          refine L.nil ?_
          refine J.seq ?_
          refine J.dec rfl (fun hlt => ?_) (fun hlt => ?_)
          · have him : i < m := by omega
            have hml := mg_len b (show i ≤ lo + m by omega)
            refine J.skip ?_
            refine J.seq ?_
            refine J.block ?_
            refine J.seq ?_
            refine J.region ?_
            refine L.va rfl (X.move (by conv => lhs; whnf)) ?_
            refine L.va rfl (X.assign (by conv => lhs; whnf)) ?_
            refine L.nil ?_
            refine J.cut (X := Unit) [2, 3, 9, 10, 35, 36, 37, 38, 39, 40, 41, 42, 43, 44, 45, 46, 47, 48, 49, 50, 51, 52, 53, 54, 55, 56, 57, 58, 59, 60, 61, 62, 63, 64, 65, 66, 67, 68, 69, 70, 71] (fun _ => []) (fun _ w' => 3 + 4 * i + 4 ≤ b.length ∧ w'.ownsRow w.heap.size 53 1 (.slice (some ⟨b3, 0, none⟩) (lo + m) (lo + m)) (lo + m) (nums .u32 (mg b (lo + m) (i + 1))) ∧ Ext w w') ?_ ?_
            · refine J.seq ?_
              refine J.region ?_
              refine L.va rfl (X.move (by conv => lhs; whnf)) ?_
              refine L.nil ?_
              refine J.block ?_
              refine J.loop (X := Nat) [2, 3, 9, 10, 35, 36, 37, 38, 39, 40, 41, 42, 43, 44, 45, 46, 47, 48, 49, 50, 51, 52, 53, 54, 55, 56, 57, 58, 59, 60, 61, 62, 63, 64, 65, 66, 67, 68, 69, 70, 71] (fun k => [(35, .int .i64 (k : Int))]) (fun k w' => k ≤ 4 ∧ 3 + 4 * i + k ≤ b.length ∧ w'.ownsRow w.heap.size 53 1 (.slice (some ⟨b3, 0, none⟩) (lo + m) (lo + m)) (lo + m) (nums .u32 ((mg b (lo + m) i).set (lo + m - 1 - i) (pw b i k))) ∧ Ext w w') (fun k => 4 - k) (0) (At1 (by first | rfl | exact at_int rfl (by omega) | exact at_slice rfl (by omega) | exact at_int rfl (by simp))) ?_ ?_
              · refine ⟨by omega, ?_, ?_, he4⟩
                · rcases i with _ | i
                  · omega
                  · have := hs i (by omega)
                    unfold stepE at this
                    split at this
                    · cases this
                    · omega
                · rw [show pw b i 0 = 0 from rfl, set_self (mg_at b (by omega)) (by omega)]
                  exact ho4
              · rintro k g w5 ⟨hk, hkl, ho5, he5⟩
                have z5 := he5.le
                refine J.seq ?_
                refine J.region ?_
                refine L.va rfl (X.lss rfl rfl) ?_
                refine L.nil ?_
                refine J.seq ?_
                refine J.dec rfl (fun hk4 => ?_) (fun hk4 => ?_)
                · have hbk := at_b hb (3 + 4 * i + k)
                  refine J.skip ?_
                  refine J.seq ?_
                  refine J.block ?_
                  refine J.seq ?_
                  refine J.region ?_
                  refine L.va rfl (X.move (by conv => lhs; whnf)) ?_
                  refine L.va rfl (X.assign (by conv => lhs; whnf)) ?_
                  refine L.nil ?_
                  refine J.seq ?_
                  refine J.region ?_
                  refine L.va rfl (X.move (by conv => lhs; whnf)) ?_
                  refine L.va rfl (X.mul rfl rfl (by omega)) ?_
                  refine L.va rfl (X.add rfl rfl (by omega)) ?_
                  refine L.va rfl (X.move (by conv => lhs; whnf)) ?_
                  refine L.va rfl (X.add rfl rfl (by omega)) ?_
                  refine L.va rfl (X.assign (by conv => lhs; whnf)) ?_
                  refine L.nil ?_
                  refine J.seq ?_
                  refine J.seq ?_
                  refine J.region ?_
                  refine L.va rfl (X.move (by conv => lhs; whnf)) ?_
                  refine L.va rfl (X.move (by conv => lhs; whnf)) ?_
                  refine L.va rfl (X.len rfl Try.underlying91) ?_
                  refine L.va rfl (X.geq rfl rfl) ?_
                  refine L.nil ?_
                  refine J.dec rfl (fun h5 => ?_) (fun h5 => ?_)
                  · refine J.seq ?_
                    refine J.region ?_
                    refine L.va rfl (X.assign (by conv => lhs; whnf)) ?_
                    refine L.va rfl (X.assign (by conv => lhs; whnf)) ?_
                    refine L.nil ?_
                    refine J.ret ?_
                    refine thn_ret <|  inB_ret <|  thn_ret <|  thn_ret <|  inB_ret <|  thn_ret <|  inB_ret <|  thn_ret <|  thn_ret <|  inB_ret <|  thn_ret <| ?_
                    refine fin2 ?_
                    refine ReadR.bad (bad 5 (by decide) him ?_) (by decide) rfl he5
                    unfold stepE
                    rw [if_pos (by omega)]
                  · have hr5 := hr.ext he5
                    have hpb := pw_b hb i k
                    have hpk : pw b i k ≤ 16777215 := by
                      have h2 : (256 : Int) ^ k ≤ 16777216 := by
                        have : k = 0 ∨ k = 1 ∨ k = 2 ∨ k = 3 := by omega
                        rcases this with rfl | rfl | rfl | rfl <;> decide
                      omega
                    have hgs : ((mg b (lo + m) i).set (lo + m - 1 - i) (pw b i k)).getD (lo + m - 1 - i) 0 = pw b i k := getD_set (by omega)
                    have hld : ∀ w', Ext w5 w' → Ld w' (pA (some ⟨b3, 0, none⟩) (lo + m - 1 - i)) (.int .u32 (pw b i k)) := fun w' hw => by
                      have := Ld.own (ho5.ext hw) (j := lo + m - 1 - i) (by omega)
                      rwa [hgs] at this
                    refine J.skip ?_
                    refine J.draw (ℓ := 24) (S := Ext w5) mixed (fun w6 hS hS_h => ?_)
                    refine D.va 0 rfl (by kernel_rfl) (fun _ _ _ h => h) rfl (fun w' hw => X.move (by conv => lhs; whnf)) hS ?_
                    refine D.va 1 rfl (by kernel_rfl) (fun _ _ _ h => h) rfl (fun w' hw => X.move (by conv => lhs; whnf)) hS ?_
                    refine D.va 2 rfl (by kernel_rfl) (fun _ _ _ h => h) rfl (fun w' hw => X.move (by conv => lhs; whnf)) hS ?_
                    refine D.va 3 rfl (by kernel_rfl) (fun _ _ _ h => h) rfl (fun w' hw => X.add rfl rfl (by omega)) hS ?_
                    refine D.va 4 rfl (by kernel_rfl) (fun _ _ _ h => h) rfl (fun w' hw => X.sub rfl rfl (by omega)) hS ?_
                    refine D.va 5 rfl (by kernel_rfl) (fun _ _ _ h => h) rfl (fun w' hw => X.move (by conv => lhs; whnf)) hS ?_
                    refine D.va 6 rfl (by kernel_rfl) (fun _ _ _ h => h) rfl (fun w' hw => X.sub rfl rfl (by omega)) hS ?_
                    refine D.va 7 rfl (by kernel_rfl) (fun _ _ _ h => h) rfl (fun w' hw => X.move (by conv => lhs; whnf)) hS ?_
                    refine D.va 8 rfl (by kernel_rfl) (fun _ _ _ h => h) rfl (fun w' hw => X.move (by conv => lhs; whnf)) hS ?_
                    refine D.va 9 rfl (by kernel_rfl) (fun _ _ _ h => h) rfl (fun w' hw => X.move (by conv => lhs; whnf)) hS ?_
                    refine D.va 10 rfl (by kernel_rfl) (fun _ _ _ h => h) rfl (fun w' hw => X.add rfl rfl (by omega)) hS ?_
                    refine D.va 11 rfl (by kernel_rfl) (fun _ _ _ h => h) rfl (fun w' hw => X.sub rfl rfl (by omega)) hS ?_
                    refine D.va 12 rfl (by kernel_rfl) (fun _ _ _ h => h) rfl (fun w' hw => X.move (by conv => lhs; whnf)) hS ?_
                    refine D.va 13 rfl (by kernel_rfl) (fun _ _ _ h => h) rfl (fun w' hw => X.sub rfl rfl (by omega)) hS ?_
                    refine D.va 14 rfl (by kernel_rfl) (fun _ _ _ h => h) rfl (fun w' hw => X.index1e (j := lo + m - 1 - i) rfl rfl (by omega) Try.underlying45 sz_53 (Option.some_ne_none _) (by omega)) hS ?_
                    refine D.va 15 rfl (by kernel_rfl) (fun _ _ _ h => h) rfl (fun w' hw => X.load rfl sc_53 (hld w' hw)) hS ?_
                    refine D.va 16 rfl (by kernel_rfl) (fun _ _ _ h => h) rfl (fun w' hw => X.shl rfl rfl (by omega)) hS ?_
                    refine D.va 17 rfl (by kernel_rfl) (fun _ _ _ h => h) rfl (fun w' hw => X.move (by conv => lhs; whnf)) hS ?_
                    refine D.va 18 rfl (by kernel_rfl) (fun _ _ _ h => h) rfl (fun w' hw => X.move (by conv => lhs; whnf)) hS ?_
                    refine D.va 19 rfl (by kernel_rfl) (fun _ _ _ h => h) rfl (fun w' hw => X.index1e (j := 3 + 4 * i + k) rfl rfl (by omega) Try.underlying91 sz_5 hA (by omega)) hS ?_
                    refine D.va 20 rfl (by kernel_rfl) (fun _ _ _ h => h) rfl (fun w' hw => X.load rfl sc_5 (by first | exact Ld.num (hr5.ext hw) (by omega) | exact Ld.own (ho5.ext hw) (by omega) | exact hA)) hS ?_
                    refine D.va 21 rfl (by kernel_rfl) (fun _ _ _ h => h) rfl (fun w' hw => (by first | exact X.conv32 rfl is_5 Try.underlying53 (by omega) | exact X.convw rfl is_5 Try.underlying53)) hS ?_
                    refine D.va 22 rfl (by kernel_rfl) (fun _ _ _ h => h) rfl (fun w' hw => X.or rfl rfl) hS ?_
                    refine D.va 23 rfl (by kernel_rfl) (fun _ _ _ h => h) rfl (fun w' hw => X.index1e (j := lo + m - 1 - i) rfl rfl (by omega) Try.underlying45 sz_53 (Option.some_ne_none _) (by omega)) hS ?_
                    have ho6 := ho5.ext hS
                    refine D.one 24 (by kernel_rfl) rfl ?_
                    refine L.storeON rfl rfl (by conv => lhs; whnf) sz_53 (ho6) (by omega) ?_
                    intro w7 ho7 hg7 hb7 hs7
                    refine L.nil ?_
                    refine ⟨fun h => absurd rfl h, ?_⟩
                    rw [List.set_set, or_nx _ _ hpb.1 hpk hbk] at ho7
                    refine D.done (by kernel_rfl) ?_
                    replace hr5 := hr5.ext hS
                    replace ho5 := ho5.ext hS
                    refine J.region ?_
                    refine L.va rfl (X.add rfl rfl (by omega)) ?_
                    refine L.va rfl (X.move (by conv => lhs; whnf)) ?_
                    refine L.nil ?_
                    refine ⟨k + 1, At1 (by first | rfl | exact at_int rfl (by omega) | exact at_slice rfl (by omega) | exact at_int rfl (by simp)), (by (iterate 39 refine Agr.lk rfl ?_); exact Agr.lk rfl (Agr.hav rfl Agr.rfl')), ?_⟩
                    exact ⟨⟨by omega, by omega, ho7, (he5.trans hS).grw hg7 (fun g hg => (ho6.lt g hg).1)⟩, by omega⟩
                · obtain rfl : k = 4 := by omega
                  refine J.exit ?_
                  refine ⟨(), At0 , (by (iterate 1 refine Agr.lk rfl ?_); refine Agr.lk rfl ?_; refine Agr.hav rfl ?_; (iterate 1 refine Agr.lk rfl ?_); exact Agr.rfl'), ?_⟩
                  refine ⟨by omega, ?_, he5⟩
                  rw [← mg_set b (show i < lo + m by omega)]
                  exact ho5
            · rintro ⟨⟩ g w5 ⟨hl5, ho5, he5⟩
              have z5 := he5.le
              have v0 := mg_put b (show i + 1 ≤ lo + m by omega) (j := lo + m - 1 - i) (by omega) (by omega)
              rw [show lo + m - 1 - (lo + m - 1 - i) = i by omega] at v0
              have g6 : (i = 0 ∨ i + 1 = m) ∧ wd b i = 0 → readE b = 6 := fun h => bad 6 (by decide) him (by unfold stepE; rw [if_neg (by omega), if_pos h])
              have ok : ¬ ((i = 0 ∨ i + 1 = m) ∧ wd b i = 0) → ∀ j, j < i + 1 → stepE b m j = 0 := fun h j hj => by
                rcases Nat.lt_or_ge j i with k | k
                · exact hs j k
                · obtain rfl : j = i := by omega
                  unfold stepE
                  rw [if_neg (by omega), if_neg h]
              have hld : Ld w5 (pA (some ⟨b3, 0, none⟩) (lo + m - 1 - i)) (.int .u32 (wd b i)) := by
                have := Ld.own ho5 (j := lo + m - 1 - i) (by omega)
                rwa [v0] at this
              refine J.seq ?_
              refine J.region ?_
              refine L.va rfl (X.move (by conv => lhs; whnf)) ?_
              refine L.va rfl (X.eql rfl rfl) ?_
              refine L.va rfl (X.move (by conv => lhs; whnf)) ?_
              refine L.caseDec (k := 74) rfl (fun h6 => ?_) (fun h6 => ?_)
              · have h6 : i = 0 := by omega
                refine L.va rfl (X.move (by conv => lhs; whnf)) ?_
                refine L.va rfl (X.move (by conv => lhs; whnf)) ?_
                refine L.va rfl (X.move (by conv => lhs; whnf)) ?_
                refine L.va rfl (X.add rfl rfl (by omega)) ?_
                refine L.va rfl (X.sub rfl rfl (by omega)) ?_
                refine L.va rfl (X.index1e (j := lo + m - 1 - i) rfl rfl (by omega) Try.underlying45 sz_53 (Option.some_ne_none _) (by omega)) ?_
                refine L.va rfl (X.load rfl sc_53 hld) ?_
                refine L.va rfl (X.eql rfl rfl) ?_
                refine L.va rfl (X.pickT rfl (by conv => lhs; whnf)) ?_
                refine L.va rfl (X.move (by conv => lhs; whnf)) ?_
                refine L.caseDec (k := 84) rfl (fun h7 => ?_) (fun h7 => ?_)
                · refine L.no rfl ?_
                  refine L.no rfl ?_
                  refine L.no rfl ?_
                  refine L.no rfl ?_
                  refine L.no rfl ?_
                  refine L.no rfl ?_
                  refine L.no rfl ?_
                  refine L.no rfl ?_
                  refine L.no rfl ?_
                  refine L.no rfl ?_
                  refine L.no rfl ?_
                  refine L.va rfl (X.pickT rfl (by conv => lhs; whnf)) ?_
                  refine L.nil ?_
                  refine J.iteT rfl ?_
                  refine J.seq ?_
                  refine J.region ?_
                  refine L.va rfl (X.assign (by conv => lhs; whnf)) ?_
                  refine L.va rfl (X.assign (by conv => lhs; whnf)) ?_
                  refine L.nil ?_
                  refine J.ret ?_
                  refine inB_ret <|  thn_ret <|  thn_ret <|  inB_ret <|  thn_ret <| ?_
                  refine fin2 ?_
                  exact ReadR.bad (g6 ⟨.inl h6, h7⟩) (by decide) rfl he5
                · refine L.va rfl (X.move (by conv => lhs; whnf)) ?_
                  refine L.va rfl (X.move (by conv => lhs; whnf)) ?_
                  refine L.va rfl (X.sub rfl rfl (by omega)) ?_
                  refine L.va rfl (X.eql rfl rfl) ?_
                  refine L.va rfl (X.move (by conv => lhs; whnf)) ?_
                  refine L.caseDec (k := 89) rfl (fun h8 => ?_) (fun h8 => ?_)
                  ·
                    refine L.va rfl (X.move (by conv => lhs; whnf)) ?_
                    refine L.va rfl (X.move (by conv => lhs; whnf)) ?_
                    refine L.va rfl (X.index1e (j := lo + m - 1 - i) rfl rfl (by omega) Try.underlying45 sz_53 (Option.some_ne_none _) (by omega)) ?_
                    refine L.va rfl (X.load rfl sc_53 hld) ?_
                    refine L.va rfl (X.eql rfl rfl) ?_
                    refine L.va rfl (X.pickT rfl (by conv => lhs; whnf)) ?_
                    refine L.va rfl (X.pickF rfl (by conv => lhs; whnf)) ?_
                    refine L.nil ?_
                    refine J.dec rfl (fun h9 => ?_) (fun h9 => ?_)
                    · exact absurd h9 h7
                    · refine J.skip ?_
                      refine J.region ?_
                      refine L.va rfl (X.add rfl rfl (by omega)) ?_
                      refine L.va rfl (X.move (by conv => lhs; whnf)) ?_
                      refine L.nil ?_
                      refine ⟨i + 1, At1 (by first | rfl | exact at_int rfl (by omega) | exact at_slice rfl (by omega) | exact at_int rfl (by simp)), (by (iterate 30 refine Agr.lk rfl ?_); refine Agr.lk rfl ?_; refine Agr.hav rfl ?_; (iterate 3 refine Agr.lk rfl ?_); exact Agr.lk rfl (Agr.hav rfl Agr.rfl')), ?_⟩
                      exact ⟨⟨by omega, ok (fun h => h7 h.2), ho5, he5⟩, by omega⟩
                  · refine L.no rfl ?_
                    refine L.no rfl ?_
                    refine L.no rfl ?_
                    refine L.no rfl ?_
                    refine L.no rfl ?_
                    refine L.va rfl (X.pickF rfl (by conv => lhs; whnf)) ?_
                    refine L.va rfl (X.pickF rfl (by conv => lhs; whnf)) ?_
                    refine L.nil ?_
                    refine J.iteF rfl ?_
                    refine J.skip ?_
                    refine J.region ?_
                    refine L.va rfl (X.add rfl rfl (by omega)) ?_
                    refine L.va rfl (X.move (by conv => lhs; whnf)) ?_
                    refine L.nil ?_
                    refine ⟨i + 1, At1 (by first | rfl | exact at_int rfl (by omega) | exact at_slice rfl (by omega) | exact at_int rfl (by simp)), (by (iterate 30 refine Agr.lk rfl ?_); refine Agr.lk rfl ?_; refine Agr.hav rfl ?_; (iterate 3 refine Agr.lk rfl ?_); exact Agr.lk rfl (Agr.hav rfl Agr.rfl')), ?_⟩
                    exact ⟨⟨by omega, ok (fun h => h7 h.2), ho5, he5⟩, by omega⟩
              · refine L.no rfl ?_
                refine L.no rfl ?_
                refine L.no rfl ?_
                refine L.no rfl ?_
                refine L.no rfl ?_
                refine L.no rfl ?_
                refine L.no rfl ?_
                refine L.no rfl ?_
                refine L.va rfl (X.pickF rfl (by conv => lhs; whnf)) ?_
                refine L.va rfl (X.move (by conv => lhs; whnf)) ?_
                refine L.va rfl (X.move (by conv => lhs; whnf)) ?_
                refine L.va rfl (X.move (by conv => lhs; whnf)) ?_
                refine L.va rfl (X.sub rfl rfl (by omega)) ?_
                refine L.va rfl (X.eql rfl rfl) ?_
                refine L.va rfl (X.move (by conv => lhs; whnf)) ?_
                refine L.caseDec (k := 89) rfl (fun h8 => ?_) (fun h8 => ?_)
                ·
                  refine L.va rfl (X.move (by conv => lhs; whnf)) ?_
                  refine L.va rfl (X.move (by conv => lhs; whnf)) ?_
                  refine L.va rfl (X.index1e (j := lo + m - 1 - i) rfl rfl (by omega) Try.underlying45 sz_53 (Option.some_ne_none _) (by omega)) ?_
                  refine L.va rfl (X.load rfl sc_53 hld) ?_
                  refine L.va rfl (X.eql rfl rfl) ?_
                  refine L.va rfl (X.pickT rfl (by conv => lhs; whnf)) ?_
                  refine L.va rfl (X.pickF rfl (by conv => lhs; whnf)) ?_
                  refine L.nil ?_
                  refine J.dec rfl (fun h9 => ?_) (fun h9 => ?_)
                  · refine J.seq ?_
                    refine J.region ?_
                    refine L.va rfl (X.assign (by conv => lhs; whnf)) ?_
                    refine L.va rfl (X.assign (by conv => lhs; whnf)) ?_
                    refine L.nil ?_
                    refine J.ret ?_
                    refine inB_ret <|  thn_ret <|  thn_ret <|  inB_ret <|  thn_ret <| ?_
                    refine fin2 ?_
                    exact ReadR.bad (g6 ⟨.inr (by omega), h9⟩) (by decide) rfl he5
                  · refine J.skip ?_
                    refine J.region ?_
                    refine L.va rfl (X.add rfl rfl (by omega)) ?_
                    refine L.va rfl (X.move (by conv => lhs; whnf)) ?_
                    refine L.nil ?_
                    refine ⟨i + 1, At1 (by first | rfl | exact at_int rfl (by omega) | exact at_slice rfl (by omega) | exact at_int rfl (by simp)), (by (iterate 29 refine Agr.lk rfl ?_); refine Agr.lk rfl ?_; refine Agr.hav rfl ?_; (iterate 3 refine Agr.lk rfl ?_); exact Agr.lk rfl (Agr.hav rfl Agr.rfl')), ?_⟩
                    exact ⟨⟨by omega, ok (fun h => h9 h.2), ho5, he5⟩, by omega⟩
                · refine L.no rfl ?_
                  refine L.no rfl ?_
                  refine L.no rfl ?_
                  refine L.no rfl ?_
                  refine L.no rfl ?_
                  refine L.va rfl (X.pickF rfl (by conv => lhs; whnf)) ?_
                  refine L.va rfl (X.pickF rfl (by conv => lhs; whnf)) ?_
                  refine L.nil ?_
                  refine J.iteF rfl ?_
                  refine J.skip ?_
                  refine J.region ?_
                  refine L.va rfl (X.add rfl rfl (by omega)) ?_
                  refine L.va rfl (X.move (by conv => lhs; whnf)) ?_
                  refine L.nil ?_
                  refine ⟨i + 1, At1 (by first | rfl | exact at_int rfl (by omega) | exact at_slice rfl (by omega) | exact at_int rfl (by simp)), (by (iterate 29 refine Agr.lk rfl ?_); refine Agr.lk rfl ?_; refine Agr.hav rfl ?_; (iterate 3 refine Agr.lk rfl ?_); exact Agr.lk rfl (Agr.hav rfl Agr.rfl')), ?_⟩
                  exact ⟨⟨by omega, ok (fun h => by omega), ho5, he5⟩, by omega⟩
          · obtain rfl : i = m := by omega
            have hw0 := wordsE_0 hs
            refine J.exit ?_
            refine J.seq ?_
            refine J.seq ?_
            refine J.region ?_
            refine L.va rfl (X.move (by conv => lhs; whnf)) ?_
            refine L.va rfl (X.len rfl Try.underlying91) ?_
            refine L.va rfl (X.move (by conv => lhs; whnf)) ?_
            refine L.va rfl (X.mul rfl rfl (by omega)) ?_
            refine L.va rfl (X.add rfl rfl (by omega)) ?_
            refine L.va rfl (X.gtr rfl rfl) ?_
            refine L.nil ?_
            refine J.dec rfl (fun h7 => ?_) (fun h7 => ?_)
            · refine J.seq ?_
              refine J.region ?_
              refine L.va rfl (X.assign (by conv => lhs; whnf)) ?_
              refine L.va rfl (X.assign (by conv => lhs; whnf)) ?_
              refine L.nil ?_
              refine J.ret ?_
              refine thn_ret <| ?_
              refine fin2 ?_
              exact ReadR.bad (readE_m h0 h3 em hw0 (by omega)) (by decide) rfl he4
            · have h8 := readE_0 h0 h3 em hw0 (by omega)
              have hr4 := hr.ext he4
              refine J.skip ?_
              refine J.seq ?_
              refine J.draw (ℓ := 1000000) (S := Ext w4) mixed (fun w5 hS hS_h => ?_)
              refine D.va 0 rfl (by kernel_rfl) (fun _ _ _ h => h) rfl (fun w' hw => X.move (by conv => lhs; whnf)) hS ?_
              refine D.va 1 rfl (by kernel_rfl) (fun _ _ _ h => h) rfl (fun w' hw => X.index1n (j := 0) rfl rfl Try.underlying91 sz_5 (by first | exact Option.some_ne_none _ | exact hr4.some_ (by omega) | exact hA) (by omega)) hS ?_
              refine D.va 2 rfl (by kernel_rfl) (fun _ _ _ h => h) rfl (fun w' hw => X.load rfl sc_5 (by first | exact Ld.num (hr4.ext hw) (by omega) | exact hA)) hS ?_
              refine D.va 3 rfl (by kernel_rfl) (fun _ _ _ h => h) rfl (fun w' hw => X.andNot rfl rfl) hS ?_
              refine D.va 4 rfl (by kernel_rfl) (fun _ _ _ h => h) rfl (fun w' hw => X.move (by conv => lhs; whnf)) hS ?_
              refine D.va 5 rfl (by kernel_rfl) (fun _ _ _ h => h) rfl (fun w' hw => X.index1n (j := 0) rfl rfl Try.underlying91 sz_5 (by first | exact Option.some_ne_none _ | exact hr4.some_ (by omega) | exact hA) (by omega)) hS ?_
              refine D.va 6 rfl (by kernel_rfl) (fun _ _ _ h => h) rfl (fun w' hw => X.load rfl sc_5 (by first | exact Ld.num (hr4.ext hw) (by omega) | exact hA)) hS ?_
              refine D.va 7 rfl (by kernel_rfl) (fun _ _ _ h => h) rfl (fun w' hw => X.and rfl rfl) hS ?_
              refine D.va 8 rfl (by kernel_rfl) (fun _ _ _ h => h) rfl (fun w' hw => X.neq rfl rfl) hS ?_
              refine D.va 9 rfl (by kernel_rfl) (fun _ _ _ h => h) rfl (fun w' hw => X.move (by conv => lhs; whnf)) hS ?_
              refine D.va 10 rfl (by kernel_rfl) (fun _ _ _ h => h) rfl (fun w' hw => X.build (l := [_, _, _, _]) (Evs.cons (by conv => lhs; whnf) (Evs.cons (by conv => lhs; whnf) (Evs.cons (by conv => lhs; whnf) (Evs.cons (by conv => lhs; whnf) Evs.nil)))) (bld_run Try.underlying168 (bp_168 Try.underlying168) zr_168 rfl)) hS ?_
              refine D.one 11 (by kernel_rfl) rfl ?_
              refine L.boxA (l := [_, _, _, _]) rfl rfl ?_
              intro b6 w6 hb6 hs6 hk6 he6
              have hS1 := hS.trans he6
              refine L.nil ?_
              refine ⟨fun _ => hS1, ?_⟩
              refine D.va 12 rfl (by kernel_rfl) (fun _ _ _ h => h) rfl (fun w' hw => X.assign (by conv => lhs; whnf)) hS1 ?_
              refine D.va 13 rfl (by kernel_rfl) (fun _ _ _ h => h) rfl (fun w' hw => X.assign (by conv => lhs; whnf)) hS1 ?_
              refine D.done (by kernel_rfl) ?_
              replace hr4 := hr4.ext hS1
              refine J.ret ?_
              refine fin2 ?_
              have z6 := (he4.trans hS).le
              have eM : magOf b = mg b (lo + i) i := by unfold magOf; rw [elo, em]; rfl
              refine ⟨.pointer (some ⟨b6, 0, none⟩), by rw [h8]; rfl, he4.trans hS1, fun _ => ⟨b6, _, lo + i, lo + i, rfl, by omega, hk6, hq, ?_, ?_⟩⟩
              · rw [eM]
                exact mg_len b (by omega)
              · rw [eM]
                exact ho4.ext hS1
end Go.Proofs.Ytpomklkfedpkfaa
namespace Go.Proofs.Ytpomklkfedpkfaa
set_option maxRecDepth 100000
open Go.RowKit H
set_option linter.unusedVariables false
namespace H
theorem X.eqlNil {P : Program} {w : World} {f : Fr} {x y : Operand} {d : Option Tmp} {tx tz ty : TypeId} {pos : String} {aft : Array Edge} {g : Option (Nat × Bool)} {A : Option Addr} {n c e : Nat} (hx : ev f x = .slice A n c) (hy : ev f y = .slice none 0 0) (ht : P.underlying tx = some (.slice e)) : (execOp (ev f) ⟨d, .binOp .eql tx x y tz, ty, pos, aft, g⟩).run P w = .ok (.value (.bool A.isNone)) w :=
  X.bin hx hy (by simp [go_sem]) (by simp [binOp, show (Op.equal tx (.slice A n c) (.slice none 0 0)).run P w = .ok A.isNone w from run_equalIn_slice_nil w 9999 tx e A n c ht])
end H
theorem cloneI (A : Option Addr) (n c : Nat) (l : List Int) (w : World) (hr : Reads w w.heap.size 1 A n (nums .i64 l)) (hn : n ≤ 5000) : Calls Try.prog 80 #[.slice A n c] w fun e w' => ∃ A' c', e = .returned (.slice A' n c') ∧ w'.ownsRow w.heap.size 3 1 (.slice A' n c') n (nums .i64 l) ∧ Ext w w' := by
  have hl : l.length = n := by have := hr.1; simpa [nums] using this
  refine enter Try.func80 rfl (by kernel_rfl) ?_
  refine J.seq ?_
  refine J.region ?_
  refine L.va rfl (X.assign (by conv => lhs; whnf)) ?_
  refine L.nil ?_
  refine J.seq ?_
  refine J.seq ?_
  refine J.region ?_
  refine L.va rfl (X.move (by conv => lhs; whnf)) ?_
  refine L.va rfl (X.eqlNil rfl rfl Try.underlying74) ?_
  refine L.nil ?_
  rcases A with _ | a
  · obtain rfl : n = 0 := by
      apply Decidable.byContradiction
      intro h
      exact hr.some_ (by omega) rfl
    obtain rfl : l = [] := List.length_eq_zero_iff.1 hl
    refine J.iteT rfl ?_
    refine J.seq ?_
    refine J.region ?_
    refine L.va rfl (X.assign (by conv => lhs; whnf)) ?_
    refine L.nil ?_
    refine J.ret ?_
    refine thn_ret <| ?_
    refine fin1 ?_
    exact ⟨none, 0, rfl, own_nil _ _ _ _, Ext.refl _⟩
  · refine J.iteF rfl ?_
    refine J.skip ?_
    refine J.seq ?_
    refine J.region ?_
    refine L.bslice (vs := []) rfl Evs.nil rfl rfl rfl rfl Try.underlying74 sz_3 zr_3 (by decide) ?_
    intro b1 w1 hb1 hs1 hk1 he1
    have ho1 : w1.ownsRow w.heap.size 3 1 (.slice (some ⟨b1, 0, none⟩) 0 0) 0 (nums .i64 []) := blk_own1 (q := 0) (l := []) hk1 (by omega) (Nat.zero_le _) rfl
    have z1 := he1.le
    refine L.va rfl (X.move (by conv => lhs; whnf)) ?_
    refine L.appendQ (q := n) (ys := l) rfl rfl rfl Try.underlying74 el_3 (ho1) (hr.ext he1) (by omega) (by simp) (by unfold maxLen; omega) (by omega) ?_
    intro A2 c2 w2 ho2 hg2 hb2 hor2
    refine L.va rfl (X.assign (by conv => lhs; whnf)) ?_
    refine L.nil ?_
    refine J.ret ?_
    refine fin1 ?_
    exact ⟨A2, c2, rfl, ho2, he1.grw hg2 (by intro g hg; injection hg with hg; subst hg; show w.heap.size ≤ b1; omega)⟩
theorem own_max {w : World} {base e sz n : Nat} {v : Value} {xs : List Value} (h : w.ownsRow base e sz v n xs) : n ≤ maxLen := by
  rcases h.2 with ⟨_, rfl⟩ | ⟨b, cap, cur, rfl, _, _, h1, h2, _⟩
  · exact Nat.zero_le _
  · exact Nat.le_trans h1 h2
theorem own_lower {w : World} {base base' e sz n : Nat} {v : Value} {xs : List Value} (h : w.ownsRow base e sz v n xs) (hb : base' ≤ base) : w.ownsRow base' e sz v n xs := by
  refine ⟨h.1, ?_⟩
  rcases h.2 with h1 | ⟨b, cap, cur, h1, h2, h3⟩
  · exact .inl h1
  · exact .inr ⟨b, cap, cur, h1, Nat.le_trans hb h2, h3⟩
end Go.Proofs.Ytpomklkfedpkfaa
namespace Go.Proofs.Ytpomklkfedpkfaa
set_option maxRecDepth 100000
open Go.RowKit H
set_option linter.unusedVariables false
theorem cloneWh (A : Option Addr) (n c : Nat) (l : List Wh) (w : World) (hr : Reads w w.heap.size 5 A n (l.flatMap Wh.vs)) (hn : n ≤ 1000) (hl : l.length = n) : Calls Try.prog 64 #[.slice A n c] w fun e w' => ∃ A' c', e = .returned (.slice A' n c') ∧ w'.ownsRow w.heap.size 90 5 (.slice A' n c') n (l.flatMap Wh.vs) ∧ Ext w w' := by
  refine enter Try.func64 rfl (by kernel_rfl) ?_
  refine J.seq ?_
  refine J.region ?_
  refine L.va rfl (X.assign (by conv => lhs; whnf)) ?_
  refine L.nil ?_
  refine J.seq ?_
  refine J.seq ?_
  refine J.region ?_
  refine L.va rfl (X.move (by conv => lhs; whnf)) ?_
  refine L.va rfl (X.eqlNil rfl rfl Try.underlying58) ?_
  refine L.nil ?_
  rcases A with _ | a
  · obtain rfl : n = 0 := by
      apply Decidable.byContradiction
      intro h
      exact hr.some_ (by omega) rfl
    obtain rfl : l = [] := List.length_eq_zero_iff.1 hl
    refine J.iteT rfl ?_
    refine J.seq ?_
    refine J.region ?_
    refine L.va rfl (X.assign (by conv => lhs; whnf)) ?_
    refine L.nil ?_
    refine J.ret ?_
    refine thn_ret <| ?_
    refine fin1 ?_
    exact ⟨none, 0, rfl, own_nil _ _ _ _, Ext.refl _⟩
  · refine J.iteF rfl ?_
    refine J.skip ?_
    refine J.seq ?_
    refine J.region ?_
    refine L.bsliceR (ls := []) rfl Evs.nil rfl rfl rfl rfl Try.underlying58 sz_90 zr_90 (by decide) ?_
    intro b1 w1 hb1 hs1 hk1 he1
    have ho1 : w1.ownsRow w.heap.size 90 5 (.slice (some ⟨b1, 0, none⟩) 0 0) 0 (([] : List Wh).flatMap Wh.vs) := blk_own (size := 5) (q := 0) (c := 0) (l := []) hk1 (by omega) (Nat.le_refl _) (Nat.zero_le _) rfl
    have z1 := he1.le
    have hones : ((l.flatMap Wh.vs).all (·.oneCell')) = true := by
      rw [List.all_eq_true]
      intro v hv
      obtain ⟨x, _, hx⟩ := List.mem_flatMap.1 hv
      simp only [Wh.vs, List.mem_cons, List.not_mem_nil, or_false] at hx
      rcases hx with rfl | rfl | rfl | rfl | rfl <;> rfl
    refine L.va rfl (X.move (by conv => lhs; whnf)) ?_
    refine L.appendV (q := n) (ys := l.flatMap Wh.vs) rfl rfl rfl Try.underlying58 el_90 (ho1) (hr.ext he1) (by first | rfl | exact strs_ones _ | assumption) (by omega) (by simp) (by unfold maxLen; omega) (by omega) ?_
    intro A2 c2 w2 ho2 hg2 hb2 hor2
    refine L.va rfl (X.assign (by conv => lhs; whnf)) ?_
    refine L.nil ?_
    refine J.ret ?_
    refine fin1 ?_
    exact ⟨A2, c2, rfl, ho2, he1.grw hg2 (by intro g hg; injection hg with hg; subst hg; show w.heap.size ≤ b1; omega)⟩
theorem cloneRe (A : Option Addr) (n c : Nat) (l : List Re) (w : World) (hr : Reads w w.heap.size 3 A n (l.flatMap Re.vs)) (hn : n ≤ 1000) (hl : l.length = n) : Calls Try.prog 66 #[.slice A n c] w fun e w' => ∃ A' c', e = .returned (.slice A' n c') ∧ w'.ownsRow w.heap.size 94 3 (.slice A' n c') n (l.flatMap Re.vs) ∧ Ext w w' := by
  refine enter Try.func66 rfl (by kernel_rfl) ?_
  refine J.seq ?_
  refine J.region ?_
  refine L.va rfl (X.assign (by conv => lhs; whnf)) ?_
  refine L.nil ?_
  refine J.seq ?_
  refine J.seq ?_
  refine J.region ?_
  refine L.va rfl (X.move (by conv => lhs; whnf)) ?_
  refine L.va rfl (X.eqlNil rfl rfl Try.underlying59) ?_
  refine L.nil ?_
  rcases A with _ | a
  · obtain rfl : n = 0 := by
      apply Decidable.byContradiction
      intro h
      exact hr.some_ (by omega) rfl
    obtain rfl : l = [] := List.length_eq_zero_iff.1 hl
    refine J.iteT rfl ?_
    refine J.seq ?_
    refine J.region ?_
    refine L.va rfl (X.assign (by conv => lhs; whnf)) ?_
    refine L.nil ?_
    refine J.ret ?_
    refine thn_ret <| ?_
    refine fin1 ?_
    exact ⟨none, 0, rfl, own_nil _ _ _ _, Ext.refl _⟩
  · refine J.iteF rfl ?_
    refine J.skip ?_
    refine J.seq ?_
    refine J.region ?_
    refine L.bsliceR (ls := []) rfl Evs.nil rfl rfl rfl rfl Try.underlying59 sz_94 zr_94 (by decide) ?_
    intro b1 w1 hb1 hs1 hk1 he1
    have ho1 : w1.ownsRow w.heap.size 94 3 (.slice (some ⟨b1, 0, none⟩) 0 0) 0 (([] : List Re).flatMap Re.vs) := blk_own (size := 3) (q := 0) (c := 0) (l := []) hk1 (by omega) (Nat.le_refl _) (Nat.zero_le _) rfl
    have z1 := he1.le
    have hones : ((l.flatMap Re.vs).all (·.oneCell')) = true := by
      rw [List.all_eq_true]
      intro v hv
      obtain ⟨x, _, hx⟩ := List.mem_flatMap.1 hv
      simp only [Re.vs, List.mem_cons, List.not_mem_nil, or_false] at hx
      rcases hx with rfl | rfl | rfl <;> rfl
    refine L.va rfl (X.move (by conv => lhs; whnf)) ?_
    refine L.appendV (q := n) (ys := l.flatMap Re.vs) rfl rfl rfl Try.underlying59 el_94 (ho1) (hr.ext he1) (by first | rfl | exact strs_ones _ | assumption) (by omega) (by simp) (by unfold maxLen; omega) (by omega) ?_
    intro A2 c2 w2 ho2 hg2 hb2 hor2
    refine L.va rfl (X.assign (by conv => lhs; whnf)) ?_
    refine L.nil ?_
    refine J.ret ?_
    refine fin1 ?_
    exact ⟨A2, c2, rfl, ho2, he1.grw hg2 (by intro g hg; injection hg with hg; subst hg; show w.heap.size ≤ b1; omega)⟩
theorem cloneBy (A : Option Addr) (n c : Nat) (l : List Int) (w : World) (hr : Reads w w.heap.size 1 A n (nums .u8 l)) (hn : n ≤ 5000) : Calls Try.prog 67 #[.slice A n c] w fun e w' => ∃ A' c', e = .returned (.slice A' n c') ∧ w'.ownsRow w.heap.size 5 1 (.slice A' n c') n (nums .u8 l) ∧ Ext w w' := by
  have hl : l.length = n := by have := hr.1; simpa [nums] using this
  refine enter Try.func67 rfl (by kernel_rfl) ?_
  refine J.seq ?_
  refine J.region ?_
  refine L.va rfl (X.assign (by conv => lhs; whnf)) ?_
  refine L.nil ?_
  refine J.seq ?_
  refine J.seq ?_
  refine J.region ?_
  refine L.va rfl (X.move (by conv => lhs; whnf)) ?_
  refine L.va rfl (X.eqlNil rfl rfl Try.underlying91) ?_
  refine L.nil ?_
  rcases A with _ | a
  · obtain rfl : n = 0 := by
      apply Decidable.byContradiction
      intro h
      exact hr.some_ (by omega) rfl
    obtain rfl : l = [] := List.length_eq_zero_iff.1 hl
    refine J.iteT rfl ?_
    refine J.seq ?_
    refine J.region ?_
    refine L.va rfl (X.assign (by conv => lhs; whnf)) ?_
    refine L.nil ?_
    refine J.ret ?_
    refine thn_ret <| ?_
    refine fin1 ?_
    exact ⟨none, 0, rfl, own_nil _ _ _ _, Ext.refl _⟩
  · refine J.iteF rfl ?_
    refine J.skip ?_
    refine J.seq ?_
    refine J.region ?_
    refine L.bslice (vs := []) rfl Evs.nil rfl rfl rfl rfl Try.underlying91 sz_5 zr_5 (by decide) ?_
    intro b1 w1 hb1 hs1 hk1 he1
    have ho1 : w1.ownsRow w.heap.size 5 1 (.slice (some ⟨b1, 0, none⟩) 0 0) 0 (nums .u8 []) := blk_own1 (q := 0) (l := []) hk1 (by omega) (Nat.zero_le _) rfl
    have z1 := he1.le
    refine L.va rfl (X.move (by conv => lhs; whnf)) ?_
    refine L.appendQ (q := n) (ys := l) rfl rfl rfl Try.underlying91 el_5 (ho1) (hr.ext he1) (by omega) (by simp) (by unfold maxLen; omega) (by omega) ?_
    intro A2 c2 w2 ho2 hg2 hb2 hor2
    refine L.va rfl (X.assign (by conv => lhs; whnf)) ?_
    refine L.nil ?_
    refine J.ret ?_
    refine fin1 ?_
    exact ⟨A2, c2, rfl, ho2, he1.grw hg2 (by intro g hg; injection hg with hg; subst hg; show w.heap.size ≤ b1; omega)⟩
end Go.Proofs.Ytpomklkfedpkfaa
namespace Go.Proofs.Ytpomklkfedpkfaa
open Go.RowKit H
set_option linter.unusedVariables false
theorem flat_set {X : Type} {f : X → List Value} {sz r : Nat} {v : Value} (h : ∀ x, (f x).length = sz) {y : X} : ∀ (l : List X) (i : Nat) (hi : i < l.length), r < sz → f y = (f (l[i])).set r v → (l.flatMap f).set (i * sz + r) v = (l.set i y).flatMap f
  | x :: t, 0, hi, hr, e => by
    have hx := h x
    have e : f y = (f x).set r v := e
    rw [List.set_cons_zero, List.flatMap_cons, List.flatMap_cons, Nat.zero_mul, Nat.zero_add, List.set_append_left _ _ (by omega), e]
  | x :: t, i + 1, hi, hr, e => by
    have hx := h x
    have e : f y = (f (t[i]'(by simpa using hi))).set r v := e
    rw [List.set_cons_succ, List.flatMap_cons, List.flatMap_cons, List.set_append_right _ _ (by rw [hx, Nat.succ_mul]; omega), hx, show (i + 1) * sz + r - sz = i * sz + r by rw [Nat.succ_mul]; omega, flat_set h t i (by simpa using hi) hr e]
end Go.Proofs.Ytpomklkfedpkfaa
namespace Go.Proofs.Ytpomklkfedpkfaa
open Go.RowKit H
set_option linter.unusedVariables false
def OfT (w : World) (t g : Nat) : Prop := ∃ cs, Blk w g t cs
theorem Blk.ofT {w : World} {g t : Nat} {cs : Array Value} (h : Blk w g t cs) : OfT w t g := ⟨cs, h⟩
theorem OfT.one {w : World} {g t t' : Nat} (h : OfT w t g) (h' : OfT w t' g) : t = t' := by
  obtain ⟨cs, h⟩ := h
  obtain ⟨cs', h'⟩ := h'
  unfold Blk at h h'
  rw [h] at h'
  injection h' with h'
  injection h'
theorem own_ofT {w : World} {base e size n : Nat} {v : Value} {xs : List Value} (h : w.ownsRow base e size v n xs) {g : Nat} (hg : v.ownBlock = some g) : OfT w e g ∧ base ≤ g := by
  rcases h.2 with ⟨rfl, _⟩ | ⟨b, cap, cur, rfl, hb, hh, _⟩
  · cases hg
  · obtain rfl : b = g := by injection hg
    exact ⟨⟨cur, hh⟩, hb⟩
def TCh (t : Nat) (w w' : World) : Prop := Chg (OfT w t) w w'
namespace TCh
variable {w w' : World} {t : Nat} {rw0 : Option Nat}
theorem grown (hg : w.grownBy w' rw0) (h : ∀ g, rw0 = some g → OfT w t g) : TCh t w w' := Chg.of_grown hg h
theorem row {base size n : Nat} {v : Value} {xs : List Value} (ho : w.ownsRow base t size v n xs) (hg : w.grownBy w' v.ownBlock) : TCh t w w' := grown hg fun g e => (own_ofT ho e).1
theorem put {b : Nat} {cs : Array Value} (hk : Blk w b t cs) (hg : w.grownBy w' (some b)) : TCh t w w' := grown hg fun g e => by injection e with e; subst e; exact hk.ofT
theorem ext (he : Ext w w') : TCh t w w' := Chg.of_ext he
theorem own {base e size n : Nat} {v : Value} {xs : List Value} (hC : TCh t w w') (ho : w.ownsRow base e size v n xs) (hne : e ≠ t) : w'.ownsRow base e size v n xs :=
  Chg.own hC ho fun g hg hS => hne ((own_ofT ho hg).1.one hS)
theorem blk {g e : Nat} {cs : Array Value} (hC : TCh t w w') (hb : Blk w g e cs) (hne : e ≠ t) : Blk w' g e cs := Chg.blk hC hb fun hS => hne (hb.ofT.one hS)
theorem size (hC : TCh t w w') : w.heap.size ≤ w'.heap.size := Chg.size hC
end TCh
end Go.Proofs.Ytpomklkfedpkfaa
namespace Go.Proofs.Ytpomklkfedpkfaa
open Go.RowKit H
set_option linter.unusedVariables false
def strs (l : List ByteArray) : List Value := l.map Value.string
theorem strs_length (l : List ByteArray) : (strs l).length = l.length := by simp [strs]
def be0 : ByteArray := ⟨#[]⟩
namespace H
theorem Ld.str {w : World} {B n : Nat} {A : Option Addr} {l : List ByteArray} (h : Reads w B 1 A n (strs l)) {j : Nat} (hj : j < n) : Ld w (pA A j) (.string (l.getD j be0)) := by
  have h1 := Ld.rd h (j := j) (by omega)
  have hl : j < l.length := by have := h.1; rw [strs_length] at this; omega
  have : (strs l).getD j undef = .string (l.getD j be0) := by simp [strs, List.getD, hl]
  rwa [this] at h1
theorem Ld.ostr {w : World} {base n c : Nat} {e : TypeId} {A : Option Addr} {l : List ByteArray} (h : w.ownsRow base e 1 (.slice A n c) n (strs l)) {j : Nat} (hj : j < n) : Ld w (pA A j) (.string (l.getD j be0)) := Ld.str (Reads.of_own h) hj
theorem X.lssS {P : Program} {w : World} {f : Operand → Value} {x y : Operand} {d : Option Tmp} {tx tz ty : TypeId} {pos : String} {aft : Array Edge} {g : Option (Nat × Bool)} {a b : ByteArray} (hx : f x = .string a) (hy : f y = .string b) : (execOp f ⟨d, .binOp .lss tx x y tz, ty, pos, aft, g⟩).run P w = .ok (.value (.bool (decide (Op.bytesLess a.toList b.toList = true)))) w :=
  X.bin hx hy (by simp [go_sem]) (by simp [binOp, Op.stringOp])
end H
def Ws : List ByteArray := [⟨#[97, 110, 100]⟩, ⟨#[97, 115, 99]⟩, ⟨#[98, 121]⟩, ⟨#[99, 111, 117, 110, 116]⟩, ⟨#[100, 101, 115, 99]⟩, ⟨#[100, 101, 118]⟩, ⟨#[105, 110]⟩, ⟨#[108, 105, 109, 105, 116]⟩, ⟨#[109, 97, 120]⟩, ⟨#[109, 101, 97, 110]⟩, ⟨#[109, 105, 110]⟩, ⟨#[111, 114, 100, 101, 114]⟩, ⟨#[115, 101, 108, 101, 99, 116]⟩, ⟨#[115, 104, 97, 114, 101]⟩, ⟨#[115, 117, 109]⟩, ⟨#[119, 104, 101, 114, 101]⟩]
theorem words_any (w : World) : Calls Try.prog 133 #[] w fun e w' => ∃ b, e = .returned (.slice (some ⟨b, 0, none⟩) 16 16) ∧ Reads w' w'.heap.size 1 (some ⟨b, 0, none⟩) 16 (strs Ws) ∧ Ext w w' := by
  refine enter Try.func133 rfl (by kernel_rfl) ?_
  refine J.seq ?_
  refine J.region ?_
  refine L.va rfl (X.assign (by conv => lhs; whnf)) ?_
  refine L.nil ?_
  refine J.seq ?_
  refine J.region ?_
  refine L.bslice (vs := [_, _, _, _, _, _, _, _, _, _, _, _, _, _, _, _]) rfl (Evs.cons (by conv => lhs; whnf) (Evs.cons (by conv => lhs; whnf) (Evs.cons (by conv => lhs; whnf) (Evs.cons (by conv => lhs; whnf) (Evs.cons (by conv => lhs; whnf) (Evs.cons (by conv => lhs; whnf) (Evs.cons (by conv => lhs; whnf) (Evs.cons (by conv => lhs; whnf) (Evs.cons (by conv => lhs; whnf) (Evs.cons (by conv => lhs; whnf) (Evs.cons (by conv => lhs; whnf) (Evs.cons (by conv => lhs; whnf) (Evs.cons (by conv => lhs; whnf) (Evs.cons (by conv => lhs; whnf) (Evs.cons (by conv => lhs; whnf) (Evs.cons (by conv => lhs; whnf) Evs.nil)))))))))))))))) rfl rfl rfl rfl Try.underlying44 sz_9 zr_9 (by decide) ?_
  intro b w1 hb hs hk he
  refine L.va rfl (X.assign (by conv => lhs; whnf)) ?_
  refine L.nil ?_
  refine J.ret ?_
  refine fin1 ?_
  exact ⟨b, rfl, blk_reads (l := strs Ws) hk (by omega) rfl, he⟩
theorem ws_less : ∀ m : Fin 16, ∀ j : Fin 16, Op.bytesLess (Ws.getD m.1 be0).data.toList (Ws.getD j.1 be0).data.toList = decide (m.1 < j.1) := by decide
theorem ba_toList (a : ByteArray) : a.toList = a.data.toList := Lib.toList_data a
def among (l : List ByteArray) (s : ByteArray) : Bool := l.any fun x => decide (x = s)
theorem among_iff {l : List ByteArray} {s : ByteArray} : among l s = true ↔ s ∈ l := by
  unfold among
  rw [List.any_eq_true]
  constructor
  · rintro ⟨x, hx, h⟩; rw [← of_decide_eq_true h]; exact hx
  · exact fun h => ⟨s, h, decide_eq_true rfl⟩
theorem ws_lt (m j : Nat) (hm : m < 16) (hj : j < 16) : Op.bytesLess (Ws.getD m be0).toList (Ws.getD j be0).toList = decide (m < j) := by
  rw [ba_toList, ba_toList]; exact ws_less ⟨m, hm⟩ ⟨j, hj⟩
theorem ws_mem {s : ByteArray} (h : s ∈ Ws) : ∃ j, j < 16 ∧ Ws.getD j be0 = s := by
  obtain ⟨i, hi, rfl⟩ := List.mem_iff_getElem.1 h
  exact ⟨i, hi, by simp only [List.getD, List.getElem?_eq_getElem hi, Option.getD_some]⟩
theorem ws_at {j : Nat} (h : j < 16) : Ws.getD j be0 ∈ Ws := by
  have hl : j < Ws.length := h
  simp only [List.getD, List.getElem?_eq_getElem hl, Option.getD_some]
  exact List.getElem_mem hl
theorem word_any (s : ByteArray) (w : World) : Calls Try.prog 113 #[.string s] w fun e w' => e = .returned (.bool (among Ws s)) ∧ Ext w w' := by
  refine enter Try.func113 rfl (by kernel_rfl) ?_
  refine J.seq ?_
  refine J.region ?_
  refine L.va rfl (X.assign (by conv => lhs; whnf)) ?_
  refine L.nil ?_
  refine J.seq ?_
  refine J.region ?_
  refine L.call rfl en_133 rfl (words_any _) ?_
  rintro e w1 ⟨b, rfl, hr, he⟩
  refine ⟨_, rfl, ?_⟩
  have he : Ext w w1 := he
  refine L.va rfl (X.assign (by conv => lhs; whnf)) ?_
  refine L.nil ?_
  refine J.seq ?_
  refine J.region ?_
  refine L.va rfl (X.move (by conv => lhs; whnf)) ?_
  refine L.va rfl (X.len rfl Try.underlying44) ?_
  refine L.va rfl (X.assign (by conv => lhs; whnf)) ?_
  refine L.va rfl (X.assign (by conv => lhs; whnf)) ?_
  refine L.nil ?_
  refine J.seq ?_
  refine J.block ?_
  refine J.loop (X := Nat × Nat) [2, 4, 5, 6, 10, 11, 12, 13, 14, 15, 16, 17, 18, 19, 20, 21, 22, 23, 24, 25, 26, 27, 28, 29, 30, 31, 32, 33] (fun x => [(4, .int .i64 (x.1 : Int)), (5, .int .i64 (x.2 : Int))]) (fun x w' => w' = w1 ∧ x.1 ≤ x.2 ∧ x.2 ≤ 16 ∧ (∀ j, j < 16 → j < x.1 → Ws.getD j be0 ≠ s) ∧ (∀ j, j < 16 → x.2 ≤ j → Ws.getD j be0 ≠ s)) (fun x => x.2 - x.1) ((0, 16)) (At2 (by first | rfl | exact at_int rfl (by omega) | exact at_slice rfl (by omega) | exact at_int rfl (by simp)) (by first | rfl | exact at_int rfl (by omega) | exact at_slice rfl (by omega) | exact at_int rfl (by simp))) ?_ ?_
  · exact ⟨rfl, by decide, by decide, fun j _ h => absurd h (Nat.not_lt_zero _), fun j h1 h2 => absurd h1 (Nat.not_lt.2 h2)⟩
  · rintro ⟨lo, hi⟩ g w2 ⟨rfl, h1, h2, h3, h4⟩
    dsimp only at h1 h2 h3 h4
    have q1 : ((lo, hi) : Nat × Nat).1 = lo := rfl
    have q2 : ((lo, hi) : Nat × Nat).2 = hi := rfl
    refine J.seq ?_
    refine J.seq ?_
    refine J.region ?_
    refine L.va rfl (X.move (by conv => lhs; whnf)) ?_
    refine L.va rfl (X.move (by conv => lhs; whnf)) ?_
    refine L.va rfl (X.lss rfl rfl) ?_
    refine L.nil ?_
    refine J.dec rfl (fun hlt => ?_) (fun hlt => ?_)
    · refine J.skip ?_
      refine J.block ?_
      refine J.seq ?_
      refine J.region ?_
      refine L.va rfl (X.move (by conv => lhs; whnf)) ?_
      refine L.va rfl (X.move (by conv => lhs; whnf)) ?_
      refine L.va rfl (X.add rfl rfl (by omega)) ?_
      refine L.va rfl (X.quo rfl rfl (by omega)) ?_
      refine L.va rfl (X.assign (by conv => lhs; whnf)) ?_
      refine L.nil ?_
      refine J.block ?_
      have e : (((lo, hi) : Nat × Nat).1 + (((lo, hi) : Nat × Nat).2 : Int) : Int) / 2 = (((lo + hi) / 2 : Nat) : Int) := by dsimp only; omega
      rw [e]
      have hmid : lo ≤ (lo + hi) / 2 ∧ (lo + hi) / 2 < hi := by dsimp only at hlt; omega
      generalize (lo + hi) / 2 = m at hmid
      refine J.seq ?_
      refine J.region ?_
      refine L.va rfl (X.move (by conv => lhs; whnf)) ?_
      refine L.va rfl (X.move (by conv => lhs; whnf)) ?_
      refine L.va rfl ((by first | exact X.index1n rfl rfl Try.underlying44 sz_9 (by first | exact Option.some_ne_none _ | exact hr.some_ (by omega)) (by omega) | exact X.index1 rfl rfl Try.underlying44 sz_9 (by first | exact Option.some_ne_none _ | exact hr.some_ (by omega)) (by omega))) ?_
      refine L.va rfl (X.load rfl sc_9 (by first | exact Ld.str hr (by omega))) ?_
      refine L.va rfl (X.move (by conv => lhs; whnf)) ?_
      refine L.va rfl (X.eqlS rfl rfl) ?_
      refine L.va rfl (X.assign (by conv => lhs; whnf)) ?_
      refine L.nil ?_
      refine J.dec rfl (fun heq => ?_) (fun heq => ?_)
      · have hE : among Ws s = true := by rw [← heq]; exact among_iff.2 (ws_at (by omega))
        rw [hE]
        refine J.seq ?_
        refine J.region ?_
        refine L.va rfl (X.assign (by conv => lhs; whnf)) ?_
        refine L.nil ?_
        refine J.ret ?_
        refine inB_ret <|  inB_ret <|  thn_ret <|  inB_ret <|  thn_ret <| ?_
        refine fin1 ?_
        exact ⟨rfl, he⟩
      · refine J.seq ?_
        refine J.region ?_
        refine L.va rfl (X.move (by conv => lhs; whnf)) ?_
        refine L.va rfl (X.move (by conv => lhs; whnf)) ?_
        refine L.va rfl ((by first | exact X.index1n rfl rfl Try.underlying44 sz_9 (by first | exact Option.some_ne_none _ | exact hr.some_ (by omega)) (by omega) | exact X.index1 rfl rfl Try.underlying44 sz_9 (by first | exact Option.some_ne_none _ | exact hr.some_ (by omega)) (by omega))) ?_
        refine L.va rfl (X.load rfl sc_9 (by first | exact Ld.str hr (by omega))) ?_
        refine L.va rfl (X.move (by conv => lhs; whnf)) ?_
        refine L.va rfl (X.lssS rfl rfl) ?_
        refine L.va rfl (X.assign (by conv => lhs; whnf)) ?_
        refine L.nil ?_
        refine J.dec rfl (fun hless => ?_) (fun hless => ?_)
        · refine J.region ?_
          refine L.va rfl (X.move (by conv => lhs; whnf)) ?_
          refine L.va rfl (X.add rfl rfl (by omega)) ?_
          refine L.va rfl (X.assign (by conv => lhs; whnf)) ?_
          refine L.nil ?_
          refine ⟨(m + 1, hi), At2 (by first | rfl | exact at_int rfl (by omega) | exact at_slice rfl (by omega) | exact at_int rfl (by simp)) (by first | rfl | exact at_int rfl (by omega) | exact at_slice rfl (by omega) | exact at_int rfl (by simp)), (by (iterate 25 refine Agr.lk rfl ?_); exact Agr.lk rfl (Agr.hav rfl Agr.rfl')), ?_⟩
          refine ⟨⟨rfl, by dsimp only; omega, h2, fun j hj hjm hjs => ?_, h4⟩, by dsimp only; omega⟩
          dsimp only at hjm
          rw [← hjs, ws_lt m j (by omega) hj] at hless
          have := of_decide_eq_true hless
          omega
        · refine J.region ?_
          refine L.va rfl (X.move (by conv => lhs; whnf)) ?_
          refine L.va rfl (X.assign (by conv => lhs; whnf)) ?_
          refine L.nil ?_
          refine ⟨(lo, m), At2 (by first | rfl | exact at_int rfl (by omega) | exact at_slice rfl (by omega) | exact at_int rfl (by simp)) (by first | rfl | exact at_int rfl (by omega) | exact at_slice rfl (by omega) | exact at_int rfl (by simp)), (by (iterate 24 refine Agr.lk rfl ?_); exact Agr.lk rfl (Agr.hav rfl Agr.rfl')), ?_⟩
          refine ⟨⟨rfl, by dsimp only; omega, by dsimp only; omega, h3, fun j hj hjm hjs => ?_⟩, by dsimp only; omega⟩
          dsimp only at hjm
          by_cases hjm' : j = m
          · subst hjm'; exact heq hjs
          · rw [← hjs, ws_lt m j (by omega) hj] at hless
            exact hless (decide_eq_true (by omega))
    · have hE : among Ws s = false := by
        rw [← Bool.not_eq_true]
        intro hm
        replace hm := among_iff.1 hm
        obtain ⟨j, hj, hjs⟩ := ws_mem hm
        dsimp only at hlt
        rcases Nat.lt_or_ge j lo with h | h
        · exact h3 j hj h hjs
        · exact h4 j hj (by omega) hjs
      rw [hE]
      refine J.exit ?_
      refine J.seq ?_
      refine J.region ?_
      refine L.va rfl (X.assign (by conv => lhs; whnf)) ?_
      refine L.nil ?_
      refine J.ret ?_
      refine fin1 ?_
      exact ⟨rfl, he⟩
end Go.Proofs.Ytpomklkfedpkfaa
namespace Go.Proofs.Ytpomklkfedpkfaa
open Go.RowKit H
set_option linter.unusedVariables false
def ch (s : ByteArray) (i : Nat) : Int := ((s.data.toList.getD i 0).toNat : Int)
theorem ch_bd (s : ByteArray) (i : Nat) : 0 ≤ ch s i ∧ ch s i ≤ 255 := by
  unfold ch
  have := (s.data.toList.getD i 0).toNat_lt
  omega
abbrev letC (c : Int) : Prop := 97 ≤ c ∧ c ≤ 122
abbrev digC (c : Int) : Prop := (48 ≤ c ∧ c ≤ 57) ∨ c = 95
def isS (s : ByteArray) : Bool := decide (1 ≤ s.size ∧ s.size ≤ 16 ∧ letC (ch s 0) ∧ (∀ j, j < s.size → letC (ch s j) ∨ digC (ch s j)) ∧ among Ws s = false)
theorem size_ne {s : ByteArray} (h : ¬ s = ⟨#[]⟩) : 1 ≤ s.size := by
  rcases Nat.eq_zero_or_pos s.size with h0 | h0
  · exfalso
    apply h
    cases s with
    | mk a => exact congrArg ByteArray.mk (Array.eq_empty_of_size_eq_zero h0)
  · exact h0
theorem isS_no {s : ByteArray} (h : ¬ (1 ≤ s.size ∧ s.size ≤ 16 ∧ letC (ch s 0) ∧ (∀ j, j < s.size → letC (ch s j) ∨ digC (ch s j)) ∧ among Ws s = false)) : isS s = false := decide_eq_false h
theorem is_any (s : ByteArray) (w : World) : Calls Try.prog 84 #[.string s] w fun e w' => e = .returned (.bool (isS s)) ∧ Ext w w' := by
  refine enter Try.func84 rfl (by kernel_rfl) ?_
  refine J.seq ?_
  refine J.region ?_
  refine L.va rfl (X.assign (by conv => lhs; whnf)) ?_
  refine L.nil ?_
  refine J.seq ?_
  refine J.seq ?_
  refine J.region ?_
  refine L.va rfl (X.move (by conv => lhs; whnf)) ?_
  refine L.va rfl (X.eqlS rfl rfl) ?_
  refine L.va rfl (X.move (by conv => lhs; whnf)) ?_
  refine L.caseDec (k := 7) rfl (fun h1 => ?_) (fun h1 => ?_)
  · have hE : isS s = false := isS_no (by rw [h1]; rintro ⟨h, _⟩; exact absurd h (by decide))
    rw [hE]
    refine L.no rfl ?_
    refine L.no rfl ?_
    refine L.no rfl ?_
    refine L.va rfl (X.pickT rfl (by conv => lhs; whnf)) ?_
    refine L.va rfl (X.move (by conv => lhs; whnf)) ?_
    refine L.no rfl ?_
    refine L.no rfl ?_
    refine L.no rfl ?_
    refine L.va rfl (X.pickT rfl (by conv => lhs; whnf)) ?_
    refine L.va rfl (X.move (by conv => lhs; whnf)) ?_
    refine L.no rfl ?_
    refine L.no rfl ?_
    refine L.no rfl ?_
    refine L.va rfl (X.pickT rfl (by conv => lhs; whnf)) ?_
    refine L.nil ?_
    refine J.iteT rfl ?_
    refine J.seq ?_
    refine J.region ?_
    refine L.va rfl (X.assign (by conv => lhs; whnf)) ?_
    refine L.nil ?_
    refine J.ret ?_
    refine thn_ret <| ?_
    refine fin1 ?_
    exact ⟨rfl, Ext.refl _⟩
  · have hsz := size_ne h1
    refine L.va rfl (X.move (by conv => lhs; whnf)) ?_
    refine L.va rfl (X.lens rfl Try.underlying9) ?_
    refine L.va rfl (X.gtr rfl rfl) ?_
    refine L.va rfl (X.pickF rfl (by conv => lhs; whnf)) ?_
    refine L.va rfl (X.move (by conv => lhs; whnf)) ?_
    refine L.caseDec (k := 12) rfl (fun h2 => ?_) (fun h2 => ?_)
    · have hE : isS s = false := isS_no (by rintro ⟨_, h, _⟩; omega)
      rw [hE]
      refine L.no rfl ?_
      refine L.no rfl ?_
      refine L.no rfl ?_
      refine L.va rfl (X.pickT rfl (by conv => lhs; whnf)) ?_
      refine L.va rfl (X.move (by conv => lhs; whnf)) ?_
      refine L.no rfl ?_
      refine L.no rfl ?_
      refine L.no rfl ?_
      refine L.va rfl (X.pickT rfl (by conv => lhs; whnf)) ?_
      refine L.nil ?_
      refine J.iteT rfl ?_
      refine J.seq ?_
      refine J.region ?_
      refine L.va rfl (X.assign (by conv => lhs; whnf)) ?_
      refine L.nil ?_
      refine J.ret ?_
      refine thn_ret <| ?_
      refine fin1 ?_
      exact ⟨rfl, Ext.refl _⟩
    · refine L.va rfl (X.move (by conv => lhs; whnf)) ?_
      refine L.va rfl (X.indexStr rfl rfl Try.underlying9 (by omega)) ?_
      refine L.va rfl (X.lss rfl rfl) ?_
      refine L.va rfl (X.pickF rfl (by conv => lhs; whnf)) ?_
      refine L.va rfl (X.move (by conv => lhs; whnf)) ?_
      refine L.caseDec (k := 17) rfl (fun h3 => ?_) (fun h3 => ?_)
      · have h3' : ch s 0 < 97 := h3
        have hE : isS s = false := isS_no (by rintro ⟨_, _, h, _⟩; omega)
        rw [hE]
        refine L.no rfl ?_
        refine L.no rfl ?_
        refine L.no rfl ?_
        refine L.va rfl (X.pickT rfl (by conv => lhs; whnf)) ?_
        refine L.nil ?_
        refine J.iteT rfl ?_
        refine J.seq ?_
        refine J.region ?_
        refine L.va rfl (X.assign (by conv => lhs; whnf)) ?_
        refine L.nil ?_
        refine J.ret ?_
        refine thn_ret <| ?_
        refine fin1 ?_
        exact ⟨rfl, Ext.refl _⟩
      · have h3' : ¬ ch s 0 < 97 := h3
        refine L.va rfl (X.move (by conv => lhs; whnf)) ?_
        refine L.va rfl (X.indexStr rfl rfl Try.underlying9 (by omega)) ?_
        refine L.va rfl (X.gtr rfl rfl) ?_
        refine L.va rfl (X.pickF rfl (by conv => lhs; whnf)) ?_
        refine L.nil ?_
        refine J.dec rfl (fun h4 => ?_) (fun h4 => ?_)
        · have h4' : 122 < ch s 0 := h4
          have hE : isS s = false := isS_no (by rintro ⟨_, _, h, _⟩; omega)
          rw [hE]
          refine J.seq ?_
          refine J.region ?_
          refine L.va rfl (X.assign (by conv => lhs; whnf)) ?_
          refine L.nil ?_
          refine J.ret ?_
          refine thn_ret <| ?_
          refine fin1 ?_
          exact ⟨rfl, Ext.refl _⟩
        · have h4' : ¬ 122 < ch s 0 := h4
          refine J.skip ?_
          refine J.seq ?_
          refine J.seq ?_
          refine J.region ?_
          refine L.va rfl (X.move (by conv => lhs; whnf)) ?_
          refine L.va rfl (X.lens rfl Try.underlying9) ?_
          refine L.va rfl (X.move (by conv => lhs; whnf)) ?_
          refine L.nil ?_
          refine J.block ?_
          refine J.loop (X := Nat) [2, 3, 4, 24, 25, 26, 27, 28, 29, 30, 31, 32, 33, 34, 35, 36, 37, 38, 39, 40, 41, 42, 43, 44, 45, 46, 47, 48] (fun i => [(24, .int .i64 (i : Int))]) (fun i w' => w' = w ∧ i ≤ s.size ∧ ∀ j, j < i → letC (ch s j) ∨ digC (ch s j)) (fun i => s.size - i) (0) (At1 (by first | rfl | exact at_int rfl (by omega) | exact at_slice rfl (by omega) | exact at_int rfl (by simp))) ?_ ?_
          · exact ⟨rfl, by omega, fun j hj => absurd hj (by omega)⟩
          · rintro i g w2 ⟨rfl, hi, hP⟩
            have hc := ch_bd s i
            have hnext : letC (ch s i) ∨ digC (ch s i) → ∀ j, j < i + 1 → letC (ch s j) ∨ digC (ch s j) := by
              intro h j hj
              rcases Nat.lt_or_ge j i with h' | h'
              · exact hP j h'
              · obtain rfl : j = i := by omega
                exact h
            have hbad : i < s.size → ¬ (letC (ch s i) ∨ digC (ch s i)) → isS s = false := fun hl h => isS_no (by rintro ⟨_, _, _, h', _⟩; exact h (h' i hl))
            refine J.seq ?_
            refine J.region ?_
            refine L.va rfl (X.lss rfl rfl) ?_
            refine L.nil ?_
            refine J.seq ?_
            refine J.dec rfl (fun hlt => ?_) (fun hlt => ?_)
            · have hl : i < s.size := by omega
              replace hbad := hbad hl
              refine J.skip ?_
              refine J.seq ?_
              refine J.block ?_
              refine J.seq ?_
              refine J.region ?_
              refine L.va rfl (X.move (by conv => lhs; whnf)) ?_
              refine L.va rfl (X.assign (by conv => lhs; whnf)) ?_
              refine L.nil ?_
              refine J.seq ?_
              refine J.region ?_
              refine L.va rfl (X.move (by conv => lhs; whnf)) ?_
              refine L.va rfl (X.move (by conv => lhs; whnf)) ?_
              refine L.va rfl (X.indexStr rfl rfl Try.underlying9 (by omega)) ?_
              refine L.va rfl (X.assign (by conv => lhs; whnf)) ?_
              refine L.nil ?_
              rw [show ((s.data.toList.getD ((i : Int)).toNat 0).toNat : Int) = ch s i from rfl]
              generalize ch s i = c at hc hnext hbad
              refine J.seq ?_
              refine J.region ?_
              refine L.va rfl (X.move (by conv => lhs; whnf)) ?_
              refine L.va rfl (X.lss rfl rfl) ?_
              refine L.va rfl (X.move (by conv => lhs; whnf)) ?_
              refine L.caseDec (k := 32) rfl (fun a1 => ?_) (fun a1 => ?_)
              · refine L.no rfl ?_
                refine L.no rfl ?_
                refine L.va rfl (X.pickT rfl (by conv => lhs; whnf)) ?_
                refine L.va rfl (X.move (by conv => lhs; whnf)) ?_
                refine L.va rfl (X.move (by conv => lhs; whnf)) ?_
                refine L.va rfl (X.lss rfl rfl) ?_
                refine L.va rfl (X.move (by conv => lhs; whnf)) ?_
                refine L.caseDec (k := 39) rfl (fun a2 => ?_) (fun a2 => ?_)
                · refine L.no rfl ?_
                  refine L.no rfl ?_
                  refine L.va rfl (X.pickT rfl (by conv => lhs; whnf)) ?_
                  refine L.va rfl (X.pickT rfl (by conv => lhs; whnf)) ?_
                  refine L.va rfl (X.move (by conv => lhs; whnf)) ?_
                  refine L.va rfl (X.move (by conv => lhs; whnf)) ?_
                  refine L.va rfl (X.neq rfl rfl) ?_
                  refine L.va rfl (X.pickT rfl (by conv => lhs; whnf)) ?_
                  refine L.nil ?_
                  refine J.ndecT rfl (by omega) ?_
                  have hE := hbad (by omega)
                  rw [hE]
                  refine J.seq ?_
                  refine J.region ?_
                  refine L.va rfl (X.assign (by conv => lhs; whnf)) ?_
                  refine L.nil ?_
                  refine J.ret ?_
                  refine inB_ret <|  thn_ret <|  thn_ret <|  inB_ret <|  thn_ret <| ?_
                  refine fin1 ?_
                  exact ⟨rfl, Ext.refl _⟩
                · refine L.va rfl (X.move (by conv => lhs; whnf)) ?_
                  refine L.va rfl (X.gtr rfl rfl) ?_
                  refine L.va rfl (X.pickF rfl (by conv => lhs; whnf)) ?_
                  refine L.va rfl (X.pickT rfl (by conv => lhs; whnf)) ?_
                  refine L.va rfl (X.move (by conv => lhs; whnf)) ?_
                  refine L.caseDec (k := 44) rfl (fun a3 => ?_) (fun a3 => ?_)
                  · refine L.va rfl (X.move (by conv => lhs; whnf)) ?_
                    refine L.va rfl (X.neq rfl rfl) ?_
                    refine L.va rfl (X.pickT rfl (by conv => lhs; whnf)) ?_
                    refine L.nil ?_
                    refine J.ndec rfl (fun a4 => ?_) (fun a4 => ?_)
                    · have hE := hbad (by omega)
                      rw [hE]
                      refine J.seq ?_
                      refine J.region ?_
                      refine L.va rfl (X.assign (by conv => lhs; whnf)) ?_
                      refine L.nil ?_
                      refine J.ret ?_
                      refine inB_ret <|  thn_ret <|  thn_ret <|  inB_ret <|  thn_ret <| ?_
                      refine fin1 ?_
                      exact ⟨rfl, Ext.refl _⟩
                    · refine J.skip ?_
                      refine J.region ?_
                      refine L.va rfl (X.add rfl rfl (by omega)) ?_
                      refine L.va rfl (X.move (by conv => lhs; whnf)) ?_
                      refine L.nil ?_
                      refine ⟨i + 1, At1 (by first | rfl | exact at_int rfl (by omega) | exact at_slice rfl (by omega) | exact at_int rfl (by simp)), (by (iterate 30 refine Agr.lk rfl ?_); exact Agr.lk rfl (Agr.hav rfl Agr.rfl')), ?_⟩
                      exact ⟨⟨rfl, by omega, hnext (by omega)⟩, by omega⟩
                  · refine L.no rfl ?_
                    refine L.no rfl ?_
                    refine L.va rfl (X.pickF rfl (by conv => lhs; whnf)) ?_
                    refine L.nil ?_
                    refine J.iteF rfl ?_
                    refine J.skip ?_
                    refine J.region ?_
                    refine L.va rfl (X.add rfl rfl (by omega)) ?_
                    refine L.va rfl (X.move (by conv => lhs; whnf)) ?_
                    refine L.nil ?_
                    refine ⟨i + 1, At1 (by first | rfl | exact at_int rfl (by omega) | exact at_slice rfl (by omega) | exact at_int rfl (by simp)), (by (iterate 30 refine Agr.lk rfl ?_); exact Agr.lk rfl (Agr.hav rfl Agr.rfl')), ?_⟩
                    exact ⟨⟨rfl, by omega, hnext (by omega)⟩, by omega⟩
              · refine L.va rfl (X.move (by conv => lhs; whnf)) ?_
                refine L.va rfl (X.gtr rfl rfl) ?_
                refine L.va rfl (X.pickF rfl (by conv => lhs; whnf)) ?_
                refine L.va rfl (X.move (by conv => lhs; whnf)) ?_
                refine L.caseDec (k := 36) rfl (fun a5 => ?_) (fun a5 => ?_)
                · refine L.va rfl (X.move (by conv => lhs; whnf)) ?_
                  refine L.va rfl (X.lss rfl rfl) ?_
                  refine L.va rfl (X.move (by conv => lhs; whnf)) ?_
                  refine L.caseDecF (k := 39) rfl (by omega) ?_
                  refine L.va rfl (X.move (by conv => lhs; whnf)) ?_
                  refine L.va rfl (X.gtr rfl rfl) ?_
                  refine L.va rfl (X.pickF rfl (by conv => lhs; whnf)) ?_
                  refine L.va rfl (X.pickT rfl (by conv => lhs; whnf)) ?_
                  refine L.va rfl (X.move (by conv => lhs; whnf)) ?_
                  refine L.caseDecT (k := 44) rfl (by omega) ?_
                  refine L.va rfl (X.move (by conv => lhs; whnf)) ?_
                  refine L.va rfl (X.neq rfl rfl) ?_
                  refine L.va rfl (X.pickT rfl (by conv => lhs; whnf)) ?_
                  refine L.nil ?_
                  refine J.ndecT rfl (by omega) ?_
                  have hE := hbad (by omega)
                  rw [hE]
                  refine J.seq ?_
                  refine J.region ?_
                  refine L.va rfl (X.assign (by conv => lhs; whnf)) ?_
                  refine L.nil ?_
                  refine J.ret ?_
                  refine inB_ret <|  thn_ret <|  thn_ret <|  inB_ret <|  thn_ret <| ?_
                  refine fin1 ?_
                  exact ⟨rfl, Ext.refl _⟩
                · refine L.no rfl ?_
                  refine L.no rfl ?_
                  refine L.no rfl ?_
                  refine L.no rfl ?_
                  refine L.no rfl ?_
                  refine L.no rfl ?_
                  refine L.va rfl (X.pickF rfl (by conv => lhs; whnf)) ?_
                  refine L.va rfl (X.move (by conv => lhs; whnf)) ?_
                  refine L.no rfl ?_
                  refine L.no rfl ?_
                  refine L.va rfl (X.pickF rfl (by conv => lhs; whnf)) ?_
                  refine L.nil ?_
                  refine J.iteF rfl ?_
                  refine J.skip ?_
                  refine J.region ?_
                  refine L.va rfl (X.add rfl rfl (by omega)) ?_
                  refine L.va rfl (X.move (by conv => lhs; whnf)) ?_
                  refine L.nil ?_
                  refine ⟨i + 1, At1 (by first | rfl | exact at_int rfl (by omega) | exact at_slice rfl (by omega) | exact at_int rfl (by simp)), (by (iterate 29 refine Agr.lk rfl ?_); exact Agr.lk rfl (Agr.hav rfl Agr.rfl')), ?_⟩
                  exact ⟨⟨rfl, by omega, hnext (by omega)⟩, by omega⟩
            · obtain rfl : i = s.size := by omega
              have hE : isS s = !among Ws s := by
                cases hw : among Ws s with
                | true => exact isS_no (by rintro ⟨_, _, _, _, h⟩; rw [hw] at h; cases h)
                | false => exact decide_eq_true ⟨hsz, by omega, by omega, hP, hw⟩
              rw [hE]
              refine J.exit ?_
              refine J.seq ?_
              refine J.region ?_
              refine L.va rfl (X.move (by conv => lhs; whnf)) ?_
              refine L.call rfl en_113 rfl (word_any s _) ?_
              rintro e w3 ⟨rfl, he⟩
              refine ⟨_, rfl, ?_⟩
              refine L.va rfl (X.not rfl) ?_
              refine L.va rfl (X.assign (by conv => lhs; whnf)) ?_
              refine L.nil ?_
              refine J.ret ?_
              refine fin1 ?_
              exact ⟨rfl, he⟩
end Go.Proofs.Ytpomklkfedpkfaa
namespace Go.Proofs.Ytpomklkfedpkfaa
open Go.RowKit H
set_option linter.unusedVariables false
def tw (l : List ByteArray) : Int := match (List.range l.length).find? (fun i => among (l.take i) (l.getD i be0)) with
  | some i => (i : Int)
  | none => -1
theorem tw_some {l : List ByteArray} {i : Nat} (hi : i < l.length) (h : among (l.take i) (l.getD i be0) = true) (hP : ∀ j, j < i → among (l.take j) (l.getD j be0) = false) : tw l = (i : Int) := by
  have : (List.range l.length).find? (fun i => among (l.take i) (l.getD i be0)) = some i := by
    rw [List.find?_range_eq_some]
    refine ⟨h, List.mem_range.2 hi, fun j hj => by rw [hP j hj]; rfl⟩
  unfold tw
  rw [this]
theorem tw_none {l : List ByteArray} (hP : ∀ j, j < l.length → among (l.take j) (l.getD j be0) = false) : tw l = -1 := by
  have : (List.range l.length).find? (fun i => among (l.take i) (l.getD i be0)) = none := by
    rw [List.find?_range_eq_none]
    exact fun j hj => by rw [hP j hj]; rfl
  unfold tw
  rw [this]
end Go.Proofs.Ytpomklkfedpkfaa
namespace Go.Proofs.Ytpomklkfedpkfaa
open Go.RowKit H
set_option linter.unusedVariables false
theorem take_nextS {l : List ByteArray} {i : Nat} (h : i < l.length) : l.take (i + 1) = l.take i ++ [l.getD i be0] := by
  rw [List.take_add_one, List.getElem?_eq_getElem h]
  simp [List.getD, h]
theorem among_next {l : List ByteArray} {i : Nat} (h : i < l.length) (s : ByteArray) : among (l.take (i + 1)) s = (among (l.take i) s || decide (l.getD i be0 = s)) := by
  rw [take_nextS h]
  unfold among
  rw [List.any_append]
  simp
set_option maxRecDepth 100000 in
theorem twice_any (A : Option Addr) (n c : Nat) (l : List ByteArray) (w : World) (hr : Reads w w.heap.size 1 A n (strs l)) (hn : n ≤ maxLen) (hs : ∀ s ∈ l, s.size ≤ maxLen) :
    Calls Try.prog 85 #[.slice A n c] w fun e w' => e = .returned (.int .i64 (tw l)) ∧ Ext w w' := by
  have hl : l.length = n := by have := hr.1; simpa [strs] using this
  unfold maxLen at hn
  have hz : ∀ w' : World, (zeroValue 3).run Try.prog w' = .ok (.int .i64 0) w' := fun w' => rfl
  refine enter Try.func85 rfl (by kernel_rfl) ?_
  refine J.seq ?_
  refine J.region ?_
  refine L.va rfl (X.assign (by conv => lhs; whnf)) ?_
  refine L.nil ?_
  refine J.seq ?_
  refine J.region ?_
  refine L.va rfl (X.move (by conv => lhs; whnf)) ?_
  refine L.va rfl (X.len rfl Try.underlying44) ?_
  refine L.makeMap rfl rfl Try.underlying164 ?_
  intro b w1 hb hs1 hm he
  refine L.va rfl (X.assign (by conv => lhs; whnf)) ?_
  refine L.nil ?_
  refine J.seq ?_
  refine J.seq ?_
  refine J.region ?_
  refine L.va rfl (X.move (by conv => lhs; whnf)) ?_
  refine L.va rfl (X.len rfl Try.underlying44) ?_
  refine L.va rfl (X.move (by conv => lhs; whnf)) ?_
  refine L.nil ?_
  refine J.block ?_
  refine J.loop (X := Nat × (ByteArray → Option Int)) [2, 4, 5, 6, 7, 13, 14, 15, 16, 17, 18, 19, 20, 21, 22, 23, 24, 25, 26, 27, 28, 29] (fun x => [(13, .int .i64 (x.1 : Int))]) (fun x w' => x.1 ≤ n ∧ MapSI Try.prog 9 3 w' b x.1 x.2 ∧ (∀ s, (x.2 s).isSome = among (l.take x.1) s) ∧ (∀ j, j < x.1 → among (l.take j) (l.getD j be0) = false) ∧ Ext w w') (fun x => n - x.1) ((0, fun _ => none)) (At1 (by first | rfl | exact at_int rfl (by omega) | exact at_slice rfl (by omega) | exact at_int rfl (by simp))) ?_ ?_
  · exact ⟨by dsimp only; omega, hm, fun s => rfl, fun j hj => absurd hj (Nat.not_lt_zero _), he⟩
  · rintro ⟨i, f⟩ g w2 ⟨hi, hm2, hf, hP, he2⟩
    dsimp only at hi hm2 hf hP
    have q1 : ((i, f) : Nat × (ByteArray → Option Int)).1 = i := rfl
    have hr2 := hr.ext he2
    refine J.seq ?_
    refine J.region ?_
    refine L.va rfl (X.lss rfl rfl) ?_
    refine L.nil ?_
    refine J.seq ?_
    refine J.dec rfl (fun hlt => ?_) (fun hlt => ?_)
    · have hil : i < l.length := by rw [hl]; dsimp only at hlt; omega
      have hsz : (l.getD i be0).size ≤ maxLen := by
        apply hs
        simp only [List.getD, List.getElem?_eq_getElem hil, Option.getD_some]
        exact List.getElem_mem hil
      refine J.skip ?_
      refine J.seq ?_
      refine J.block ?_
      refine J.seq ?_
      refine J.region ?_
      refine L.va rfl (X.move (by conv => lhs; whnf)) ?_
      refine L.va rfl ((by first | exact X.index1n rfl rfl Try.underlying44 sz_9 (by first | exact Option.some_ne_none _ | exact hr2.some_ (by omega)) (by omega) | exact X.index1 rfl rfl Try.underlying44 sz_9 (by first | exact Option.some_ne_none _ | exact hr2.some_ (by omega)) (by omega))) ?_
      refine L.va rfl (X.load rfl sc_9 (by first | exact Ld.str hr2 (by omega))) ?_
      refine L.va rfl (X.assign (by conv => lhs; whnf)) ?_
      refine L.va rfl (X.assign (by conv => lhs; whnf)) ?_
      refine L.nil ?_
      refine J.seq ?_
      refine J.seq ?_
      refine J.region ?_
      refine L.va rfl (X.move (by conv => lhs; whnf)) ?_
      refine L.va rfl (X.move (by conv => lhs; whnf)) ?_
      refine L.va rfl (X.look rfl rfl hm2 Try.underlying164 (by kernel_rfl) (by kernel_rfl) (hz _) hsz) ?_
      refine L.va rfl (X.move (by conv => lhs; whnf)) ?_
      refine L.va rfl (X.extract rfl rfl) ?_
      refine L.va rfl (X.extract rfl rfl) ?_
      refine L.va rfl (X.assign (by conv => lhs; whnf)) ?_
      refine L.va rfl (X.assign (by conv => lhs; whnf)) ?_
      refine L.nil ?_
      refine J.seq ?_
      refine J.region ?_
      refine L.va rfl (X.move (by conv => lhs; whnf)) ?_
      refine L.nil ?_
      refine J.ite rfl (fun hin => ?_) (fun hin => ?_)
      · have hin' : among (l.take i) (l.getD i be0) = true := by rw [← hf]; exact hin
        have hE : tw l = (i : Int) := tw_some hil hin' hP
        rw [hE]
        refine J.seq ?_
        refine J.region ?_
        refine L.va rfl (X.move (by conv => lhs; whnf)) ?_
        refine L.va rfl (X.assign (by conv => lhs; whnf)) ?_
        refine L.nil ?_
        refine J.ret ?_
        refine thn_ret <|  inB_ret <|  thn_ret <|  thn_ret <|  inB_ret <|  thn_ret <| ?_
        refine fin1 ?_
        exact ⟨rfl, he2⟩
      · have hin' : among (l.take i) (l.getD i be0) = false := by rw [← hf]; simpa using hin
        refine J.skip ?_
        refine J.region ?_
        refine L.va rfl (X.move (by conv => lhs; whnf)) ?_
        refine L.va rfl (X.move (by conv => lhs; whnf)) ?_
        refine L.va rfl (X.move (by conv => lhs; whnf)) ?_
        refine L.mapPut rfl rfl rfl rfl (hm2) Try.underlying164 (by kernel_rfl) (by kernel_rfl) (by unfold maxLen; omega) (hsz) (wf64 (by dsimp only; omega)) ?_
        intro w3 hm3 hg3
        have he3 : Ext w w3 := he2.grw hg3 (by intro g hg; injection hg with hg; omega)
        refine L.nil ?_
        refine J.region ?_
        refine L.va rfl (X.add rfl rfl (by omega)) ?_
        refine L.va rfl (X.move (by conv => lhs; whnf)) ?_
        refine L.nil ?_
        refine ⟨(i + 1, fun x => if x = l.getD i be0 then some (i : Int) else f x), At1 (by first | rfl | exact at_int rfl (by omega) | exact at_slice rfl (by omega) | exact at_int rfl (by simp)), (by (iterate 20 refine Agr.lk rfl ?_); exact Agr.lk rfl (Agr.hav rfl Agr.rfl')), ?_⟩
        refine ⟨⟨by dsimp only; omega, hm3, fun s => ?_, fun j hj => ?_, he3⟩, by dsimp only; omega⟩
        · dsimp only
          rw [among_next hil, ← hf]
          by_cases hss : s = l.getD i be0
          · subst hss; simp
          · rw [if_neg hss, decide_eq_false (fun h => hss h.symm), Bool.or_false]
        · dsimp only at hj
          rcases Nat.lt_or_ge j i with h' | h'
          · exact hP j h'
          · obtain rfl : j = i := by omega
            exact hin'
    · obtain rfl : i = n := by dsimp only at hlt; omega
      have hE : tw l = -1 := tw_none (by rw [hl]; exact hP)
      rw [hE]
      refine J.exit ?_
      refine J.seq ?_
      refine J.region ?_
      refine L.va rfl (X.assign (by conv => lhs; whnf)) ?_
      refine L.nil ?_
      refine J.ret ?_
      refine fin1 ?_
      exact ⟨rfl, he2⟩
end Go.Proofs.Ytpomklkfedpkfaa
namespace Go.Proofs.Ytpomklkfedpkfaa
set_option maxRecDepth 100000
open Go.RowKit H
set_option linter.unusedVariables false
theorem LiesSlice.strs {w : World} {B n : Nat} {A : Option Addr} {xs : List Str} (h : LiesSlice w B A n xs) : Reads w B 1 A n (strs (xs.map (·.s))) := by
  refine ⟨by simp [strs_length, h.1], fun hn => ?_⟩
  obtain ⟨ad, e, hb, hc⟩ := h.2 hn
  refine ⟨ad, e, hb, fun j u hu => ?_⟩
  simp only [Go.Proofs.Ytpomklkfedpkfaa.strs, List.map_map, List.getElem?_map, Option.map_eq_some_iff] at hu
  obtain ⟨x, hx, rfl⟩ := hu
  obtain ⟨us, hus, hl⟩ := hc j x hx
  obtain rfl : us = [.string x.s] := hl
  have := hus 0 (show 0 < 1 by decide)
  simpa [show Lay.size Str = 1 from rfl] using this
def dimsV (l : List (ByteArray × Int)) : List Value := l.flatMap fun p => [.string p.1, .int .i64 p.2]
theorem dimsV_length (l : List (ByteArray × Int)) : (dimsV l).length = l.length * 2 := by
  induction l with
  | nil => rfl
  | cons a l ih => simp only [dimsV, List.flatMap_cons, List.length_append, List.length_cons, List.length_nil] at ih ⊢; omega
theorem dimsV_at : ∀ (l : List (ByteArray × Int)) (i : Nat), (dimsV l)[i * 2]? = (l[i]?).map (fun p => Value.string p.1) ∧ (dimsV l)[i * 2 + 1]? = (l[i]?).map (fun p => Value.int .i64 p.2)
  | [], i => by simp [dimsV]
  | a :: l, 0 => by simp [dimsV]
  | a :: l, i + 1 => by
    obtain ⟨h1, h2⟩ := dimsV_at l i
    have e : dimsV (a :: l) = .string a.1 :: .int .i64 a.2 :: dimsV l := rfl
    rw [e, show (i + 1) * 2 = i * 2 + 1 + 1 by omega]
    simp only [List.getElem?_cons_succ]
    exact ⟨h1, h2⟩
def d0 : ByteArray × Int := (be0, 0)
theorem LiesSlice.dims {w : World} {B n : Nat} {A : Option Addr} {xs : List (Str × Nm .i64)} (h : LiesSlice w B A n xs) : Reads w B 2 A n (dimsV (xs.map fun p => (p.1.s, p.2.z))) := by
  refine ⟨by rw [dimsV_length, List.length_map, h.1], fun hn => ?_⟩
  obtain ⟨ad, e, hb, hc⟩ := h.2 hn
  refine ⟨ad, e, hb, fun j u hu => ?_⟩
  have hj : j < n * 2 := by
    have := (List.getElem?_eq_some_iff.1 hu).1
    rw [dimsV_length, List.length_map, h.1] at this
    exact this
  obtain ⟨k1, k2⟩ := dimsV_at (xs.map fun p => (p.1.s, p.2.z)) (j / 2)
  have hi : j / 2 < xs.length := by rw [h.1]; omega
  have hx : xs[j / 2]? = some xs[j / 2] := List.getElem?_eq_getElem hi
  obtain ⟨us, hus, us1, ws1, rfl, hl1, hl2⟩ := hc (j / 2) _ hx
  obtain rfl : us1 = [.string xs[j / 2].1.s] := hl1
  obtain rfl : ws1 = [.int .i64 xs[j / 2].2.z] := hl2
  have c0 := hus 0 (show 0 < 2 by decide)
  have c1 := hus 1 (show 1 < 2 by decide)
  have hs2 : Lay.size (Str × Nm .i64) = 2 := rfl
  rw [hs2] at c0 c1
  rw [List.getElem?_map, hx] at k1 k2
  rcases Nat.mod_two_eq_zero_or_one j with h0 | h0
  · rw [show j / 2 * 2 = j by omega] at k1
    rw [k1] at hu
    rw [show j / 2 * 2 + 0 = j by omega] at c0
    rw [c0, ← hu]
    rfl
  · rw [show j / 2 * 2 + 1 = j by omega] at k2
    rw [k2] at hu
    rw [show j / 2 * 2 + 1 = j by omega] at c1
    rw [c1, ← hu]
    rfl
namespace H
theorem Ld.dimS {w : World} {B n : Nat} {A : Option Addr} {l : List (ByteArray × Int)} (h : Reads w B 2 A n (dimsV l)) {i : Nat} (hi : i < n) : Ld w (pA A (i * 2)) (.string (l.getD i d0).1) := by
  have h1 := Ld.rd h (j := i * 2) (by omega)
  have hl : i < l.length := by have := h.1; rw [dimsV_length] at this; omega
  have : (dimsV l).getD (i * 2) undef = .string (l.getD i d0).1 := by
    simp only [List.getD, (dimsV_at l i).1, List.getElem?_eq_getElem hl, Option.map_some, Option.getD_some]
  rwa [this] at h1
theorem Ld.dimN {w : World} {B n : Nat} {A : Option Addr} {l : List (ByteArray × Int)} (h : Reads w B 2 A n (dimsV l)) {i : Nat} (hi : i < n) : Ld w (pA A (i * 2 + 1)) (.int .i64 (l.getD i d0).2) := by
  have h1 := Ld.rd h (j := i * 2 + 1) (by omega)
  have hl : i < l.length := by have := h.1; rw [dimsV_length] at this; omega
  have : (dimsV l).getD (i * 2 + 1) undef = .int .i64 (l.getD i d0).2 := by
    simp only [List.getD, (dimsV_at l i).2, List.getElem?_eq_getElem hl, Option.map_some, Option.getD_some]
  rwa [this] at h1
end H
theorem schema4 {w : World} {B : Nat} {vs : List Value} {x : (List (Str × Nm .i64)) × List Str × List Str × List (Nm .u32)} (h : Lay.lies w B vs x) :
    ∃ Ad nd cd A1 n1 c1 A2 n2 c2 Av nv cv, vs = [.slice Ad nd cd, .slice A1 n1 c1, .slice A2 n2 c2, .slice Av nv cv] ∧ (nd ≤ cd ∧ cd ≤ maxLen) ∧ (n1 ≤ c1 ∧ c1 ≤ maxLen) ∧ (n2 ≤ c2 ∧ c2 ≤ maxLen) ∧ (nv ≤ cv ∧ cv ≤ maxLen) ∧
      Reads w B 2 Ad nd (dimsV (x.1.map fun p => (p.1.s, p.2.z))) ∧ Reads w B 1 A1 n1 (strs (x.2.1.map (·.s))) ∧ Reads w B 1 A2 n2 (strs (x.2.2.1.map (·.s))) ∧ Reads w B 1 Av nv (nums .u32 (zsOf x.2.2.2)) := by
  obtain ⟨us, ws, rfl, ⟨Ad, nd, cd, rfl, g1, g2, _, g3⟩, us2, ws2, rfl, ⟨A1, n1, c1, rfl, k1, k2, _, k3⟩, us3, ws3, rfl, ⟨A2, n2, c2, rfl, l1, l2, _, l3⟩, Av, nv, cv, rfl, m1, m2, _, m3⟩ := h
  exact ⟨Ad, nd, cd, A1, n1, c1, A2, n2, c2, Av, nv, cv, rfl, ⟨g1, g2⟩, ⟨k1, k2⟩, ⟨l1, l2⟩, ⟨m1, m2⟩, g3.dims, k3.strs, l3.strs, m3.reads⟩
end Go.Proofs.Ytpomklkfedpkfaa
namespace Go.Proofs.Ytpomklkfedpkfaa
set_option maxRecDepth 100000
open Go.RowKit H
set_option linter.unusedVariables false
theorem strs_ones (l : List ByteArray) : (strs l).all (·.oneCell') = true := by
  rw [List.all_eq_true]
  intro u hu
  simp only [strs, List.mem_map] at hu
  obtain ⟨x, _, rfl⟩ := hu
  rfl
theorem strs_append (a b : List ByteArray) : strs a ++ strs b = strs (a ++ b) := by simp [strs]
theorem dims_row {l : List (ByteArray × Int)} {i : Nat} (h : i < l.length) : ∀ (r : Nat) (v : Value), [Value.string (l.getD i d0).1, Value.int .i64 (l.getD i d0).2][r]? = some v → (dimsV l)[i * 2 + r]? = some v := by
  have e : l.getD i d0 = l[i] := by simp [List.getD, h]
  obtain ⟨h1, h2⟩ := dimsV_at l i
  rw [List.getElem?_eq_getElem h] at h1 h2
  rw [e]
  intro r v hv
  match r, hv with
  | 0, hv => rw [Nat.add_zero, h1]; exact hv
  | 1, hv => rw [h2]; exact hv
def nmL (ds : List (ByteArray × Int)) (s1 s2 : List ByteArray) : List ByteArray := ds.map (·.1) ++ s1 ++ s2
theorem names_take {ds : List (ByteArray × Int)} {i : Nat} (h : i < ds.length) : (ds.take (i + 1)).map (·.1) = (ds.take i).map (·.1) ++ [(ds.getD i d0).1] := by
  rw [List.take_add_one, List.getElem?_eq_getElem h, List.map_append]
  congr 1
  simp [List.getD, h]
theorem sall_any (Ad : Option Addr) (nd cd : Nat) (A1 : Option Addr) (n1 c1 : Nat) (A2 : Option Addr) (n2 c2 : Nat) (Av : Option Addr) (nv cv : Nat) (ds : List (ByteArray × Int)) (s1 s2 : List ByteArray) (w : World)
    (hd : Reads w w.heap.size 2 Ad nd (dimsV ds)) (h1 : Reads w w.heap.size 1 A1 n1 (strs s1)) (h2 : Reads w w.heap.size 1 A2 n2 (strs s2)) (hnd : nd ≤ 1000) (hn1 : n1 ≤ 1000) (hn2 : n2 ≤ 1000) :
    Calls Try.prog 83 #[.agg #[.slice Ad nd cd, .slice A1 n1 c1, .slice A2 n2 c2, .slice Av nv cv]] w fun e w' => ∃ A c, e = .returned (.slice A (nd + n1 + n2) c) ∧ w'.ownsRow w.heap.size 9 1 (.slice A (nd + n1 + n2) c) (nd + n1 + n2) (strs (nmL ds s1 s2)) ∧ Ext w w' := by
  have hl : ds.length = nd := by have := hd.1; rw [dimsV_length] at this; omega
  refine enter Try.func83 rfl (by kernel_rfl) ?_
  refine J.seq ?_
  refine J.region ?_
  refine L.boxA (l := [_, _, _, _]) rfl rfl ?_
  intro b1 w1 hb1 hs1 hk1 he1
  refine L.va rfl (X.assign (by conv => lhs; whnf)) ?_
  refine L.nil ?_
  refine J.seq ?_
  refine J.region ?_
  refine L.va rfl (X.assign (by conv => lhs; whnf)) ?_
  refine L.nil ?_
  refine J.seq ?_
  refine J.seq ?_
  refine J.region ?_
  refine L.va rfl (X.fieldAddr rfl Try.underlying47 rfl sz_43 (by decide)) ?_
  refine L.va rfl (X.load rfl sc_43 (by first | exact Ld.blk hk1 rfl)) ?_
  refine L.va rfl (X.len rfl Try.underlying43) ?_
  refine L.va rfl (X.move (by conv => lhs; whnf)) ?_
  refine L.nil ?_
  refine J.block ?_
  refine J.loop (X := Nat × Option Addr × Nat) [3, 5, 9, 10, 11, 12, 13, 14, 15, 16, 17, 18] (fun x => [(9, .int .i64 (x.1 : Int)), (3, .slice x.2.1 x.1 x.2.2)]) (fun x w' => x.1 ≤ nd ∧ w'.ownsRow w.heap.size 9 1 (.slice x.2.1 x.1 x.2.2) x.1 (strs ((ds.take x.1).map (·.1))) ∧ Blk w' b1 47 #[.slice Ad nd cd, .slice A1 n1 c1, .slice A2 n2 c2, .slice Av nv cv] ∧ Ext w w') (fun x => nd - x.1) ((0, none, 0)) (At2 (by first | rfl | exact at_int rfl (by omega) | exact at_slice rfl (by omega) | exact at_int rfl (by simp)) (by first | rfl | exact at_int rfl (by omega) | exact at_slice rfl (by omega) | exact at_int rfl (by simp))) ?_ ?_
  · exact ⟨by dsimp only; omega, own_nil _ _ _ _, hk1, he1⟩
  · rintro ⟨i, A, c⟩ g w2 ⟨hi, ho2, hk12, he2⟩
    dsimp only at hi ho2
    have q1 : ((i, A, c) : Nat × Option Addr × Nat).1 = i := rfl
    have hz2 := he2.le
    have hd2 := hd.ext he2
    refine J.seq ?_
    refine J.region ?_
    refine L.va rfl (X.lss rfl rfl) ?_
    refine L.nil ?_
    refine J.seq ?_
    refine J.dec rfl (fun hlt => ?_) (fun hlt => ?_)
    · have hil : i < ds.length := by rw [hl]; dsimp only at hlt; omega
      refine J.skip ?_
      refine J.seq ?_
      refine J.block ?_
      refine J.seq ?_
      refine J.region ?_
      refine L.va rfl ((by first | exact X.indexAddrn rfl rfl Try.underlying43 sz_78 (by first | exact Option.some_ne_none _ | exact hd2.some_ (by omega)) (by omega) | exact X.indexAddr rfl rfl Try.underlying43 sz_78 (by first | exact Option.some_ne_none _ | exact hd2.some_ (by omega)) (by omega))) ?_
      refine L.va rfl (X.loadRow (cs := [.string (ds.getD i d0).1, .int .i64 (ds.getD i d0).2]) rfl hd2 (dims_row hil) (Nat.zero_lt_succ _) Try.underlying78 rfl (by kernel_rfl)) ?_
      refine L.alloc rfl zr_78 ?_
      intro b3 w3 hb3 hs3 hk3 he3
      refine L.storeAgg (vs := [_, _]) rfl rfl rfl rfl sz_78 (hk3) rfl ?_
      intro w4 hk4 hg4 hs4
      have ho4 := (ho2.ext he3).kept hg4 (.inr (own_blk_ne (ho2.ext he3) hk3 (by decide)))
      have hlt1 := hk12.lt
      have hkS4 := (hk12.ext he3).grown hg4 (by intro hg; injection hg with hg; omega)
      have he4 : Ext w w4 := (he2.trans he3).grw hg4 (by intro g hg; injection hg with hg; omega)
      have hz4 := he4.le
      refine L.nil ?_
      refine J.region ?_
      refine L.va rfl (X.move (by conv => lhs; whnf)) ?_
      refine L.va rfl (X.fieldAddr rfl Try.underlying78 rfl sz_9 (by decide)) ?_
      refine L.va rfl (X.load rfl sc_9 (by first | exact Ld.blk hk4 rfl)) ?_
      refine L.bslice (vs := [_]) rfl (Evs.cons (by conv => lhs; whnf) Evs.nil) rfl rfl rfl rfl Try.underlying44 sz_9 zr_9 (by decide) ?_
      intro b5 w5 hb5 hs5 hk5 he5
      have hz5 := he5.le
      refine L.appendV (q := i + 1) (ys := strs ((ds.take i).map (·.1)) ++ strs [(ds.getD i d0).1]) rfl rfl rfl Try.underlying44 el_9 (ho4.ext he5) ((blk_reads (q := 1) (l := strs [(ds.getD i d0).1]) hk5 (by omega : b5 < w5.heap.size) rfl)) (by first | rfl | exact strs_ones _ | assumption) (by omega) (by simp) (by unfold maxLen; omega) (by omega) ?_
      intro A6 c6 w6 ho6 hg6 hb6 hor6
      rw [strs_append, ← names_take hil] at ho6
      have he6 : Ext w w6 := (he4.trans he5).low hb6 (Nat.le_refl _)
      have hkS6 := (hkS4.ext he5).grown hg6 (fun h => own_blk_ne (ho4.ext he5) (hkS4.ext he5) (by decide) h.symm)
      refine L.va rfl (X.assign (by conv => lhs; whnf)) ?_
      refine L.nil ?_
      refine J.region ?_
      refine L.va rfl (X.add rfl rfl (by omega)) ?_
      refine L.va rfl (X.move (by conv => lhs; whnf)) ?_
      refine L.nil ?_
      refine ⟨(i + 1, A6, c6), At2 (by first | rfl | exact at_int rfl (by omega) | exact at_slice rfl (by omega) | exact at_int rfl (by simp)) (by first | rfl | exact at_int rfl (by omega) | exact at_slice rfl (by omega) | exact at_int rfl (by simp)), (by (iterate 12 refine Agr.lk rfl ?_); exact Agr.lk rfl (Agr.hav rfl Agr.rfl')), ?_⟩
      exact ⟨⟨by dsimp only; omega, ho6, hkS6, he6⟩, by dsimp only; omega⟩
    · obtain rfl : i = nd := by dsimp only at hlt; omega
      rw [List.take_of_length_le (by omega)] at ho2
      refine J.exit ?_
      refine J.seq ?_
      refine J.region ?_
      refine L.va rfl (X.move (by conv => lhs; whnf)) ?_
      refine L.va rfl (X.fieldAddr rfl Try.underlying47 rfl sz_44 (by decide)) ?_
      refine L.va rfl (X.load rfl sc_44 (by first | exact Ld.blk hk12 rfl)) ?_
      refine L.appendV (q := i + n1) (ys := strs (ds.map (·.1)) ++ strs s1) rfl rfl rfl Try.underlying44 el_9 (ho2) ((h1.ext he2).here (by decide)) (by first | rfl | exact strs_ones _ | assumption) (by omega) (by simp) (by unfold maxLen; omega) (by omega) ?_
      intro A3 c3 w3 ho3 hg3 hb3 hor3
      rw [strs_append] at ho3
      have he3 : Ext w w3 := he2.low hb3 (Nat.le_refl _)
      have hk13 := hk12.grown hg3 (fun h => own_blk_ne ho2 hk12 (by decide) h.symm)
      have hz3 := he3.le
      refine L.va rfl (X.assign (by conv => lhs; whnf)) ?_
      refine L.nil ?_
      refine J.seq ?_
      refine J.region ?_
      refine L.va rfl (X.move (by conv => lhs; whnf)) ?_
      refine L.va rfl (X.fieldAddr rfl Try.underlying47 rfl sz_44 (by decide)) ?_
      refine L.va rfl (X.load rfl sc_44 (by first | exact Ld.blk hk13 rfl)) ?_
      refine L.appendV (q := i + n1 + n2) (ys := strs (ds.map (·.1) ++ s1) ++ strs s2) rfl rfl rfl Try.underlying44 el_9 (ho3) ((h2.ext he3).here (by decide)) (by first | rfl | exact strs_ones _ | assumption) (by omega) (by simp) (by unfold maxLen; omega) (by omega) ?_
      intro A4 c4 w4 ho4 hg4 hb4 hor4
      rw [strs_append] at ho4
      refine L.va rfl (X.assign (by conv => lhs; whnf)) ?_
      refine L.nil ?_
      refine J.ret ?_
      refine fin1 ?_
      exact ⟨A4, c4, rfl, ho4, he3.low hb4 (Nat.le_refl _)⟩
end Go.Proofs.Ytpomklkfedpkfaa
namespace Go.Proofs.Ytpomklkfedpkfaa
set_option maxRecDepth 100000
open Go.RowKit H
set_option linter.unusedVariables false
theorem grb_new {a b c : World} {r r' : Option Nat} (h : a.grownBy b r) (k : b.grownBy c r') (hr : r' = r ∨ ∃ g, r' = some g ∧ a.heap.size ≤ g) : a.grownBy c r :=
  ⟨k.os.trans h.os, k.tape.trans h.tape, k.output.trans h.output, Nat.le_trans h.size k.size, fun i hi hne => (k.block i (Nat.lt_of_lt_of_le hi h.size) (by
    rcases hr with rfl | ⟨g, rfl, hg⟩
    · exact hne
    · intro he; injection he with he; omega)).trans (h.block i hi hne)⟩
theorem rnames_any (Ad : Option Addr) (nd cd : Nat) (A1 : Option Addr) (n1 c1 : Nat) (A2 : Option Addr) (n2 c2 : Nat) (Av : Option Addr) (nv cv : Nat) (ds : List (ByteArray × Int)) (s1 s2 : List ByteArray) (w : World)
    (hd : Reads w w.heap.size 2 Ad nd (dimsV ds)) (h1 : Reads w w.heap.size 1 A1 n1 (strs s1)) (h2 : Reads w w.heap.size 1 A2 n2 (strs s2)) (hnd : nd ≤ 1000) (hn1 : n1 ≤ 1000) (hn2 : n2 ≤ 1000) :
    Calls Try.prog 32 #[.agg #[.slice Ad nd cd, .slice A1 n1 c1, .slice A2 n2 c2, .slice Av nv cv]] w fun e w' => ∃ A c, e = .returned (.slice A (nd + n1 + n2) c) ∧ w'.ownsRow w.heap.size 9 1 (.slice A (nd + n1 + n2) c) (nd + n1 + n2) (strs (nmL ds s1 s2)) ∧ Ext w w' := by
  have hl : ds.length = nd := by have := hd.1; rw [dimsV_length] at this; omega
  refine enter Try.func32 rfl (by kernel_rfl) ?_
  refine J.seq ?_
  refine J.region ?_
  refine L.boxA (l := [_, _, _, _]) rfl rfl ?_
  intro b1 w1 hb1 hs1 hk1 he1
  refine L.va rfl (X.assign (by conv => lhs; whnf)) ?_
  refine L.nil ?_
  refine J.seq ?_
  refine J.region ?_
  refine L.va rfl (X.assign (by conv => lhs; whnf)) ?_
  refine L.nil ?_
  refine J.seq ?_
  refine J.seq ?_
  refine J.region ?_
  refine L.va rfl (X.assign (by conv => lhs; whnf)) ?_
  refine L.nil ?_
  refine J.block ?_
  refine J.loop (X := Nat × Option Addr × Nat) [3, 4, 5, 6, 7, 8, 9, 10, 11, 12, 13, 14, 15, 16, 17, 18, 19, 20] (fun x => [(4, .int .i64 (x.1 : Int)), (3, .slice x.2.1 x.1 x.2.2)]) (fun x w' => x.1 ≤ nd ∧ w'.ownsRow w.heap.size 9 1 (.slice x.2.1 x.1 x.2.2) x.1 (strs ((ds.take x.1).map (·.1))) ∧ Blk w' b1 47 #[.slice Ad nd cd, .slice A1 n1 c1, .slice A2 n2 c2, .slice Av nv cv] ∧ Ext w w') (fun x => nd - x.1) ((0, none, 0)) (At2 (by first | rfl | exact at_int rfl (by omega) | exact at_slice rfl (by omega) | exact at_int rfl (by simp)) (by first | rfl | exact at_int rfl (by omega) | exact at_slice rfl (by omega) | exact at_int rfl (by simp))) ?_ ?_
  · exact ⟨by dsimp only; omega, own_nil _ _ _ _, hk1, he1⟩
  · rintro ⟨i, A, c⟩ g w2 ⟨hi, ho2, hk12, he2⟩
    dsimp only at hi ho2
    have q1 : ((i, A, c) : Nat × Option Addr × Nat).1 = i := rfl
    have hz2 := he2.le
    have hd2 := hd.ext he2
    refine J.seq ?_
    refine J.seq ?_
    refine J.region ?_
    refine L.va rfl (X.move (by conv => lhs; whnf)) ?_
    refine L.va rfl (X.fieldAddr rfl Try.underlying47 rfl sz_43 (by decide)) ?_
    refine L.va rfl (X.load rfl sc_43 (by first | exact Ld.blk hk12 rfl | exact Ld.rd hd2 (by omega))) ?_
    refine L.va rfl (X.len rfl Try.underlying43) ?_
    refine L.va rfl (X.lss rfl rfl) ?_
    refine L.nil ?_
    refine J.dec rfl (fun hlt => ?_) (fun hlt => ?_)
    · have hil : i < ds.length := by rw [hl]; dsimp only at hlt; omega
      refine J.skip ?_
      refine J.seq ?_
      refine J.block ?_
      refine J.region ?_
      refine L.va rfl (X.move (by conv => lhs; whnf)) ?_
      refine L.va rfl (X.fieldAddr rfl Try.underlying47 rfl sz_43 (by decide)) ?_
      refine L.va rfl (X.load rfl sc_43 (by first | exact Ld.blk hk12 rfl | exact Ld.rd hd2 (by omega))) ?_
      refine L.va rfl (X.move (by conv => lhs; whnf)) ?_
      refine L.va rfl ((by first | exact X.indexAddrn rfl rfl Try.underlying43 sz_78 (by first | exact Option.some_ne_none _ | exact hd2.some_ (by omega)) (by omega) | exact X.indexAddr rfl rfl Try.underlying43 sz_78 (by first | exact Option.some_ne_none _ | exact hd2.some_ (by omega)) (by omega))) ?_
      refine L.va rfl (X.fieldP rfl Try.underlying78 rfl sz_9 (by decide) (by first | exact Option.some_ne_none _ | exact hd2.some_ (by omega))) ?_
      refine L.va rfl (X.load rfl sc_9 (Ld.dimS hd2 (by omega))) ?_
      refine L.bslice (vs := [_]) rfl (Evs.cons (by conv => lhs; whnf) Evs.nil) rfl rfl rfl rfl Try.underlying44 sz_9 zr_9 (by decide) ?_
      intro b5 w5 hb5 hs5 hk5 he5
      have hz5 := he5.le
      have hkS := hk12
      refine L.appendV (q := i + 1) (ys := strs ((ds.take i).map (·.1)) ++ strs [(ds.getD i d0).1]) rfl rfl rfl Try.underlying44 el_9 (ho2.ext he5) ((blk_reads (q := 1) (l := strs [(ds.getD i d0).1]) hk5 (by omega : b5 < w5.heap.size) rfl)) (by first | rfl | exact strs_ones _ | assumption) (by omega) (by simp) (by unfold maxLen; omega) (by omega) ?_
      intro A6 c6 w6 ho6 hg6 hb6 hor6
      rw [strs_append, ← names_take hil] at ho6
      have he6 : Ext w w6 := (he2.trans he5).low hb6 (Nat.le_refl _)
      have hkS6 := (hkS.ext he5).grown hg6 (fun h => own_blk_ne (ho2.ext he5) (hkS.ext he5) (by decide) h.symm)
      refine L.va rfl (X.assign (by conv => lhs; whnf)) ?_
      refine L.nil ?_
      refine J.region ?_
      refine L.va rfl (X.move (by conv => lhs; whnf)) ?_
      refine L.va rfl (X.add rfl rfl (by omega)) ?_
      refine L.va rfl (X.assign (by conv => lhs; whnf)) ?_
      refine L.nil ?_
      refine ⟨(i + 1, A6, c6), At2 (by first | rfl | exact at_int rfl (by omega) | exact at_slice rfl (by omega) | exact at_int rfl (by simp)) (by first | rfl | exact at_int rfl (by omega) | exact at_slice rfl (by omega) | exact at_int rfl (by simp)), (by (iterate 18 refine Agr.lk rfl ?_); exact Agr.lk rfl (Agr.hav rfl Agr.rfl')), ?_⟩
      exact ⟨⟨by dsimp only; omega, ho6, hkS6, he6⟩, by dsimp only; omega⟩
    · obtain rfl : i = nd := by dsimp only at hlt; omega
      rw [List.take_of_length_le (by omega)] at ho2
      have r1 := (h1.ext he2).here (by decide : 0 < 1)
      have r2 := (h2.ext he2).here (by decide : 0 < 1)
      refine J.exit ?_
      refine J.seq ?_
      have hne := own_blk_ne ho2 hk12 (by decide)
      refine J.draw (ℓ := 1000000) (S := (fun w' => w2.grownBy w' (Value.slice A i c).ownBlock)) mixed (fun w3 hSE hS_h => ?_)
      have hS : ((fun w' => w2.grownBy w' (Value.slice A i c).ownBlock)) w3 := grown_ext hSE
      refine D.va 0 rfl (by kernel_rfl) (fun _ _ _ h => h) rfl (fun w' hw => X.move (by conv => lhs; whnf)) hS ?_
      refine D.va 1 rfl (by kernel_rfl) (fun _ _ _ h => h) rfl (fun w' hw => X.fieldAddr rfl Try.underlying47 rfl sz_44 (by decide)) hS ?_
      refine D.va 2 rfl (by kernel_rfl) (fun _ _ _ h => h) rfl (fun w' hw => X.load rfl sc_44 (by first | exact Ld.blk (hk12.grown hw (fun h => hne h.symm)) rfl)) hS ?_
      refine D.va 4 rfl (by kernel_rfl) (fun _ _ _ h => h) rfl (fun w' hw => X.fieldAddr rfl Try.underlying47 rfl sz_44 (by decide)) hS ?_
      refine D.va 5 rfl (by kernel_rfl) (fun _ _ _ h => h) rfl (fun w' hw => X.load rfl sc_44 (by first | exact Ld.blk (hk12.grown hw (fun h => hne h.symm)) rfl)) hS ?_
      have hz3 := hSE.le
      refine D.one 3 (by kernel_rfl) rfl ?_
      refine L.appendV (q := i + n1) (ys := strs (ds.map (·.1)) ++ strs s1) rfl rfl rfl Try.underlying44 el_9 (ho2.ext hSE) ((r1.ext hSE).here (by decide)) (by first | rfl | exact strs_ones _ | assumption) (by omega) (by simp) (by unfold maxLen; omega) (by omega) ?_
      intro A3 c3 w4 ho3 hg3 hb3 hor3
      have hS1 := grb_trans hS hg3
      refine L.nil ?_
      refine ⟨fun _ => hS1, ?_⟩
      rw [strs_append] at ho3
      have he4 : Ext w w4 := (he2.trans hSE).low hb3 (Nat.le_refl _)
      have hz4 := he4.le
      refine D.one 6 (by kernel_rfl) rfl ?_
      refine L.appendV (q := i + n1 + n2) (ys := strs (ds.map (·.1) ++ s1) ++ strs s2) rfl rfl rfl Try.underlying44 el_9 (ho3) ((h2.ext he4).here (by decide)) (by first | rfl | exact strs_ones _ | assumption) (by omega) (by simp) (by unfold maxLen; omega) (by omega) ?_
      intro A4 c4 w5 ho4 hg4 hb4 hor4
      have hS2 := grb_new hS1 hg4 (by rcases hor3 with h | h; exact .inl h; exact .inr ⟨_, h, hz3⟩)
      refine L.nil ?_
      refine ⟨fun _ => hS2, ?_⟩
      rw [strs_append] at ho4
      refine D.va 7 rfl (by kernel_rfl) (fun _ _ _ h => h) rfl (fun w' hw => X.assign (by conv => lhs; whnf)) hS2 ?_
      refine D.done (by kernel_rfl) ?_
      replace hk12 := hk12.grown hS2 (fun h => hne h.symm)
      refine J.ret ?_
      refine fin1 ?_
      exact ⟨A4, c4, rfl, ho4, he4.low hb4 (Nat.le_refl _)⟩
end Go.Proofs.Ytpomklkfedpkfaa
namespace Go.Proofs.Ytpomklkfedpkfaa
set_option maxRecDepth 100000
open Go.RowKit H
set_option linter.unusedVariables false
def kyP (ds : List (ByteArray × Int)) (m : Nat) : Nat → Int
  | 0 => 1
  | i + 1 => if m.testBit i then kyP ds m i * (ds.getD i d0).2 else kyP ds m i
end Go.Proofs.Ytpomklkfedpkfaa
namespace Go.Proofs.Ytpomklkfedpkfaa
set_option maxRecDepth 100000
open Go.RowKit H
set_option linter.unusedVariables false
theorem light11 (Ad : Option Addr) (nd cd : Nat) (A1 : Option Addr) (n1 c1 : Nat) (A2 : Option Addr) (n2 c2 : Nat) (Av : Option Addr) (nv cv : Nat) (ds : List (ByteArray × Int)) (s1 s2 : List ByteArray) (w : World)
    (hd : Reads w w.heap.size 2 Ad nd (dimsV ds)) (h1 : Reads w w.heap.size 1 A1 n1 (strs s1)) (h2 : Reads w w.heap.size 1 A2 n2 (strs s2)) :
    Calls Try.prog 14 #[.agg #[.slice Ad nd cd, .slice A1 n1 c1, .slice A2 n2 c2, .slice Av nv cv]] w fun e w' => ∃ b, e = .returned (.bool b) ∧ (b = true → nd ≤ 100 ∧ n1 ≤ 100 ∧ n2 ≤ 100 ∧ nv ≤ 100) ∧ Ext w w' := by
  refine enter Try.func14 rfl (by kernel_rfl) ?_
  refine J.seq ?_
  refine J.region ?_
  refine L.boxA (l := [_, _, _, _]) rfl rfl ?_
  intro b1 w1 hb1 hs1 hk1 he1
  refine L.va rfl (X.assign (by conv => lhs; whnf)) ?_
  refine L.nil ?_
  refine J.seq ?_
  refine J.seq ?_
  refine J.region ?_
  refine L.va rfl (X.fieldAddr rfl Try.underlying47 rfl sz_43 (by decide)) ?_
  refine L.va rfl (X.load rfl sc_43 (by first | exact Ld.blk hk1 rfl)) ?_
  refine L.va rfl (X.len rfl Try.underlying43) ?_
  refine L.va rfl (X.gtr rfl rfl) ?_
  refine L.va rfl (X.move (by conv => lhs; whnf)) ?_
  refine L.caseDec (k := 9) rfl (fun a1 => ?_) (fun a1 => ?_)
  · refine L.no rfl ?_
    refine L.no rfl ?_
    refine L.no rfl ?_
    refine L.no rfl ?_
    refine L.va rfl (X.pickT rfl (by conv => lhs; whnf)) ?_
    refine L.va rfl (X.move (by conv => lhs; whnf)) ?_
    refine L.no rfl ?_
    refine L.no rfl ?_
    refine L.no rfl ?_
    refine L.no rfl ?_
    refine L.va rfl (X.pickT rfl (by conv => lhs; whnf)) ?_
    refine L.va rfl (X.move (by conv => lhs; whnf)) ?_
    refine L.no rfl ?_
    refine L.no rfl ?_
    refine L.no rfl ?_
    refine L.no rfl ?_
    refine L.va rfl (X.pickT rfl (by conv => lhs; whnf)) ?_
    refine L.nil ?_
    refine J.iteT rfl ?_
    refine J.seq ?_
    refine J.region ?_
    refine L.va rfl (X.assign (by conv => lhs; whnf)) ?_
    refine L.nil ?_
    refine J.ret ?_
    refine thn_ret <| ?_
    refine fin1 ?_
    exact ⟨false, rfl, by simp, he1⟩
  · refine L.va rfl (X.fieldAddr rfl Try.underlying47 rfl sz_44 (by decide)) ?_
    refine L.va rfl (X.load rfl sc_44 (by first | exact Ld.blk hk1 rfl)) ?_
    refine L.va rfl (X.len rfl Try.underlying44) ?_
    refine L.va rfl (X.gtr rfl rfl) ?_
    refine L.va rfl (X.pickF rfl (by conv => lhs; whnf)) ?_
    refine L.va rfl (X.move (by conv => lhs; whnf)) ?_
    refine L.caseDec (k := 15) rfl (fun a2 => ?_) (fun a2 => ?_)
    · refine L.no rfl ?_
      refine L.no rfl ?_
      refine L.no rfl ?_
      refine L.no rfl ?_
      refine L.va rfl (X.pickT rfl (by conv => lhs; whnf)) ?_
      refine L.va rfl (X.move (by conv => lhs; whnf)) ?_
      refine L.no rfl ?_
      refine L.no rfl ?_
      refine L.no rfl ?_
      refine L.no rfl ?_
      refine L.va rfl (X.pickT rfl (by conv => lhs; whnf)) ?_
      refine L.nil ?_
      refine J.iteT rfl ?_
      refine J.seq ?_
      refine J.region ?_
      refine L.va rfl (X.assign (by conv => lhs; whnf)) ?_
      refine L.nil ?_
      refine J.ret ?_
      refine thn_ret <| ?_
      refine fin1 ?_
      exact ⟨false, rfl, by simp, he1⟩
    · refine L.va rfl (X.fieldAddr rfl Try.underlying47 rfl sz_44 (by decide)) ?_
      refine L.va rfl (X.load rfl sc_44 (by first | exact Ld.blk hk1 rfl)) ?_
      refine L.va rfl (X.len rfl Try.underlying44) ?_
      refine L.va rfl (X.gtr rfl rfl) ?_
      refine L.va rfl (X.pickF rfl (by conv => lhs; whnf)) ?_
      refine L.va rfl (X.move (by conv => lhs; whnf)) ?_
      refine L.caseDec (k := 21) rfl (fun a3 => ?_) (fun a3 => ?_)
      · refine L.no rfl ?_
        refine L.no rfl ?_
        refine L.no rfl ?_
        refine L.no rfl ?_
        refine L.va rfl (X.pickT rfl (by conv => lhs; whnf)) ?_
        refine L.nil ?_
        refine J.iteT rfl ?_
        refine J.seq ?_
        refine J.region ?_
        refine L.va rfl (X.assign (by conv => lhs; whnf)) ?_
        refine L.nil ?_
        refine J.ret ?_
        refine thn_ret <| ?_
        refine fin1 ?_
        exact ⟨false, rfl, by simp, he1⟩
      · refine L.va rfl (X.fieldAddr rfl Try.underlying47 rfl sz_45 (by decide)) ?_
        refine L.va rfl (X.load rfl sc_45 (by first | exact Ld.blk hk1 rfl)) ?_
        refine L.va rfl (X.len rfl Try.underlying45) ?_
        refine L.va rfl (X.gtr rfl rfl) ?_
        refine L.va rfl (X.pickF rfl (by conv => lhs; whnf)) ?_
        refine L.nil ?_
        refine J.dec rfl (fun a4 => ?_) (fun a4 => ?_)
        · refine J.seq ?_
          refine J.region ?_
          refine L.va rfl (X.assign (by conv => lhs; whnf)) ?_
          refine L.nil ?_
          refine J.ret ?_
          refine thn_ret <| ?_
          refine fin1 ?_
          exact ⟨false, rfl, by simp, he1⟩
        · refine J.skip ?_
          refine J.seq ?_
          refine J.region ?_
          refine L.va rfl ((by first | exact X.loadAgg rfl (range_l hk1) Try.underlying47 rfl (by kernel_rfl) | exact X.loadAgg rfl (range_blk hk1) Try.underlying47 rfl (by kernel_rfl))) ?_
          refine L.call rfl en_32 rfl (rnames_any Ad nd cd A1 n1 c1 A2 n2 c2 Av nv cv ds s1 s2 _ ((hd.ext he1).here (by decide)) ((h1.ext he1).here (by decide)) ((h2.ext he1).here (by decide)) (by omega) (by omega) (by omega)) ?_
          rintro e w2 ⟨A, c, rfl, ho, he2⟩
          refine ⟨_, rfl, ?_⟩
          have he2 : Ext w1 w2 := he2
          refine L.va rfl (X.assign (by conv => lhs; whnf)) ?_
          refine L.nil ?_
          refine J.seq ?_
          refine J.seq ?_
          refine J.region ?_
          refine L.va rfl (X.assign (by conv => lhs; whnf)) ?_
          refine L.nil ?_
          refine J.block ?_
          refine J.loop (X := Nat) [2, 4, 29, 30, 31, 32, 33, 34, 35, 36, 37, 38, 39, 40] (fun i => [(4, .int .i64 (i : Int))]) (fun i w' => w' = w2 ∧ i ≤ nd + n1 + n2) (fun i => nd + n1 + n2 - i) (0) (At1 (by first | rfl | exact at_int rfl (by omega) | exact at_slice rfl (by omega) | exact at_int rfl (by simp))) ?_ ?_
          · exact ⟨rfl, by omega⟩
          · rintro i g w3 ⟨rfl, hi⟩
            refine J.seq ?_
            refine J.seq ?_
            refine J.region ?_
            refine L.va rfl (X.move (by conv => lhs; whnf)) ?_
            refine L.va rfl (X.move (by conv => lhs; whnf)) ?_
            refine L.va rfl (X.len rfl Try.underlying44) ?_
            refine L.va rfl (X.lss rfl rfl) ?_
            refine L.nil ?_
            refine J.dec rfl (fun hlt => ?_) (fun hlt => ?_)
            · refine J.skip ?_
              refine J.seq ?_
              refine J.block ?_
              refine J.seq ?_
              refine J.region ?_
              refine L.va rfl (X.move (by conv => lhs; whnf)) ?_
              refine L.va rfl (X.move (by conv => lhs; whnf)) ?_
              refine L.va rfl ((by first | exact X.index1n rfl rfl Try.underlying44 sz_9 (by first | exact Option.some_ne_none _ | exact own_ne ho (by omega)) (by omega) | exact X.index1 rfl rfl Try.underlying44 sz_9 (by first | exact Option.some_ne_none _ | exact own_ne ho (by omega)) (by omega))) ?_
              refine L.va rfl (X.load rfl sc_9 (by first | exact Ld.ostr ho (by omega))) ?_
              refine L.va rfl (X.lens rfl Try.underlying9) ?_
              refine L.va rfl (X.gtr rfl rfl) ?_
              refine L.nil ?_
              refine J.dec rfl (fun a5 => ?_) (fun a5 => ?_)
              · refine J.seq ?_
                refine J.region ?_
                refine L.va rfl (X.assign (by conv => lhs; whnf)) ?_
                refine L.nil ?_
                refine J.ret ?_
                refine inB_ret <|  thn_ret <|  thn_ret <|  inB_ret <|  thn_ret <| ?_
                refine fin1 ?_
                exact ⟨false, rfl, by simp, he1.trans he2⟩
              · refine J.skip ?_
                refine J.region ?_
                refine L.va rfl (X.move (by conv => lhs; whnf)) ?_
                refine L.va rfl (X.add rfl rfl (by omega)) ?_
                refine L.va rfl (X.assign (by conv => lhs; whnf)) ?_
                refine L.nil ?_
                refine ⟨i + 1, At1 (by first | rfl | exact at_int rfl (by omega) | exact at_slice rfl (by omega) | exact at_int rfl (by simp)), (by (iterate 13 refine Agr.lk rfl ?_); exact Agr.lk rfl (Agr.hav rfl Agr.rfl')), ?_⟩
                exact ⟨⟨rfl, by omega⟩, by omega⟩
            · refine J.exit ?_
              refine J.seq ?_
              refine J.region ?_
              refine L.va rfl (X.assign (by conv => lhs; whnf)) ?_
              refine L.nil ?_
              refine J.ret ?_
              refine fin1 ?_
              exact ⟨true, rfl, fun _ => ⟨by omega, by omega, by omega, by omega⟩, he1.trans he2⟩
end Go.Proofs.Ytpomklkfedpkfaa
namespace Go.Proofs.Ytpomklkfedpkfaa
set_option maxRecDepth 100000
set_option linter.unusedVariables false
def kyA (ds : List (ByteArray × Int)) : Nat → Int
  | 0 => 1
  | i + 1 => kyA ds i * (ds.getD i d0).2
def szB (ds : List (ByteArray × Int)) : Nat → Bool
  | 0 => true
  | i + 1 => szB ds i && decide (1 ≤ (ds.getD i d0).2 ∧ (ds.getD i d0).2 ≤ 4096 ∧ kyA ds (i + 1) ≤ 1099511627776)
def viB (F : Int) (zs : List Int) : Nat → Bool
  | 0 => true
  | i + 1 => viB F zs i && decide (zs.getD i 0 < F ∧ (i = 0 ∨ zs.getD (i - 1) 0 < zs.getD i 0))
def nmB (l : List ByteArray) : Nat → Bool
  | 0 => true
  | i + 1 => nmB l i && isS (l.getD i be0)
theorem mono_b {f : Nat → Bool} (hs : ∀ i, f (i + 1) = true → f i = true) {i n : Nat} (h : i ≤ n) (hn : f n = true) : f i = true := by
  induction n with
  | zero => obtain rfl : i = 0 := by omega
            exact hn
  | succ n ih =>
    rcases Nat.lt_or_ge n i with h' | h'
    · obtain rfl : i = n + 1 := by omega
      exact hn
    · exact ih h' (hs n hn)
theorem mono_f {f : Nat → Bool} (hs : ∀ i, f (i + 1) = true → f i = true) {i n : Nat} (h : i ≤ n) (hn : f i = false) : f n = false := by
  cases hc : f n with
  | false => rfl
  | true => rw [mono_b hs h hc] at hn; cases hn
theorem szB_s (ds : List (ByteArray × Int)) (i : Nat) (h : szB ds (i + 1) = true) : szB ds i = true := by simp only [szB, Bool.and_eq_true] at h; exact h.1
theorem viB_s (F : Int) (zs : List Int) (i : Nat) (h : viB F zs (i + 1) = true) : viB F zs i = true := by simp only [viB, Bool.and_eq_true] at h; exact h.1
theorem nmB_s (l : List ByteArray) (i : Nat) (h : nmB l (i + 1) = true) : nmB l i = true := by simp only [nmB, Bool.and_eq_true] at h; exact h.1
theorem szB_at {ds : List (ByteArray × Int)} {i : Nat} (h : szB ds (i + 1) = true) : 1 ≤ (ds.getD i d0).2 ∧ (ds.getD i d0).2 ≤ 4096 ∧ kyA ds (i + 1) ≤ 1099511627776 := by
  simp only [szB, Bool.and_eq_true] at h; exact of_decide_eq_true h.2
theorem szB_mk {ds : List (ByteArray × Int)} {i : Nat} (h : szB ds i = true) (k : 1 ≤ (ds.getD i d0).2 ∧ (ds.getD i d0).2 ≤ 4096 ∧ kyA ds (i + 1) ≤ 1099511627776) : szB ds (i + 1) = true := by
  simp only [szB, Bool.and_eq_true]; exact ⟨h, decide_eq_true k⟩
theorem szB_no {ds : List (ByteArray × Int)} {i : Nat} (k : ¬ (1 ≤ (ds.getD i d0).2 ∧ (ds.getD i d0).2 ≤ 4096 ∧ kyA ds (i + 1) ≤ 1099511627776)) : szB ds (i + 1) = false := by
  cases hc : szB ds (i + 1) with
  | false => rfl
  | true => exact absurd (szB_at hc) k
theorem viB_at {F : Int} {zs : List Int} {i : Nat} (h : viB F zs (i + 1) = true) : zs.getD i 0 < F ∧ (i = 0 ∨ zs.getD (i - 1) 0 < zs.getD i 0) := by
  simp only [viB, Bool.and_eq_true] at h; exact of_decide_eq_true h.2
theorem viB_mk {F : Int} {zs : List Int} {i : Nat} (h : viB F zs i = true) (k : zs.getD i 0 < F ∧ (i = 0 ∨ zs.getD (i - 1) 0 < zs.getD i 0)) : viB F zs (i + 1) = true := by
  simp only [viB, Bool.and_eq_true]; exact ⟨h, decide_eq_true k⟩
theorem viB_no {F : Int} {zs : List Int} {i : Nat} (k : ¬ (zs.getD i 0 < F ∧ (i = 0 ∨ zs.getD (i - 1) 0 < zs.getD i 0))) : viB F zs (i + 1) = false := by
  cases hc : viB F zs (i + 1) with
  | false => rfl
  | true => exact absurd (viB_at hc) k
theorem nmB_at {l : List ByteArray} {i : Nat} (h : nmB l (i + 1) = true) : isS (l.getD i be0) = true := by
  simp only [nmB, Bool.and_eq_true] at h; exact h.2
theorem nmB_mk {l : List ByteArray} {i : Nat} (h : nmB l i = true) (k : isS (l.getD i be0) = true) : nmB l (i + 1) = true := by
  simp only [nmB, Bool.and_eq_true]; exact ⟨h, k⟩
theorem nmB_no {l : List ByteArray} {i : Nat} (k : isS (l.getD i be0) = false) : nmB l (i + 1) = false := by
  simp only [nmB, k, Bool.and_false]
theorem kyA_bd {ds : List (ByteArray × Int)} {n : Nat} (h : szB ds n = true) : 1 ≤ kyA ds n ∧ kyA ds n ≤ 1099511627776 := by
  induction n with
  | zero => exact ⟨Int.le_refl _, show (1 : Int) ≤ 1099511627776 by decide⟩
  | succ n ih =>
    have h1 := ih (szB_s _ _ h)
    have h2 := szB_at h
    refine ⟨?_, h2.2.2⟩
    have : kyA ds (n + 1) = kyA ds n * (ds.getD n d0).2 := rfl
    rw [this]
    have := Int.mul_le_mul h1.1 h2.1 (by decide) (by omega)
    simpa using this
theorem kyP_bd {ds : List (ByteArray × Int)} (m : Nat) {n : Nat} (h : szB ds n = true) : ∀ i, i ≤ n → 0 ≤ kyP ds m i ∧ kyP ds m i ≤ 1099511627776 := by
  have key : ∀ i, i ≤ n → 1 ≤ kyP ds m i ∧ kyP ds m i ≤ kyA ds i := by
    intro i
    induction i with
    | zero => intro _; exact ⟨Int.le_refl _, Int.le_refl _⟩
    | succ i ih =>
      intro hi
      obtain ⟨g1, g2⟩ := ih (by omega)
      have hs := szB_at (mono_b (szB_s ds) hi h)
      have hA : kyA ds (i + 1) = kyA ds i * (ds.getD i d0).2 := rfl
      have hm : kyA ds i * (ds.getD i d0).2 ≥ kyP ds m i * (ds.getD i d0).2 := Int.mul_le_mul_of_nonneg_right g2 (by omega)
      have hm1 : kyP ds m i ≤ kyP ds m i * (ds.getD i d0).2 := by
        have := Int.mul_le_mul_of_nonneg_left hs.1 (show 0 ≤ kyP ds m i by omega)
        simpa using this
      have hP : kyP ds m (i + 1) = if m.testBit i then kyP ds m i * (ds.getD i d0).2 else kyP ds m i := rfl
      rw [hP, hA]
      split
      · exact ⟨by omega, hm⟩
      · exact ⟨g1, by omega⟩
  intro i hi
  have h1 := key i hi
  have h2 := kyA_bd (mono_b (szB_s ds) hi h)
  omega
theorem ky_next {ds : List (ByteArray × Int)} {i : Nat} (hz : szB ds i = true) (h1 : 1 ≤ (ds.getD i d0).2) (h2 : (ds.getD i d0).2 ≤ 4096) : 1 ≤ kyA ds (i + 1) ∧ kyA ds (i + 1) ≤ 1099511627776 * 4096 := by
  have hb := kyA_bd hz
  have hA : kyA ds (i + 1) = kyA ds i * (ds.getD i d0).2 := rfl
  rw [hA]
  constructor
  · have := Int.mul_le_mul hb.1 h1 (by decide) (by omega)
    simpa using this
  · exact Int.mul_le_mul hb.2 h2 (by omega) (by decide)
def chk (nd n1 n2 nv : Nat) (ds : List (ByteArray × Int)) (s1 s2 : List ByteArray) (zs : List Int) : Int :=
  if ¬ (1 ≤ nd ∧ nd ≤ 6 ∧ n1 ≤ 3 ∧ n2 ≤ 2 ∧ nv ≤ 15) then 3
  else if nmB (nmL ds s1 s2) (nd + n1 + n2) = false then 8
  else if 0 ≤ tw (nmL ds s1 s2) then 9
  else if szB ds nd = false then 2
  else if viB ((2 ^ nd - 1 : Nat) : Int) zs nv = false then 6
  else 0
section
variable {nd n1 n2 nv : Nat} {ds : List (ByteArray × Int)} {s1 s2 : List ByteArray} {zs : List Int}
theorem chk_3 (h : ¬ (1 ≤ nd ∧ nd ≤ 6 ∧ n1 ≤ 3 ∧ n2 ≤ 2 ∧ nv ≤ 15)) : chk nd n1 n2 nv ds s1 s2 zs = 3 := by unfold chk; rw [if_pos h]
theorem chk_8 (h : 1 ≤ nd ∧ nd ≤ 6 ∧ n1 ≤ 3 ∧ n2 ≤ 2 ∧ nv ≤ 15) (h8 : nmB (nmL ds s1 s2) (nd + n1 + n2) = false) : chk nd n1 n2 nv ds s1 s2 zs = 8 := by unfold chk; rw [if_neg (fun k => k h), if_pos h8]
theorem chk_9 (h : 1 ≤ nd ∧ nd ≤ 6 ∧ n1 ≤ 3 ∧ n2 ≤ 2 ∧ nv ≤ 15) (h8 : nmB (nmL ds s1 s2) (nd + n1 + n2) = true) (h9 : 0 ≤ tw (nmL ds s1 s2)) : chk nd n1 n2 nv ds s1 s2 zs = 9 := by unfold chk; rw [if_neg (fun k => k h), if_neg (by rw [h8]; decide), if_pos h9]
theorem chk_2 (h : 1 ≤ nd ∧ nd ≤ 6 ∧ n1 ≤ 3 ∧ n2 ≤ 2 ∧ nv ≤ 15) (h8 : nmB (nmL ds s1 s2) (nd + n1 + n2) = true) (h9 : ¬ 0 ≤ tw (nmL ds s1 s2)) (h2 : szB ds nd = false) : chk nd n1 n2 nv ds s1 s2 zs = 2 := by unfold chk; rw [if_neg (fun k => k h), if_neg (by rw [h8]; decide), if_neg h9, if_pos h2]
theorem chk_6 (h : 1 ≤ nd ∧ nd ≤ 6 ∧ n1 ≤ 3 ∧ n2 ≤ 2 ∧ nv ≤ 15) (h8 : nmB (nmL ds s1 s2) (nd + n1 + n2) = true) (h9 : ¬ 0 ≤ tw (nmL ds s1 s2)) (h2 : szB ds nd = true) (h6 : viB ((2 ^ nd - 1 : Nat) : Int) zs nv = false) : chk nd n1 n2 nv ds s1 s2 zs = 6 := by unfold chk; rw [if_neg (fun k => k h), if_neg (by rw [h8]; decide), if_neg h9, if_neg (by rw [h2]; decide), if_pos h6]
theorem chk_0 (h : 1 ≤ nd ∧ nd ≤ 6 ∧ n1 ≤ 3 ∧ n2 ≤ 2 ∧ nv ≤ 15) (h8 : nmB (nmL ds s1 s2) (nd + n1 + n2) = true) (h9 : ¬ 0 ≤ tw (nmL ds s1 s2)) (h2 : szB ds nd = true) (h6 : viB ((2 ^ nd - 1 : Nat) : Int) zs nv = true) : chk nd n1 n2 nv ds s1 s2 zs = 0 := by unfold chk; rw [if_neg (fun k => k h), if_neg (by rw [h8]; decide), if_neg h9, if_neg (by rw [h2]; decide), if_neg (by rw [h6]; decide)]
theorem chk_ok (h : chk nd n1 n2 nv ds s1 s2 zs = 0) : (1 ≤ nd ∧ nd ≤ 6 ∧ n1 ≤ 3 ∧ n2 ≤ 2 ∧ nv ≤ 15) ∧ szB ds nd = true ∧ viB ((2 ^ nd - 1 : Nat) : Int) zs nv = true := by
  unfold chk at h
  split at h
  · cases h
  · rename_i h1
    split at h
    · cases h
    · split at h
      · cases h
      · split at h
        · cases h
        · rename_i h2
          split at h
          · cases h
          · rename_i h6
            exact ⟨Decidable.not_not.1 h1, by simpa using h2, by simpa using h6⟩
end
end Go.Proofs.Ytpomklkfedpkfaa
namespace Go.Proofs.Ytpomklkfedpkfaa
set_option maxRecDepth 100000
open Go.RowKit H
set_option linter.unusedVariables false
theorem pw6 {nd : Nat} (h : nd ≤ 6) : 1 ≤ 2 ^ nd ∧ 2 ^ nd ≤ 64 := ⟨Nat.pow_pos (by decide), Nat.le_trans (Nat.pow_le_pow_right (by decide) h) (by decide)⟩
theorem sb_full {a nd : Nat} (ha : a < 4294967296) (hn : nd ≤ 6) : Mk.sb a (2 ^ nd - 1) = decide (a ≤ 2 ^ nd - 1) := by
  have hp := (pw6 hn).1
  unfold Mk.sb
  rw [Nat.and_two_pow_sub_one_eq_mod, Bool.eq_iff_iff, beq_iff_eq, decide_eq_true_iff]
  constructor
  · intro h
    have := Nat.mod_lt a hp
    omega
  · intro h
    exact Nat.mod_eq_of_lt (by omega)
end Go.Proofs.Ytpomklkfedpkfaa
namespace Go.Proofs.Ytpomklkfedpkfaa
set_option maxRecDepth 100000
open Go.RowKit H
set_option linter.unusedVariables false
theorem nmB_sz {l : List ByteArray} (h : nmB l l.length = true) : ∀ s ∈ l, s.size ≤ maxLen := by
  intro s hs
  obtain ⟨i, hi, rfl⟩ := List.mem_iff_getElem.1 hs
  have h1 := nmB_at (mono_b (nmB_s l) (by omega : i + 1 ≤ l.length) h)
  have e : l.getD i be0 = l[i] := by simp [List.getD, hi]
  rw [e] at h1
  have h2 := (of_decide_eq_true h1).2.1
  unfold maxLen
  omega
theorem shl_full {nd : Nat} (h : nd ≤ 6) : IntKind.u32.wrap (1 * 2 ^ min ((nd : Int)).toNat IntKind.u32.bits) = ((2 ^ nd : Nat) : Int) := by
  have hb : IntKind.u32.bits = 32 := rfl
  have hp := pw6 h
  rw [hb, show min ((nd : Int)).toNat 32 = nd by omega, Int.one_mul]
  have e : ((2 : Int) ^ nd) = ((2 ^ nd : Nat) : Int) := by simp
  rw [e, w32 (by omega)]
theorem quo_gt {k d : Int} (hd : 0 < d) : 1099511627776 / d < k ↔ 1099511627776 < k * d := Int.ediv_lt_iff_lt_mul hd
theorem check_any (Ad : Option Addr) (nd cd : Nat) (A1 : Option Addr) (n1 c1 : Nat) (A2 : Option Addr) (n2 c2 : Nat) (Av : Option Addr) (nv cv : Nat) (ds : List (ByteArray × Int)) (s1 s2 : List ByteArray) (zs : List Int) (w : World)
    (hd : Reads w w.heap.size 2 Ad nd (dimsV ds)) (h1 : Reads w w.heap.size 1 A1 n1 (strs s1)) (h2 : Reads w w.heap.size 1 A2 n2 (strs s2)) (hv : Reads w w.heap.size 1 Av nv (nums .u32 zs)) (hzs : ∀ i, 0 ≤ zs.getD i 0 ∧ zs.getD i 0 < 4294967296) (hnv : nv ≤ maxLen) :
    Calls Try.prog 56 #[.agg #[.slice Ad nd cd, .slice A1 n1 c1, .slice A2 n2 c2, .slice Av nv cv]] w fun e w' => e = .returned (.int .i64 (chk nd n1 n2 nv ds s1 s2 zs)) ∧ Ext w w' := by
  have hl : ds.length = nd := by have := hd.1; rw [dimsV_length] at this; omega
  unfold maxLen at hnv
  have t3 := @chk_3 nd n1 n2 nv ds s1 s2 zs
  refine enter Try.func56 rfl (by kernel_rfl) ?_
  refine J.seq ?_
  refine J.region ?_
  refine L.boxA (l := [_, _, _, _]) rfl rfl ?_
  intro b1 w1 hb1 hs1 hk1 he1
  refine L.va rfl (X.assign (by conv => lhs; whnf)) ?_
  refine L.nil ?_
  refine J.seq ?_
  refine J.seq ?_
  refine J.region ?_
  refine L.va rfl (X.fieldAddr rfl Try.underlying47 rfl sz_43 (by decide)) ?_
  refine L.va rfl (X.load rfl sc_43 (by first | exact Ld.blk hk1 rfl)) ?_
  refine L.va rfl (X.len rfl Try.underlying43) ?_
  refine L.va rfl (X.eql rfl rfl) ?_
  refine L.va rfl (X.move (by conv => lhs; whnf)) ?_
  refine L.caseDec (k := 16) rfl (fun a1 => ?_) (fun a1 => ?_)
  · rw [t3 (by omega)]
    refine L.no rfl ?_
    refine L.no rfl ?_
    refine L.no rfl ?_
    refine L.no rfl ?_
    refine L.va rfl (X.pickT rfl (by conv => lhs; whnf)) ?_
    refine L.va rfl (X.move (by conv => lhs; whnf)) ?_
    refine L.no rfl ?_
    refine L.no rfl ?_
    refine L.no rfl ?_
    refine L.no rfl ?_
    refine L.va rfl (X.pickT rfl (by conv => lhs; whnf)) ?_
    refine L.va rfl (X.move (by conv => lhs; whnf)) ?_
    refine L.no rfl ?_
    refine L.no rfl ?_
    refine L.no rfl ?_
    refine L.no rfl ?_
    refine L.va rfl (X.pickT rfl (by conv => lhs; whnf)) ?_
    refine L.va rfl (X.move (by conv => lhs; whnf)) ?_
    refine L.no rfl ?_
    refine L.no rfl ?_
    refine L.no rfl ?_
    refine L.no rfl ?_
    refine L.va rfl (X.pickT rfl (by conv => lhs; whnf)) ?_
    refine L.nil ?_
    refine J.iteT rfl ?_
    refine J.seq ?_
    refine J.region ?_
    refine L.va rfl (X.assign (by conv => lhs; whnf)) ?_
    refine L.nil ?_
    refine J.ret ?_
    refine thn_ret <| ?_
    refine fin1 ?_
    exact ⟨rfl, he1⟩
  · refine L.va rfl (X.fieldAddr rfl Try.underlying47 rfl sz_43 (by decide)) ?_
    refine L.va rfl (X.load rfl sc_43 (by first | exact Ld.blk hk1 rfl)) ?_
    refine L.va rfl (X.len rfl Try.underlying43) ?_
    refine L.va rfl (X.gtr rfl rfl) ?_
    refine L.va rfl (X.pickF rfl (by conv => lhs; whnf)) ?_
    refine L.va rfl (X.move (by conv => lhs; whnf)) ?_
    refine L.caseDec (k := 22) rfl (fun a2 => ?_) (fun a2 => ?_)
    · rw [t3 (by omega)]
      refine L.no rfl ?_
      refine L.no rfl ?_
      refine L.no rfl ?_
      refine L.no rfl ?_
      refine L.va rfl (X.pickT rfl (by conv => lhs; whnf)) ?_
      refine L.va rfl (X.move (by conv => lhs; whnf)) ?_
      refine L.no rfl ?_
      refine L.no rfl ?_
      refine L.no rfl ?_
      refine L.no rfl ?_
      refine L.va rfl (X.pickT rfl (by conv => lhs; whnf)) ?_
      refine L.va rfl (X.move (by conv => lhs; whnf)) ?_
      refine L.no rfl ?_
      refine L.no rfl ?_
      refine L.no rfl ?_
      refine L.no rfl ?_
      refine L.va rfl (X.pickT rfl (by conv => lhs; whnf)) ?_
      refine L.nil ?_
      refine J.iteT rfl ?_
      refine J.seq ?_
      refine J.region ?_
      refine L.va rfl (X.assign (by conv => lhs; whnf)) ?_
      refine L.nil ?_
      refine J.ret ?_
      refine thn_ret <| ?_
      refine fin1 ?_
      exact ⟨rfl, he1⟩
    · refine L.va rfl (X.fieldAddr rfl Try.underlying47 rfl sz_44 (by decide)) ?_
      refine L.va rfl (X.load rfl sc_44 (by first | exact Ld.blk hk1 rfl)) ?_
      refine L.va rfl (X.len rfl Try.underlying44) ?_
      refine L.va rfl (X.gtr rfl rfl) ?_
      refine L.va rfl (X.pickF rfl (by conv => lhs; whnf)) ?_
      refine L.va rfl (X.move (by conv => lhs; whnf)) ?_
      refine L.caseDec (k := 28) rfl (fun a3 => ?_) (fun a3 => ?_)
      · rw [t3 (by omega)]
        refine L.no rfl ?_
        refine L.no rfl ?_
        refine L.no rfl ?_
        refine L.no rfl ?_
        refine L.va rfl (X.pickT rfl (by conv => lhs; whnf)) ?_
        refine L.va rfl (X.move (by conv => lhs; whnf)) ?_
        refine L.no rfl ?_
        refine L.no rfl ?_
        refine L.no rfl ?_
        refine L.no rfl ?_
        refine L.va rfl (X.pickT rfl (by conv => lhs; whnf)) ?_
        refine L.nil ?_
        refine J.iteT rfl ?_
        refine J.seq ?_
        refine J.region ?_
        refine L.va rfl (X.assign (by conv => lhs; whnf)) ?_
        refine L.nil ?_
        refine J.ret ?_
        refine thn_ret <| ?_
        refine fin1 ?_
        exact ⟨rfl, he1⟩
      · refine L.va rfl (X.fieldAddr rfl Try.underlying47 rfl sz_44 (by decide)) ?_
        refine L.va rfl (X.load rfl sc_44 (by first | exact Ld.blk hk1 rfl)) ?_
        refine L.va rfl (X.len rfl Try.underlying44) ?_
        refine L.va rfl (X.gtr rfl rfl) ?_
        refine L.va rfl (X.pickF rfl (by conv => lhs; whnf)) ?_
        refine L.va rfl (X.move (by conv => lhs; whnf)) ?_
        refine L.caseDec (k := 34) rfl (fun a4 => ?_) (fun a4 => ?_)
        · rw [t3 (by omega)]
          refine L.no rfl ?_
          refine L.no rfl ?_
          refine L.no rfl ?_
          refine L.no rfl ?_
          refine L.va rfl (X.pickT rfl (by conv => lhs; whnf)) ?_
          refine L.nil ?_
          refine J.iteT rfl ?_
          refine J.seq ?_
          refine J.region ?_
          refine L.va rfl (X.assign (by conv => lhs; whnf)) ?_
          refine L.nil ?_
          refine J.ret ?_
          refine thn_ret <| ?_
          refine fin1 ?_
          exact ⟨rfl, he1⟩
        · refine L.va rfl (X.fieldAddr rfl Try.underlying47 rfl sz_45 (by decide)) ?_
          refine L.va rfl (X.load rfl sc_45 (by first | exact Ld.blk hk1 rfl)) ?_
          refine L.va rfl (X.len rfl Try.underlying45) ?_
          refine L.va rfl (X.gtr rfl rfl) ?_
          refine L.va rfl (X.pickF rfl (by conv => lhs; whnf)) ?_
          refine L.nil ?_
          refine J.dec rfl (fun a5 => ?_) (fun a5 => ?_)
          · rw [t3 (by omega)]
            refine J.seq ?_
            refine J.region ?_
            refine L.va rfl (X.assign (by conv => lhs; whnf)) ?_
            refine L.nil ?_
            refine J.ret ?_
            refine thn_ret <| ?_
            refine fin1 ?_
            exact ⟨rfl, he1⟩
          · have hlen : 1 ≤ nd ∧ nd ≤ 6 ∧ n1 ≤ 3 ∧ n2 ≤ 2 ∧ nv ≤ 15 := by omega
            have t8 := @chk_8 nd n1 n2 nv ds s1 s2 zs hlen
            have t9 := @chk_9 nd n1 n2 nv ds s1 s2 zs hlen
            have t2 := @chk_2 nd n1 n2 nv ds s1 s2 zs hlen
            have t6 := @chk_6 nd n1 n2 nv ds s1 s2 zs hlen
            have t0 := @chk_0 nd n1 n2 nv ds s1 s2 zs hlen
            refine J.skip ?_
            refine J.seq ?_
            refine J.region ?_
            refine L.va rfl ((by first | exact X.loadAgg rfl (range_l hk1) Try.underlying47 rfl (by kernel_rfl) | exact X.loadAgg rfl (range_blk hk1) Try.underlying47 rfl (by kernel_rfl))) ?_
            refine L.call rfl en_83 rfl (sall_any Ad nd cd A1 n1 c1 A2 n2 c2 Av nv cv ds s1 s2 _ ((hd.ext he1).here (by decide)) ((h1.ext he1).here (by decide)) ((h2.ext he1).here (by decide)) (by omega) (by omega) (by omega)) ?_
            rintro e w2 ⟨A, c, rfl, ho, he2⟩
            refine ⟨_, rfl, ?_⟩
            have he2 : Ext w1 w2 := he2
            have hk2 := hk1.ext he2
            refine L.va rfl (X.assign (by conv => lhs; whnf)) ?_
            refine L.nil ?_
            refine J.seq ?_
            refine J.seq ?_
            refine J.region ?_
            refine L.va rfl (X.move (by conv => lhs; whnf)) ?_
            refine L.va rfl (X.len rfl Try.underlying44) ?_
            refine L.va rfl (X.move (by conv => lhs; whnf)) ?_
            refine L.nil ?_
            refine J.block ?_
            refine J.loop (X := Nat) [2, 5, 44, 45, 46, 47, 48, 49, 50, 51] (fun i => [(44, .int .i64 (i : Int))]) (fun i w' => i ≤ nd + n1 + n2 ∧ nmB (nmL ds s1 s2) i = true ∧ Ext w2 w') (fun i => nd + n1 + n2 - i) (0) (At1 (by first | rfl | exact at_int rfl (by omega) | exact at_slice rfl (by omega) | exact at_int rfl (by simp))) ?_ ?_
            · exact ⟨by omega, rfl, Ext.refl _⟩
            · rintro i g w3 ⟨hi, hB, he3⟩
              have ho3 := ho.ext he3
              have hk3 := (hk1.ext he2).ext he3
              refine J.seq ?_
              refine J.region ?_
              refine L.va rfl (X.lss rfl rfl) ?_
              refine L.nil ?_
              refine J.seq ?_
              refine J.dec rfl (fun hlt => ?_) (fun hlt => ?_)
              · refine J.skip ?_
                refine J.seq ?_
                refine J.block ?_
                refine J.seq ?_
                refine J.region ?_
                refine L.va rfl ((by first | exact X.index1n rfl rfl Try.underlying44 sz_9 (by first | exact Option.some_ne_none _ | exact own_ne ho3 (by omega)) (by omega) | exact X.index1 rfl rfl Try.underlying44 sz_9 (by first | exact Option.some_ne_none _ | exact own_ne ho3 (by omega)) (by omega))) ?_
                refine L.va rfl (X.load rfl sc_9 (by first | exact Ld.ostr ho3 (by omega) | exact Ld.blk hk3 rfl)) ?_
                refine L.va rfl (X.assign (by conv => lhs; whnf)) ?_
                refine L.nil ?_
                refine J.seq ?_
                refine J.region ?_
                refine L.va rfl (X.move (by conv => lhs; whnf)) ?_
                refine L.call rfl en_84 rfl (is_any _ _) ?_
                rintro e w4 ⟨rfl, he4⟩
                refine ⟨_, rfl, ?_⟩
                have he4 : Ext w3 w4 := he4
                cases hs : isS ((nmL ds s1 s2).getD i be0)
                · have hE := mono_f (nmB_s (nmL ds s1 s2)) (by omega : i + 1 ≤ nd + n1 + n2) (nmB_no hs)
                  rw [t8 hE]
                  refine L.va rfl (X.not rfl) ?_
                  refine L.nil ?_
                  refine J.iteT rfl ?_
                  refine J.seq ?_
                  refine J.region ?_
                  refine L.va rfl (X.assign (by conv => lhs; whnf)) ?_
                  refine L.nil ?_
                  refine J.ret ?_
                  refine inB_ret <|  thn_ret <|  thn_ret <|  inB_ret <|  thn_ret <| ?_
                  refine fin1 ?_
                  exact ⟨rfl, ((he1.trans he2).trans he3).trans he4⟩
                · refine L.va rfl (X.not rfl) ?_
                  refine L.nil ?_
                  refine J.iteF rfl ?_
                  refine J.skip ?_
                  refine J.region ?_
                  refine L.va rfl (X.add rfl rfl (by omega)) ?_
                  refine L.va rfl (X.move (by conv => lhs; whnf)) ?_
                  refine L.nil ?_
                  refine ⟨i + 1, At1 (by first | rfl | exact at_int rfl (by omega) | exact at_slice rfl (by omega) | exact at_int rfl (by simp)), (by (iterate 9 refine Agr.lk rfl ?_); exact Agr.lk rfl (Agr.hav rfl Agr.rfl')), ?_⟩
                  exact ⟨⟨by omega, nmB_mk hB hs, he3.trans he4⟩, by omega⟩
              · obtain rfl : i = nd + n1 + n2 := by omega
                refine J.exit ?_
                refine J.seq ?_
                refine J.seq ?_
                refine J.region ?_
                refine L.va rfl (X.move (by conv => lhs; whnf)) ?_
                have hll : (nmL ds s1 s2).length = nd + n1 + n2 := by have := (own_reads ho3).1; simpa [strs] using this
                have hBl := hB
                rw [← hll] at hBl
                refine L.call rfl en_85 rfl (twice_any _ _ _ _ _ ((own_reads ho3).here (by decide)) (by have := own_bd ho; omega) (nmB_sz hBl)) ?_
                rintro e w4 ⟨rfl, he4⟩
                refine ⟨_, rfl, ?_⟩
                have he4 : Ext w3 w4 := he4
                have he14 := (he2.trans he3).trans he4
                have hk4 := hk1.ext he14
                have hd4 := (hd.ext he1).ext he14
                have hv4 := (hv.ext he1).ext he14
                have he04 := he1.trans he14
                refine L.va rfl (X.geq rfl rfl) ?_
                refine L.nil ?_
                refine J.dec rfl (fun h9 => ?_) (fun h9 => ?_)
                · rw [t9 hB h9]
                  refine J.seq ?_
                  refine J.region ?_
                  refine L.va rfl (X.assign (by conv => lhs; whnf)) ?_
                  refine L.nil ?_
                  refine J.ret ?_
                  refine thn_ret <| ?_
                  refine fin1 ?_
                  exact ⟨rfl, he04⟩
                · refine J.skip ?_
                  refine J.seq ?_
                  refine J.region ?_
                  refine L.va rfl (X.assign (by conv => lhs; whnf)) ?_
                  refine L.nil ?_
                  refine J.seq ?_
                  refine J.seq ?_
                  refine J.region ?_
                  refine L.va rfl (X.fieldAddr rfl Try.underlying47 rfl sz_43 (by decide)) ?_
                  refine L.va rfl (X.load rfl sc_43 (by first | exact Ld.blk hk4 rfl | exact Ld.num hv4 (by omega) | exact Ld.rd hd4 (by omega))) ?_
                  refine L.va rfl (X.len rfl Try.underlying43) ?_
                  refine L.va rfl (X.move (by conv => lhs; whnf)) ?_
                  refine L.nil ?_
                  refine J.block ?_
                  refine J.loop (X := Nat × Int) [2, 6, 8, 58, 59, 60, 61, 62, 63, 64, 65, 66, 67, 68, 69, 70, 71, 72, 73, 74, 75, 76, 77, 78, 79, 80, 81] (fun x => [(58, .int .i64 (x.1 : Int)), (6, .int .i64 x.2)]) (fun x w' => Ext w4 w' ∧ x.1 ≤ nd ∧ x.2 = kyA ds x.1 ∧ szB ds x.1 = true) (fun x => nd - x.1) ((0, 1)) (At2 (by first | rfl | exact at_int rfl (by omega) | exact at_slice rfl (by omega) | exact at_int rfl (by simp)) (by first | rfl | exact at_int rfl (by omega) | exact at_slice rfl (by omega) | exact at_int rfl (by simp))) ?_ ?_
                  · exact ⟨Ext.refl _, by dsimp only; omega, rfl, rfl⟩
                  · rintro ⟨i, z⟩ g w5 ⟨he5, hi, hz, hS⟩
                    dsimp only at hi hz hS
                    have q1 : ((i, z) : Nat × Int).1 = i := rfl
                    have q2 : ((i, z) : Nat × Int).2 = z := rfl
                    have hzb := kyA_bd hS
                    rw [← hz] at hzb
                    have hk5 := hk4.ext he5
                    have hd5 := hd4.ext he5
                    have hv5 := hv4.ext he5
                    have he05 := he04.trans he5
                    refine J.seq ?_
                    refine J.region ?_
                    refine L.va rfl (X.lss rfl rfl) ?_
                    refine L.nil ?_
                    refine J.seq ?_
                    refine J.dec rfl (fun hlt2 => ?_) (fun hlt2 => ?_)
                    · have hil : i < nd := by dsimp only at hlt2; omega
                      have hnx := @ky_next ds i hS
                      have hno := @szB_no ds i
                      have hmf := fun h => t2 hB h9 (mono_f (szB_s ds) (by omega : i + 1 ≤ nd) h)
                      have hkn : kyA ds (i + 1) = z * (ds.getD i d0).2 := by rw [hz]; rfl
                      have hrow := dims_row (l := ds) (i := i) (by omega)
                      generalize hdv : (ds.getD i d0).2 = dv at *
                      refine J.skip ?_
                      refine J.seq ?_
                      refine J.block ?_
                      refine J.seq ?_
                      refine J.region ?_
                      refine L.va rfl ((by first | exact X.indexAddrn rfl rfl Try.underlying43 sz_78 (by first | exact Option.some_ne_none _ | exact hv5.some_ (by omega) | exact hd5.some_ (by omega)) (by omega) | exact X.indexAddr rfl rfl Try.underlying43 sz_78 (by first | exact Option.some_ne_none _ | exact hv5.some_ (by omega) | exact hd5.some_ (by omega)) (by omega))) ?_
                      refine L.va rfl (X.loadRow (cs := [.string (ds.getD i d0).1, .int .i64 dv]) rfl hd5 hrow (Nat.zero_lt_succ _) Try.underlying78 rfl (by kernel_rfl)) ?_
                      refine L.alloc rfl zr_78 ?_
                      intro b6 w6 hb6 hs6 hk6 he6
                      refine L.storeAgg (vs := [_, _]) rfl rfl rfl rfl sz_78 (hk6) rfl ?_
                      intro w7 hk7 hg7 hs7
                      have hz5 := he05.le
                      have he57 : Ext w5 w7 := he6.grw hg7 (by intro g hg; injection hg with hg; omega)
                      have he07 := he05.trans he57
                      have hk57 := hk5.ext he57
                      refine L.nil ?_
                      refine J.seq ?_
                      refine J.seq ?_
                      refine J.region ?_
                      refine L.va rfl (X.fieldAddr rfl Try.underlying78 rfl sz_3 (by decide)) ?_
                      refine L.va rfl (X.load rfl sc_3 (by first | exact Ld.blk hk7 rfl)) ?_
                      refine L.va rfl (X.lss rfl rfl) ?_
                      refine L.va rfl (X.move (by conv => lhs; whnf)) ?_
                      refine L.caseDec (k := 65) rfl (fun b1 => ?_) (fun b1 => ?_)
                      · rw [hmf (hno (by omega))]
                        refine L.no rfl ?_
                        refine L.no rfl ?_
                        refine L.no rfl ?_
                        refine L.va rfl (X.pickT rfl (by conv => lhs; whnf)) ?_
                        refine L.va rfl (X.move (by conv => lhs; whnf)) ?_
                        refine L.no rfl ?_
                        refine L.no rfl ?_
                        refine L.no rfl ?_
                        refine L.no rfl ?_
                        refine L.no rfl ?_
                        refine L.va rfl (X.pickT rfl (by conv => lhs; whnf)) ?_
                        refine L.nil ?_
                        refine J.iteT rfl ?_
                        refine J.seq ?_
                        refine J.region ?_
                        refine L.va rfl (X.assign (by conv => lhs; whnf)) ?_
                        refine L.nil ?_
                        refine J.ret ?_
                        refine thn_ret <|  inB_ret <|  thn_ret <|  thn_ret <|  inB_ret <|  thn_ret <| ?_
                        refine fin1 ?_
                        exact ⟨rfl, he07⟩
                      · refine L.va rfl (X.fieldAddr rfl Try.underlying78 rfl sz_3 (by decide)) ?_
                        refine L.va rfl (X.load rfl sc_3 (by first | exact Ld.blk hk7 rfl)) ?_
                        refine L.va rfl (X.gtr rfl rfl) ?_
                        refine L.va rfl (X.pickF rfl (by conv => lhs; whnf)) ?_
                        refine L.va rfl (X.move (by conv => lhs; whnf)) ?_
                        refine L.caseDec (k := 70) rfl (fun b2 => ?_) (fun b2 => ?_)
                        · rw [hmf (hno (by omega))]
                          refine L.no rfl ?_
                          refine L.no rfl ?_
                          refine L.no rfl ?_
                          refine L.no rfl ?_
                          refine L.no rfl ?_
                          refine L.va rfl (X.pickT rfl (by conv => lhs; whnf)) ?_
                          refine L.nil ?_
                          refine J.iteT rfl ?_
                          refine J.seq ?_
                          refine J.region ?_
                          refine L.va rfl (X.assign (by conv => lhs; whnf)) ?_
                          refine L.nil ?_
                          refine J.ret ?_
                          refine thn_ret <|  inB_ret <|  thn_ret <|  thn_ret <|  inB_ret <|  thn_ret <| ?_
                          refine fin1 ?_
                          exact ⟨rfl, he07⟩
                        · have hnx := hnx (by omega) (by omega)
                          rw [hkn] at hnx
                          have hnx' : 1 ≤ ((i, z) : Nat × Int).2 * dv ∧ ((i, z) : Nat × Int).2 * dv ≤ 1099511627776 * 4096 := hnx
                          have hq3 : ((i, z) : Nat × Int).2 * dv = z * dv := rfl
                          have hqg := @quo_gt z dv (by omega)
                          refine L.va rfl (X.move (by conv => lhs; whnf)) ?_
                          refine L.va rfl (X.fieldAddr rfl Try.underlying78 rfl sz_3 (by decide)) ?_
                          refine L.va rfl (X.load rfl sc_3 (by first | exact Ld.blk hk7 rfl)) ?_
                          refine L.va rfl (X.quo rfl rfl (by omega)) ?_
                          refine L.va rfl (X.gtr rfl rfl) ?_
                          refine L.va rfl (X.pickF rfl (by conv => lhs; whnf)) ?_
                          refine L.nil ?_
                          refine J.dec rfl (fun b3 => ?_) (fun b3 => ?_)
                          · have b3' : 1099511627776 / dv < z := b3
                            rw [hmf (hno (by omega))]
                            refine J.seq ?_
                            refine J.region ?_
                            refine L.va rfl (X.assign (by conv => lhs; whnf)) ?_
                            refine L.nil ?_
                            refine J.ret ?_
                            refine thn_ret <|  inB_ret <|  thn_ret <|  thn_ret <|  inB_ret <|  thn_ret <| ?_
                            refine fin1 ?_
                            exact ⟨rfl, he07⟩
                          · have b3' : ¬ 1099511627776 / dv < z := b3
                            refine J.skip ?_
                            refine J.region ?_
                            refine L.va rfl (X.move (by conv => lhs; whnf)) ?_
                            refine L.va rfl (X.fieldAddr rfl Try.underlying78 rfl sz_3 (by decide)) ?_
                            refine L.va rfl (X.load rfl sc_3 (by first | exact Ld.blk hk7 rfl)) ?_
                            refine L.va rfl (X.mul rfl rfl (by omega)) ?_
                            refine L.va rfl (X.assign (by conv => lhs; whnf)) ?_
                            refine L.nil ?_
                            refine J.region ?_
                            refine L.va rfl (X.add rfl rfl (by omega)) ?_
                            refine L.va rfl (X.move (by conv => lhs; whnf)) ?_
                            refine L.nil ?_
                            refine ⟨(i + 1, z * dv), At2 (by first | rfl | exact at_int rfl (by omega) | exact at_slice rfl (by omega) | exact at_int rfl (by simp)) (by first | rfl | exact at_int rfl (by omega) | exact at_slice rfl (by omega) | exact at_int rfl (by simp)), (by (iterate 28 refine Agr.lk rfl ?_); exact Agr.lk rfl (Agr.hav rfl Agr.rfl')), ?_⟩
                            exact ⟨⟨he5.trans he57, by dsimp only; omega, hkn.symm, szB_mk hS (by rw [hdv]; omega)⟩, by dsimp only; omega⟩
                    · obtain rfl : i = nd := by dsimp only at hlt2; omega
                      have hpw := pw6 hlen.2.1
                      have hsl := shl_full hlen.2.1
                      generalize hF : ((2 ^ i - 1 : Nat) : Int) = F at *
                      have hsub : IntKind.u32.wrap (((2 ^ i : Nat) : Int) - 1) = F := by rw [w32 (by omega)]; omega
                      refine J.exit ?_
                      refine J.seq ?_
                      refine J.region ?_
                      refine L.va rfl (X.fieldAddr rfl Try.underlying47 rfl sz_43 (by decide)) ?_
                      refine L.va rfl (X.load rfl sc_43 (by first | exact Ld.blk hk5 rfl | exact Ld.num hv5 (by omega) | exact Ld.rd hd5 (by omega))) ?_
                      refine L.va rfl (X.len rfl Try.underlying43) ?_
                      refine L.va rfl (X.shl rfl rfl (by omega)) ?_
                      refine L.va rfl (X.subw rfl rfl) ?_
                      refine L.va rfl (X.assign (by conv => lhs; whnf)) ?_
                      refine L.nil ?_
                      refine J.seq ?_
                      refine J.seq ?_
                      refine J.region ?_
                      refine L.va rfl (X.fieldAddr rfl Try.underlying47 rfl sz_45 (by decide)) ?_
                      refine L.va rfl (X.load rfl sc_45 (by first | exact Ld.blk hk5 rfl | exact Ld.num hv5 (by omega) | exact Ld.rd hd5 (by omega))) ?_
                      refine L.va rfl (X.len rfl Try.underlying45) ?_
                      refine L.va rfl (X.move (by conv => lhs; whnf)) ?_
                      refine L.nil ?_
                      refine J.block ?_
                      rw [hsl, hsub]
                      refine J.loop (X := Nat) [2, 10, 11, 90, 91, 92, 93, 94, 95, 96, 97, 98, 99, 100, 101, 102, 103, 104, 105, 106, 107, 108, 109, 110, 111, 112] (fun i => [(90, .int .i64 (i : Int))]) (fun i w' => w' = w5 ∧ i ≤ nv ∧ viB F zs i = true) (fun i => nv - i) (0) (At1 (by first | rfl | exact at_int rfl (by omega) | exact at_slice rfl (by omega) | exact at_int rfl (by simp))) ?_ ?_
                      · exact ⟨rfl, by omega, rfl⟩
                      · rintro j g w6 ⟨rfl, hj, hV⟩
                        refine J.seq ?_
                        refine J.region ?_
                        refine L.va rfl (X.lss rfl rfl) ?_
                        refine L.nil ?_
                        refine J.seq ?_
                        refine J.dec rfl (fun hlt3 => ?_) (fun hlt3 => ?_)
                        · have hno := @viB_no F zs j
                          have hmf := fun h => t6 hB h9 hS (mono_f (viB_s F zs) (by omega : j + 1 ≤ nv) h)
                          have hzj := hzs j
                          have hzj' := hzs (j - 1)
                          have hjp : zs.getD ((j : Int) - 1).toNat 0 = zs.getD (j - 1) 0 := by rw [show ((j : Int) - 1).toNat = j - 1 by omega]
                          refine J.skip ?_
                          refine J.seq ?_
                          refine J.block ?_
                          refine J.seq ?_
                          refine J.region ?_
                          refine L.va rfl (X.move (by conv => lhs; whnf)) ?_
                          refine L.va rfl ((by first | exact X.index1n rfl rfl Try.underlying45 sz_53 (by first | exact Option.some_ne_none _ | exact hv5.some_ (by omega) | exact hd5.some_ (by omega)) (by omega) | exact X.index1 rfl rfl Try.underlying45 sz_53 (by first | exact Option.some_ne_none _ | exact hv5.some_ (by omega) | exact hd5.some_ (by omega)) (by omega))) ?_
                          refine L.va rfl (X.load rfl sc_53 (by first | exact Ld.blk hk5 rfl | exact Ld.num hv5 (by omega) | exact Ld.rd hd5 (by omega))) ?_
                          refine L.va rfl (X.assign (by conv => lhs; whnf)) ?_
                          refine L.va rfl (X.assign (by conv => lhs; whnf)) ?_
                          refine L.nil ?_
                          refine J.seq ?_
                          refine J.region ?_
                          refine L.va rfl (X.move (by conv => lhs; whnf)) ?_
                          refine L.va rfl (X.move (by conv => lhs; whnf)) ?_
                          refine L.va rfl (X.geq rfl rfl) ?_
                          refine L.va rfl (X.move (by conv => lhs; whnf)) ?_
                          refine L.caseDec (k := 98) rfl (fun g1 => ?_) (fun g1 => ?_)
                          · rw [hmf (hno (by omega))]
                            refine L.no rfl ?_
                            refine L.no rfl ?_
                            refine L.no rfl ?_
                            refine L.no rfl ?_
                            refine L.no rfl ?_
                            refine L.no rfl ?_
                            refine L.no rfl ?_
                            refine L.no rfl ?_
                            refine L.no rfl ?_
                            refine L.no rfl ?_
                            refine L.no rfl ?_
                            refine L.no rfl ?_
                            refine L.va rfl (X.pickT rfl (by conv => lhs; whnf)) ?_
                            refine L.nil ?_
                            refine J.iteT rfl ?_
                            refine J.seq ?_
                            refine J.region ?_
                            refine L.va rfl (X.assign (by conv => lhs; whnf)) ?_
                            refine L.nil ?_
                            refine J.ret ?_
                            refine inB_ret <|  thn_ret <|  thn_ret <|  inB_ret <|  thn_ret <| ?_
                            refine fin1 ?_
                            exact ⟨rfl, he05⟩
                          · refine L.va rfl (X.move (by conv => lhs; whnf)) ?_
                            refine L.va rfl (X.gtr rfl rfl) ?_
                            refine L.va rfl (X.move (by conv => lhs; whnf)) ?_
                            refine L.caseDec (k := 101) rfl (fun g3 => ?_) (fun g3 => ?_)
                            · refine L.va rfl (X.move (by conv => lhs; whnf)) ?_
                              refine L.va rfl (X.fieldAddr rfl Try.underlying47 rfl sz_45 (by decide)) ?_
                              refine L.va rfl (X.load rfl sc_45 (by first | exact Ld.blk hk5 rfl | exact Ld.num hv5 (by omega) | exact Ld.rd hd5 (by omega))) ?_
                              refine L.va rfl (X.move (by conv => lhs; whnf)) ?_
                              refine L.va rfl (X.sub rfl rfl (by omega)) ?_
                              refine L.va rfl ((by first | exact X.index1n rfl rfl Try.underlying45 sz_53 (by first | exact Option.some_ne_none _ | exact hv5.some_ (by omega) | exact hd5.some_ (by omega)) (by omega) | exact X.index1 rfl rfl Try.underlying45 sz_53 (by first | exact Option.some_ne_none _ | exact hv5.some_ (by omega) | exact hd5.some_ (by omega)) (by omega))) ?_
                              refine L.va rfl (X.load rfl sc_53 (by first | exact Ld.blk hk5 rfl | exact Ld.num hv5 (by omega) | exact Ld.rd hd5 (by omega))) ?_
                              refine L.va rfl (X.leq rfl rfl) ?_
                              refine L.va rfl (X.pickT rfl (by conv => lhs; whnf)) ?_
                              refine L.va rfl (X.pickF rfl (by conv => lhs; whnf)) ?_
                              refine L.nil ?_
                              refine J.dec rfl (fun g4 => ?_) (fun g4 => ?_)
                              · rw [hmf (hno (by omega))]
                                refine J.seq ?_
                                refine J.region ?_
                                refine L.va rfl (X.assign (by conv => lhs; whnf)) ?_
                                refine L.nil ?_
                                refine J.ret ?_
                                refine inB_ret <|  thn_ret <|  thn_ret <|  inB_ret <|  thn_ret <| ?_
                                refine fin1 ?_
                                exact ⟨rfl, he05⟩
                              · refine J.skip ?_
                                refine J.region ?_
                                refine L.va rfl (X.add rfl rfl (by omega)) ?_
                                refine L.va rfl (X.move (by conv => lhs; whnf)) ?_
                                refine L.nil ?_
                                refine ⟨j + 1, At1 (by first | rfl | exact at_int rfl (by omega) | exact at_slice rfl (by omega) | exact at_int rfl (by simp)), (by (iterate 27 refine Agr.lk rfl ?_); exact Agr.lk rfl (Agr.hav rfl Agr.rfl')), ?_⟩
                                exact ⟨⟨rfl, by omega, viB_mk hV (by omega)⟩, by omega⟩
                            · refine L.no rfl ?_
                              refine L.no rfl ?_
                              refine L.no rfl ?_
                              refine L.no rfl ?_
                              refine L.no rfl ?_
                              refine L.no rfl ?_
                              refine L.no rfl ?_
                              refine L.no rfl ?_
                              refine L.va rfl (X.pickF rfl (by conv => lhs; whnf)) ?_
                              refine L.va rfl (X.pickF rfl (by conv => lhs; whnf)) ?_
                              refine L.nil ?_
                              refine J.iteF rfl ?_
                              refine J.skip ?_
                              refine J.region ?_
                              refine L.va rfl (X.add rfl rfl (by omega)) ?_
                              refine L.va rfl (X.move (by conv => lhs; whnf)) ?_
                              refine L.nil ?_
                              refine ⟨j + 1, At1 (by first | rfl | exact at_int rfl (by omega) | exact at_slice rfl (by omega) | exact at_int rfl (by simp)), (by (iterate 27 refine Agr.lk rfl ?_); exact Agr.lk rfl (Agr.hav rfl Agr.rfl')), ?_⟩
                              exact ⟨⟨rfl, by omega, viB_mk hV (by omega)⟩, by omega⟩
                        · obtain rfl : j = nv := by omega
                          rw [t0 hB h9 hS hV]
                          refine J.exit ?_
                          refine J.seq ?_
                          refine J.region ?_
                          refine L.va rfl (X.assign (by conv => lhs; whnf)) ?_
                          refine L.nil ?_
                          refine J.ret ?_
                          refine fin1 ?_
                          exact ⟨rfl, he05⟩
end Go.Proofs.Ytpomklkfedpkfaa
namespace Go.Proofs.Ytpomklkfedpkfaa
set_option maxRecDepth 100000
open Go.RowKit H
set_option linter.unusedVariables false
structure Sch where
  (Ad : Option Addr) (nd cd : Nat) (A1 : Option Addr) (n1 c1 : Nat) (A2 : Option Addr) (n2 c2 : Nat) (Av : Option Addr) (nv cv : Nat) (ds : List (ByteArray × Int)) (s1 s2 : List ByteArray) (zs : List Int)
namespace Sch
abbrev val (s : Sch) : Value := .agg #[.slice s.Ad s.nd s.cd, .slice s.A1 s.n1 s.c1, .slice s.A2 s.n2 s.c2, .slice s.Av s.nv s.cv]
def code (s : Sch) : Int := chk s.nd s.n1 s.n2 s.nv s.ds s.s1 s.s2 s.zs
def F (s : Sch) : Int := ((2 ^ s.nd - 1 : Nat) : Int)
structure Here (s : Sch) (w : World) : Prop where
  hd : Reads w w.heap.size 2 s.Ad s.nd (dimsV s.ds)
  h1 : Reads w w.heap.size 1 s.A1 s.n1 (strs s.s1)
  h2 : Reads w w.heap.size 1 s.A2 s.n2 (strs s.s2)
  hv : Reads w w.heap.size 1 s.Av s.nv (nums .u32 s.zs)
  hzs : ∀ i, 0 ≤ s.zs.getD i 0 ∧ s.zs.getD i 0 < 4294967296
  hle : s.nd ≤ 100 ∧ s.n1 ≤ 100 ∧ s.n2 ≤ 100 ∧ s.nv ≤ 100
theorem Here.ext {s : Sch} {w w' : World} (h : s.Here w) (he : Ext w w') : s.Here w' :=
  ⟨(h.hd.ext he).here (by decide), (h.h1.ext he).here (by decide), (h.h2.ext he).here (by decide), (h.hv.ext he).here (by decide), h.hzs, h.hle⟩
theorem Here.len {s : Sch} {w : World} (h : s.Here w) : s.ds.length = s.nd := by have := h.hd.1; rw [dimsV_length] at this; omega
theorem Here.check {s : Sch} {w : World} (h : s.Here w) : Calls Try.prog 56 #[s.val] w fun e w' => e = .returned (.int .i64 s.code) ∧ Ext w w' :=
  check_any _ _ _ _ _ _ _ _ _ _ _ _ _ _ _ _ w h.hd h.h1 h.h2 h.hv h.hzs (by have := h.hle; unfold maxLen; omega)
theorem good {s : Sch} (h : s.code = 0) : (1 ≤ s.nd ∧ s.nd ≤ 6 ∧ s.n1 ≤ 3 ∧ s.n2 ≤ 2 ∧ s.nv ≤ 15) ∧ szB s.ds s.nd = true := ⟨(chk_ok h).1, (chk_ok h).2.1⟩
theorem F_bd {s : Sch} (h : s.code = 0) : 1 ≤ s.F ∧ s.F ≤ 63 := by
  have g := (good h).1
  have hp := pw6 g.2.1
  have h2 : 2 ^ 1 ≤ 2 ^ s.nd := Nat.pow_le_pow_right (by decide) g.1
  unfold F
  omega
theorem Here.full_ok {s : Sch} {w : World} (h : s.Here w) (hc : s.code = 0) : Calls Try.prog 86 #[s.val] w fun e w' => e = .returned (.int .u32 s.F) ∧ Ext w w' := by
  have g := (good hc).1
  have hp := pw6 g.2.1
  have hsl := shl_full g.2.1
  have hF : s.F = ((2 ^ s.nd - 1 : Nat) : Int) := rfl
  have hsub : IntKind.u32.wrap (((2 ^ s.nd : Nat) : Int) - 1) = s.F := by rw [w32 (by omega), hF]; omega
  refine enter Try.func86 rfl (by kernel_rfl) ?_
  refine J.seq ?_
  refine J.region ?_
  refine L.boxA (l := [_, _, _, _]) rfl rfl ?_
  intro b1 w1 hb1 hs1 hk1 he1
  refine L.va rfl (X.assign (by conv => lhs; whnf)) ?_
  refine L.nil ?_
  refine J.seq ?_
  refine J.seq ?_
  refine J.region ?_
  refine L.va rfl ((by first | exact X.loadAgg rfl (range_l hk1) Try.underlying47 rfl (by kernel_rfl) | exact X.loadAgg rfl (range_blk hk1) Try.underlying47 rfl (by kernel_rfl))) ?_
  refine L.call rfl en_56 rfl ((h.ext he1).check) ?_
  rintro e w2 ⟨rfl, he2⟩
  refine ⟨_, rfl, ?_⟩
  have he2 : Ext w1 w2 := he2
  replace hk1 := hk1.ext he2
  refine L.va rfl (X.neq rfl rfl) ?_
  refine L.nil ?_
  rw [hc]
  refine J.iteF rfl ?_
  refine J.skip ?_
  refine J.seq ?_
  refine J.region ?_
  refine L.va rfl (X.fieldAddr rfl Try.underlying47 rfl sz_43 (by decide)) ?_
  refine L.va rfl (X.load rfl sc_43 (by first | exact Ld.blk hk1 rfl)) ?_
  refine L.va rfl (X.len rfl Try.underlying43) ?_
  refine L.va rfl (X.shl rfl rfl (by omega)) ?_
  refine L.va rfl (X.subw rfl rfl) ?_
  refine L.va rfl (X.assign (by conv => lhs; whnf)) ?_
  refine L.nil ?_
  refine J.ret ?_
  refine fin1 ?_
  rw [hsl, hsub]
  exact ⟨rfl, he1.trans he2⟩
theorem Here.full_no {s : Sch} {w : World} (h : s.Here w) (hc : s.code ≠ 0) : Calls Try.prog 86 #[s.val] w fun e w' => e = .returned (.int .u32 0) ∧ Ext w w' := by
  refine enter Try.func86 rfl (by kernel_rfl) ?_
  refine J.seq ?_
  refine J.region ?_
  refine L.boxA (l := [_, _, _, _]) rfl rfl ?_
  intro b1 w1 hb1 hs1 hk1 he1
  refine L.va rfl (X.assign (by conv => lhs; whnf)) ?_
  refine L.nil ?_
  refine J.seq ?_
  refine J.seq ?_
  refine J.region ?_
  refine L.va rfl ((by first | exact X.loadAgg rfl (range_l hk1) Try.underlying47 rfl (by kernel_rfl) | exact X.loadAgg rfl (range_blk hk1) Try.underlying47 rfl (by kernel_rfl))) ?_
  refine L.call rfl en_56 rfl ((h.ext he1).check) ?_
  rintro e w2 ⟨rfl, he2⟩
  refine ⟨_, rfl, ?_⟩
  have he2 : Ext w1 w2 := he2
  replace hk1 := hk1.ext he2
  refine L.va rfl (X.neq rfl rfl) ?_
  refine L.nil ?_
  refine J.ndecT rfl (by exact hc) ?_
  refine J.seq ?_
  refine J.region ?_
  refine L.va rfl (X.assign (by conv => lhs; whnf)) ?_
  refine L.nil ?_
  refine J.ret ?_
  refine thn_ret <| ?_
  refine fin1 ?_
  exact ⟨rfl, he1.trans he2⟩
def sub (s : Sch) (m : Int) : Prop := m ≤ s.F
theorem andNot_full {s : Sch} {m : Nat} (hm : m < 4294967296) (hn : s.nd ≤ 6) : bits .andNot .u32 (m : Int) s.F = 0 ↔ (m : Int) ≤ s.F := by
  have hp := pw6 hn
  unfold F
  rw [u32_andNot_nat m (2 ^ s.nd - 1) hm (by omega)]
  have := Mk.andNot_zero hm (show 2 ^ s.nd - 1 < 4294967296 by omega)
  rw [sb_full hm hn, decide_eq_true_iff] at this
  omega
theorem bit_and {m i : Nat} (hm : m < 4294967296) (hi : i ≤ 32) : bits .and .u32 ((m : Int) / 2 ^ min ((i : Int)).toNat IntKind.u32.bits) 1 = if m.testBit i then 1 else 0 := by
  have hb : IntKind.u32.bits = 32 := rfl
  rw [hb, show min ((i : Int)).toNat 32 = i by omega]
  have e : ((2 : Int) ^ i) = ((2 ^ i : Nat) : Int) := by simp
  have e2 : (m : Int) / ((2 ^ i : Nat) : Int) = ((m / 2 ^ i : Nat) : Int) := rfl
  have hlt : m / 2 ^ i < 4294967296 := Nat.lt_of_le_of_lt (Nat.div_le_self _ _) hm
  have h1 := u32_and_nat (m / 2 ^ i) 1 hlt (by decide)
  rw [e, e2]
  rw [show ((1 : Nat) : Int) = 1 from rfl] at h1
  rw [h1, Nat.and_one_is_mod, Nat.testBit_eq_decide_div_mod_eq]
  by_cases hd : m / 2 ^ i % 2 = 1
  · simp [hd]
  · have : m / 2 ^ i % 2 = 0 := by omega
    simp [this]
theorem Here.keys_ok {s : Sch} {w : World} (h : s.Here w) (hc : s.code = 0) {m : Nat} (hm : (m : Int) ≤ s.F) : Calls Try.prog 57 #[s.val, .int .u32 (m : Int)] w fun e w' => e = .returned (.tuple #[.int .u64 (kyP s.ds m s.nd), .bool true]) ∧ Ext w w' := by
  obtain ⟨g0, g1⟩ := good hc
  have hF := F_bd hc
  have hm32 : m < 4294967296 := by omega
  have han := (andNot_full (s := s) hm32 g0.2.1).2 hm
  have hl := h.len
  have hk := kyP_bd m g1
  refine enter Try.func57 rfl (by kernel_rfl) ?_
  refine J.seq ?_
  refine J.region ?_
  refine L.boxA (l := [_, _, _, _]) rfl rfl ?_
  intro b1 w1 hb1 hs1 hk1 he1
  refine L.va rfl (X.assign (by conv => lhs; whnf)) ?_
  refine L.va rfl (X.assign (by conv => lhs; whnf)) ?_
  refine L.nil ?_
  refine J.seq ?_
  refine J.region ?_
  refine L.va rfl ((by first | exact X.loadAgg rfl (range_l hk1) Try.underlying47 rfl (by kernel_rfl) | exact X.loadAgg rfl (range_blk hk1) Try.underlying47 rfl (by kernel_rfl))) ?_
  refine L.call rfl en_86 rfl ((h.ext he1).full_ok hc) ?_
  rintro e w2 ⟨rfl, he2⟩
  refine ⟨_, rfl, ?_⟩
  have he2 : Ext w1 w2 := he2
  have he02 := he1.trans he2
  have hk2 := hk1.ext he2
  have hd2 := h.hd.ext he02
  refine L.va rfl (X.assign (by conv => lhs; whnf)) ?_
  refine L.nil ?_
  refine J.seq ?_
  refine J.seq ?_
  refine J.region ?_
  refine L.va rfl (X.move (by conv => lhs; whnf)) ?_
  refine L.va rfl (X.eql rfl rfl) ?_
  refine L.va rfl (X.move (by conv => lhs; whnf)) ?_
  refine L.caseDecF (k := 14) rfl (by omega) ?_
  refine L.va rfl (X.move (by conv => lhs; whnf)) ?_
  refine L.va rfl (X.move (by conv => lhs; whnf)) ?_
  refine L.va rfl (X.andNot rfl rfl) ?_
  refine L.va rfl (X.neq rfl rfl) ?_
  refine L.va rfl (X.pickF rfl (by conv => lhs; whnf)) ?_
  refine L.nil ?_
  rw [han]
  refine J.iteF rfl ?_
  refine J.skip ?_
  refine J.seq ?_
  refine J.region ?_
  refine L.va rfl (X.assign (by conv => lhs; whnf)) ?_
  refine L.nil ?_
  refine J.seq ?_
  refine J.seq ?_
  refine J.region ?_
  refine L.va rfl (X.fieldAddr rfl Try.underlying47 rfl sz_43 (by decide)) ?_
  refine L.va rfl (X.load rfl sc_43 (by first | exact Ld.blk hk2 rfl | exact Ld.rd hd2 (by omega))) ?_
  refine L.va rfl (X.len rfl Try.underlying43) ?_
  refine L.va rfl (X.move (by conv => lhs; whnf)) ?_
  refine L.nil ?_
  refine J.block ?_
  refine J.loop (X := Nat × Int) [7, 8, 9, 23, 24, 25, 26, 27, 28, 29, 30, 31, 32, 33, 34, 35, 36, 37, 38] (fun x => [(23, .int .i64 (x.1 : Int)), (7, .int .u64 x.2)]) (fun x w' => Ext w2 w' ∧ x.1 ≤ s.nd ∧ x.2 = kyP s.ds m x.1) (fun x => s.nd - x.1) ((0, 1)) (At2 (by first | rfl | exact at_int rfl (by omega) | exact at_slice rfl (by omega) | exact at_int rfl (by simp)) (by first | rfl | exact at_int rfl (by omega) | exact at_slice rfl (by omega) | exact at_int rfl (by simp))) ?_ ?_
  · exact ⟨Ext.refl _, by dsimp only; omega, rfl⟩
  · rintro ⟨i, z⟩ g w3 ⟨he3, hi, hz⟩
    dsimp only at hi hz
    have q1 : ((i, z) : Nat × Int).1 = i := rfl
    have q2 : ((i, z) : Nat × Int).2 = z := rfl
    have hk3 := hk2.ext he3
    have hd3 := hd2.ext he3
    have he03 := he02.trans he3
    refine J.seq ?_
    refine J.region ?_
    refine L.va rfl (X.lss rfl rfl) ?_
    refine L.nil ?_
    refine J.seq ?_
    refine J.dec rfl (fun hlt => ?_) (fun hlt => ?_)
    · have hil : i < s.nd := by dsimp only at hlt; omega
      have hb := hk (i + 1) (by omega)
      have hn : kyP s.ds m (i + 1) = if m.testBit i then kyP s.ds m i * (s.ds.getD i d0).2 else kyP s.ds m i := rfl
      have hbd := szB_at (mono_b (szB_s s.ds) (by omega : i + 1 ≤ s.nd) g1)
      have hrow := dims_row (l := s.ds) (i := i) (by omega)
      have hba := bit_and (m := m) (i := i) hm32 (by omega)
      generalize hdv : (s.ds.getD i d0).2 = dv at *
      refine J.skip ?_
      refine J.seq ?_
      refine J.block ?_
      refine J.seq ?_
      refine J.region ?_
      refine L.va rfl (X.move (by conv => lhs; whnf)) ?_
      refine L.va rfl ((by first | exact X.indexAddrn rfl rfl Try.underlying43 sz_78 (by first | exact Option.some_ne_none _ | exact hd3.some_ (by omega)) (by omega) | exact X.indexAddr rfl rfl Try.underlying43 sz_78 (by first | exact Option.some_ne_none _ | exact hd3.some_ (by omega)) (by omega))) ?_
      refine L.va rfl (X.loadRow (cs := [.string (s.ds.getD i d0).1, .int .i64 dv]) rfl hd3 hrow (Nat.zero_lt_succ _) Try.underlying78 rfl (by kernel_rfl)) ?_
      refine L.alloc rfl zr_78 ?_
      intro b4 w4 hb4 hs4 hk4 he4
      refine L.va rfl (X.assign (by conv => lhs; whnf)) ?_
      refine L.storeAgg (vs := [_, _]) rfl rfl rfl rfl sz_78 (hk4) rfl ?_
      intro w5 hk5 hg5 hs5
      have hz3 := he03.le
      have he35 : Ext w3 w5 := he4.grw hg5 (by intro g hg; injection hg with hg; omega)
      refine L.nil ?_
      refine J.seq ?_
      refine J.region ?_
      refine L.va rfl (X.move (by conv => lhs; whnf)) ?_
      refine L.va rfl (X.move (by conv => lhs; whnf)) ?_
      refine L.va rfl (X.shr rfl rfl (by omega)) ?_
      refine L.va rfl (X.and rfl rfl) ?_
      refine L.va rfl (X.eql rfl rfl) ?_
      refine L.nil ?_
      rw [hba]
      cases ht : m.testBit i
      · rw [ht] at hn
        refine J.iteF rfl ?_
        refine J.skip ?_
        refine J.region ?_
        refine L.va rfl (X.add rfl rfl (by omega)) ?_
        refine L.va rfl (X.move (by conv => lhs; whnf)) ?_
        refine L.nil ?_
        refine ⟨(i + 1, z), At2 (by first | rfl | exact at_int rfl (by omega) | exact at_slice rfl (by omega) | exact at_int rfl (by simp)) (by first | rfl | exact at_int rfl (by omega) | exact at_slice rfl (by omega) | exact at_int rfl (by simp)), (by (iterate 13 refine Agr.lk rfl ?_); exact Agr.lk rfl (Agr.hav rfl Agr.rfl')), ?_⟩
        exact ⟨⟨he3.trans he35, by dsimp only; omega, by dsimp only; rw [hn, hz]; rfl⟩, by dsimp only; omega⟩
      · rw [ht, if_pos rfl, ← hz] at hn
        rw [hn] at hb
        have hbd' : 1 ≤ dv ∧ dv ≤ 4096 := ⟨hbd.1, hbd.2.1⟩
        have hb' : 0 ≤ ((i, z) : Nat × Int).2 * dv ∧ ((i, z) : Nat × Int).2 * dv ≤ 1099511627776 := hb
        refine J.iteT rfl ?_
        refine J.region ?_
        refine L.va rfl (X.move (by conv => lhs; whnf)) ?_
        refine L.va rfl (X.fieldAddr rfl Try.underlying78 rfl sz_3 (by decide)) ?_
        refine L.va rfl (X.load rfl sc_3 (by first | exact Ld.blk hk5 rfl)) ?_
        refine L.va rfl ((by first | exact X.convU rfl is_3 Try.underlying36 (by omega) | exact X.convw rfl is_3 Try.underlying36)) ?_
        refine L.va rfl (X.mulU rfl rfl (by omega)) ?_
        refine L.va rfl (X.assign (by conv => lhs; whnf)) ?_
        refine L.nil ?_
        refine J.region ?_
        refine L.va rfl (X.add rfl rfl (by omega)) ?_
        refine L.va rfl (X.move (by conv => lhs; whnf)) ?_
        refine L.nil ?_
        refine ⟨(i + 1, z * dv), At2 (by first | rfl | exact at_int rfl (by omega) | exact at_slice rfl (by omega) | exact at_int rfl (by simp)) (by first | rfl | exact at_int rfl (by omega) | exact at_slice rfl (by omega) | exact at_int rfl (by simp)), (by (iterate 19 refine Agr.lk rfl ?_); exact Agr.lk rfl (Agr.hav rfl Agr.rfl')), ?_⟩
        exact ⟨⟨he3.trans he35, by dsimp only; omega, hn.symm⟩, by dsimp only; omega⟩
    · obtain rfl : i = s.nd := by dsimp only at hlt; omega
      rw [← hz]
      refine J.exit ?_
      refine J.seq ?_
      refine J.region ?_
      refine L.va rfl (X.move (by conv => lhs; whnf)) ?_
      refine L.va rfl (X.assign (by conv => lhs; whnf)) ?_
      refine L.va rfl (X.assign (by conv => lhs; whnf)) ?_
      refine L.nil ?_
      refine J.ret ?_
      refine fin2 ?_
      exact ⟨rfl, he03⟩
theorem Here.keys_no {s : Sch} {w : World} (h : s.Here w) {m : Nat} (hm32 : m < 4294967296) (hc : s.code = 0 → ¬ (m : Int) ≤ s.F) : Calls Try.prog 57 #[s.val, .int .u32 (m : Int)] w fun e w' => e = .returned (.tuple #[.int .u64 0, .bool false]) ∧ Ext w w' := by
  refine enter Try.func57 rfl (by kernel_rfl) ?_
  refine J.seq ?_
  refine J.region ?_
  refine L.boxA (l := [_, _, _, _]) rfl rfl ?_
  intro b1 w1 hb1 hs1 hk1 he1
  refine L.va rfl (X.assign (by conv => lhs; whnf)) ?_
  refine L.va rfl (X.assign (by conv => lhs; whnf)) ?_
  refine L.nil ?_
  refine J.seq ?_
  refine J.region ?_
  refine L.va rfl ((by first | exact X.loadAgg rfl (range_l hk1) Try.underlying47 rfl (by kernel_rfl) | exact X.loadAgg rfl (range_blk hk1) Try.underlying47 rfl (by kernel_rfl))) ?_
  by_cases hcc : s.code = 0
  · have g0 := (good hcc).1
    have hF := F_bd hcc
    have han := andNot_full (s := s) hm32 g0.2.1
    have hno := hc hcc
    refine L.call rfl en_86 rfl ((h.ext he1).full_ok hcc) ?_
    rintro e w2 ⟨rfl, he2⟩
    refine ⟨_, rfl, ?_⟩
    have he2 : Ext w1 w2 := he2
    refine L.va rfl (X.assign (by conv => lhs; whnf)) ?_
    refine L.nil ?_
    refine J.seq ?_
    refine J.seq ?_
    refine J.region ?_
    refine L.va rfl (X.move (by conv => lhs; whnf)) ?_
    refine L.va rfl (X.eql rfl rfl) ?_
    refine L.va rfl (X.move (by conv => lhs; whnf)) ?_
    refine L.caseDecF (k := 14) rfl (by omega) ?_
    refine L.va rfl (X.move (by conv => lhs; whnf)) ?_
    refine L.va rfl (X.move (by conv => lhs; whnf)) ?_
    refine L.va rfl (X.andNot rfl rfl) ?_
    refine L.va rfl (X.neq rfl rfl) ?_
    refine L.va rfl (X.pickF rfl (by conv => lhs; whnf)) ?_
    refine L.nil ?_
    refine J.ndecT rfl (by omega) ?_
    refine J.seq ?_
    refine J.region ?_
    refine L.va rfl (X.assign (by conv => lhs; whnf)) ?_
    refine L.va rfl (X.assign (by conv => lhs; whnf)) ?_
    refine L.nil ?_
    refine J.ret ?_
    refine thn_ret <| ?_
    refine fin2 ?_
    exact ⟨rfl, he1.trans he2⟩
  · refine L.call rfl en_86 rfl ((h.ext he1).full_no hcc) ?_
    rintro e w2 ⟨rfl, he2⟩
    refine ⟨_, rfl, ?_⟩
    have he2 : Ext w1 w2 := he2
    refine L.va rfl (X.assign (by conv => lhs; whnf)) ?_
    refine L.nil ?_
    refine J.seq ?_
    refine J.seq ?_
    refine J.region ?_
    refine L.va rfl (X.move (by conv => lhs; whnf)) ?_
    refine L.va rfl (X.eql rfl rfl) ?_
    refine L.va rfl (X.move (by conv => lhs; whnf)) ?_
    refine L.caseDecT (k := 14) rfl (by rfl) ?_
    refine L.no rfl ?_
    refine L.no rfl ?_
    refine L.no rfl ?_
    refine L.no rfl ?_
    refine L.va rfl (X.pickT rfl (by conv => lhs; whnf)) ?_
    refine L.nil ?_
    refine J.iteT rfl ?_
    refine J.seq ?_
    refine J.region ?_
    refine L.va rfl (X.assign (by conv => lhs; whnf)) ?_
    refine L.va rfl (X.assign (by conv => lhs; whnf)) ?_
    refine L.nil ?_
    refine J.ret ?_
    refine thn_ret <| ?_
    refine fin2 ?_
    exact ⟨rfl, he1.trans he2⟩
def kv (s : Sch) (m : Nat) : Int := if s.code = 0 ∧ (m : Int) ≤ s.F then kyP s.ds m s.nd else 0
def kb (s : Sch) (m : Nat) : Bool := decide (s.code = 0 ∧ (m : Int) ≤ s.F)
theorem Here.keys {s : Sch} {w : World} (h : s.Here w) {m : Nat} (hm : m < 4294967296) : Calls Try.prog 57 #[s.val, .int .u32 (m : Int)] w fun e w' => e = .returned (.tuple #[.int .u64 (s.kv m), .bool (s.kb m)]) ∧ Ext w w' := by
  by_cases hc : s.code = 0 ∧ (m : Int) ≤ s.F
  · rw [kv, kb, if_pos hc, decide_eq_true hc]
    exact h.keys_ok hc.1 hc.2
  · rw [kv, kb, if_neg hc, decide_eq_false hc]
    exact h.keys_no hm (fun h1 h2 => hc ⟨h1, h2⟩)
structure Any (s : Sch) (w : World) : Prop where
  hd : Reads w w.heap.size 2 s.Ad s.nd (dimsV s.ds)
  h1 : Reads w w.heap.size 1 s.A1 s.n1 (strs s.s1)
  h2 : Reads w w.heap.size 1 s.A2 s.n2 (strs s.s2)
  hv : Reads w w.heap.size 1 s.Av s.nv (nums .u32 s.zs)
  hzs : ∀ i, 0 ≤ s.zs.getD i 0 ∧ s.zs.getD i 0 < 4294967296
theorem Any.ext {s : Sch} {w w' : World} (h : s.Any w) (he : Ext w w') : s.Any w' :=
  ⟨(h.hd.ext he).here (by decide), (h.h1.ext he).here (by decide), (h.h2.ext he).here (by decide), (h.hv.ext he).here (by decide), h.hzs⟩
theorem Any.here {s : Sch} {w : World} (h : s.Any w) (hle : s.nd ≤ 100 ∧ s.n1 ≤ 100 ∧ s.n2 ≤ 100 ∧ s.nv ≤ 100) : s.Here w := ⟨h.hd, h.h1, h.h2, h.hv, h.hzs, hle⟩
theorem Any.light {s : Sch} {w : World} (h : s.Any w) : Calls Try.prog 14 #[s.val] w fun e w' => ∃ b, e = .returned (.bool b) ∧ (b = true → s.nd ≤ 100 ∧ s.n1 ≤ 100 ∧ s.n2 ≤ 100 ∧ s.nv ≤ 100) ∧ Ext w w' :=
  light11 _ _ _ _ _ _ _ _ _ _ _ _ s.ds s.s1 s.s2 w h.hd h.h1 h.h2
end Sch
theorem sch_of {w : World} {vs : List Value} {x : (List (Str × Nm .i64)) × List Str × List Str × List (Nm .u32)} (h : Lay.lies w w.heap.size vs x) :
    ∃ s : Sch, vs = [.slice s.Ad s.nd s.cd, .slice s.A1 s.n1 s.c1, .slice s.A2 s.n2 s.c2, .slice s.Av s.nv s.cv] ∧ s.Any w := by
  obtain ⟨Ad, nd, cd, A1, n1, c1, A2, n2, c2, Av, nv, cv, rfl, g1, g2, g3, g4, hd, h1, h2, hv⟩ := schema4 h
  refine ⟨⟨Ad, nd, cd, A1, n1, c1, A2, n2, c2, Av, nv, cv, _, _, _, zsOf x.2.2.2⟩, rfl, hd, h1, h2, hv, fun i => ?_⟩
  obtain ⟨vs, hvz, hvs⟩ := u32_list x.2.2.2
  show 0 ≤ (zsOf x.2.2.2).getD i 0 ∧ (zsOf x.2.2.2).getD i 0 < 4294967296
  rw [hvz, zl_getD]
  have h3 : vs.getD i 0 < 4294967296 := by
    rcases Nat.lt_or_ge i vs.length with h | h
    · rw [List.getD, List.getElem?_eq_getElem h]; exact hvs _ (List.getElem_mem h)
    · rw [List.getD, List.getElem?_eq_none h]; decide
  omega
def aA : ByteArray := { data := #[97] }
end Go.Proofs.Ytpomklkfedpkfaa
namespace Go.Proofs.Ytpomklkfedpkfaa
set_option maxRecDepth 100000
open Go.RowKit H
set_option linter.unusedVariables false
theorem lst_eq {α : Type} (d : α) {a b : List α} (h : a.length = b.length) (hP : ∀ j, j < a.length → a.getD j d = b.getD j d) : a = b := by
  apply List.ext_getElem h
  intro i h1 h2
  have := hP i h1
  simpa [List.getD, h1, h2] using this
theorem lst_ne {α : Type} (d : α) {a b : List α} {i : Nat} (h : ¬ a.getD i d = b.getD i d) : ¬ a = b := fun e => h (by rw [e])
end Go.Proofs.Ytpomklkfedpkfaa
namespace Go.Proofs.Ytpomklkfedpkfaa
set_option maxRecDepth 100000
open Go.RowKit H
open Flo
set_option linter.unusedVariables false
theorem con_atWh {l : List Wh} (i : Nat) : (l.map Wh.con).getD i wc0 = (l.getD i wh0).con := by
  rw [List.getD, List.getD, List.getElem?_map]
  cases l[i]? <;> rfl
theorem con_atRe {l : List Re} (i : Nat) : (l.map Re.con).getD i rc0 = (l.getD i re0).con := by
  rw [List.getD, List.getD, List.getElem?_map]
  cases l[i]? <;> rfl
end Go.Proofs.Ytpomklkfedpkfaa
