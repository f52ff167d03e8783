/-
  Orders: numbers' codes, values; who is ahead.
-/
import Derived.Test.YtmnlaekcojblkaaOrdPlain
import Derived.Test.YtmnlaekcojblkaaWCodeN
import Derived.Test.YtmnlaekcojblkaaWRowC
namespace Go.Proofs.Ytmnlaekcojblkaa
set_option maxRecDepth 100000
open Go.RowKit H
open Byts Cod Flo Odr
set_option linter.unusedVariables false
theorem keyF_lt {a b : Nat} (ha : ¬ nanF a) (hb : ¬ nanF b) : keyF a < keyF b ↔ ltF a b ∨ (eqF a b ∧ belowF a = true ∧ belowF b = false) := by
  have h1 := rg_lt a
  have h2 := rg_lt b
  unfold keyF belowF ltF eqF od
  rw [if_neg ha, if_neg hb, decide_eq_true ha, decide_eq_true hb]
  cases hs : sg a <;> cases ht : sg b <;> simp [ha, hb] <;> omega
theorem keyF_nan {a : Nat} (ha : nanF a) : keyF a = 18446744073709551615 := by unfold keyF; rw [if_pos ha]
theorem keyF_num {a : Nat} (ha : ¬ nanF a) : keyF a < 18446744073709551615 := by
  have h := rg_lt a
  have hi : inf = 9218868437227405312 := rfl
  have hx : rg a ≤ inf := Nat.not_lt.1 ha
  unfold keyF
  rw [if_neg ha]
  split <;> omega
/-- who of two values is ahead -/
def aheadV (a b : Vl) : Bool := if a.r ≠ b.r then !a.r else if a.r = true then decide (keyF a.x < keyF b.x) else decide (a.n < b.n)
/-- a value's code -/
def vC (v : Vl) : List Int := if v.r = true then 1 :: be 8 (keyF v.x) else 0 :: cI v.n
theorem vC_dif {a b : Vl} (h : aheadV a b = true) : Dif (vC a) (vC b) := by
  obtain ⟨ar, an, ax⟩ := a
  obtain ⟨br, bn, bx⟩ := b
  have k1 := keyF_bd ax
  have k2 := keyF_bd bx
  unfold aheadV at h
  unfold vC
  cases ar <;> cases br
  · exact Dif.cons (cI_dif (by simpa using h)) _
  · exact Dif.head (by decide) _ _
  · simp at h
  · exact Dif.cons (be_dif 8 _ _ k1.1 (by simpa using h) (by show keyF bx < _; rw [show (256 : Int) ^ 8 = 18446744073709551616 by decide]; omega)) _
theorem vC_same {a b : Vl} (h1 : aheadV a b = false) (h2 : aheadV b a = false) : vC a = vC b := by
  obtain ⟨ar, an, ax⟩ := a
  obtain ⟨br, bn, bx⟩ := b
  unfold aheadV at h1 h2
  unfold vC
  cases ar <;> cases br
  · simp at h1 h2
    have e : an = bn := by omega
    simp [e]
  · simp at h1
  · simp at h2
  · simp at h1 h2
    have e : keyF ax = keyF bx := by omega
    simp [e]
theorem ahead_asym {a b : Vl} (h : aheadV a b = true) : aheadV b a = false := by
  cases h2 : aheadV b a
  · rfl
  · have := (vC_dif h).less
    rw [(vC_dif h2).more] at this
    cases this
/-- the order's columns -/
abbrev Or := List (Int × Bool)
def valAt (r : Rw) (c : Int) : Vl := if c < 0 ∨ (r.nv : Int) ≤ c then Vl.z else r.v.getD c.toNat Vl.z
def colC (r : Rw) (x : Int × Bool) : List Int := if x.2 = true then inv (vC (valAt r x.1)) else vC (valAt r x.1)
/-- a row's key -/
def keyO (o : Or) (r : Rw) : List Int := o.flatMap (colC r) ++ r.c.flatMap cI
/-- who of two rows is ahead -/
def lessO : Or → Rw → Rw → Bool
  | [], a, b => lessL a.c b.c
  | x :: t, a, b => if aheadV (valAt a x.1) (valAt b x.1) = true ∨ aheadV (valAt b x.1) (valAt a x.1) = true then (aheadV (valAt a x.1) (valAt b x.1) != x.2) else lessO t a b
theorem less_key : ∀ (o : Or) (a b : Rw), lessB (keyO o a) (keyO o b) = lessO o a b
  | [], a, b => less_codes a.c b.c
  | (c, d) :: t, a, b => by
    have ih := less_key t a b
    unfold keyO at ih ⊢
    rw [List.flatMap_cons, List.flatMap_cons, List.append_assoc, List.append_assoc]
    unfold lessO
    dsimp only
    by_cases h1 : aheadV (valAt a c) (valAt b c) = true
    · rw [if_pos (.inl h1), h1]
      have hd := vC_dif h1
      cases d
      · exact (hd.app _ _).less
      · exact (hd.inv.app _ _).more
    · by_cases h2 : aheadV (valAt b c) (valAt a c) = true
      · rw [if_pos (.inr h2)]
        have h1 : aheadV (valAt a c) (valAt b c) = false := by simpa using h1
        rw [h1]
        have hd := vC_dif h2
        cases d
        · exact (hd.app _ _).more
        · exact (hd.inv.app _ _).less
      · rw [if_neg (fun h => h.elim h1 h2)]
        have e : colC a (c, d) = colC b (c, d) := by unfold colC; rw [vC_same (by simpa using h1) (by simpa using h2)]
        rw [e, lessB_same]
        exact ih
theorem ones64 (b : Nat) (hb : b < 2 ^ 64) : (2 ^ 64 - 1) ^^^ b = 2 ^ 64 - 1 - b := by
  refine Nat.eq_of_testBit_eq fun i => ?_
  rw [Nat.testBit_xor, Nat.testBit_two_pow_sub_one, show 2 ^ 64 - 1 - b = 2 ^ 64 - (b + 1) by omega, Nat.testBit_two_pow_sub_succ hb]
  by_cases h : i < 64
  · rw [decide_eq_true h]; cases b.testBit i <;> rfl
  · rw [decide_eq_false h, Nat.testBit_lt_two_pow (Nat.lt_of_lt_of_le hb (Nat.pow_le_pow_right (by decide) (by omega)))]; rfl
theorem compl64 {y : Int} (h0 : 0 ≤ y) (h1 : y ≤ 18446744073709551615) : bits .xor .u64 (if IntKind.u64.signed then -1 else IntKind.u64.max) y = 18446744073709551615 - y := by
  obtain ⟨b, rfl⟩ := Int.eq_ofNat_of_zero_le h0
  have h := u64_xor_nat 18446744073709551615 b (by decide) (by omega)
  have k := ones64 b (by omega)
  rw [show (18446744073709551615 : Nat) = 2 ^ 64 - 1 by decide, k] at h
  refine Eq.trans h ?_
  omega
theorem be_compl (n : Nat) (y : Int) (h : n ≤ 8) : be n (18446744073709551615 - y) = inv (be n y) := by
  refine be_inv n y _ ⟨256 ^ (8 - n), ?_⟩
  rw [← Int.pow_add, show 8 - n + n = 8 by omega]
  decide
namespace H
theorem X.complE {P : Program} {w : World} {ρ : Operand → Value} {d : Option Tmp} {t ty : TypeId} {x : Operand} {pos : String} {aft : Array Edge} {g : Option (Nat × Bool)} {k : IntKind} {m z : Int} (hx : ρ x = .int k m) (h : bits .xor k (if k.signed then -1 else k.max) m = z) : (execOp ρ ⟨d, .unOp .xor t x, ty, pos, aft, g⟩).run P w = .ok (.value (.int k z)) w := by
  rw [← h]; exact X.compl hx
theorem X.negE {P : Program} {w : World} {ρ : Operand → Value} {d : Option Tmp} {t ty : TypeId} {x : Operand} {pos : String} {aft : Array Edge} {g : Option (Nat × Bool)} {k : IntKind} {m z : Int} (hx : ρ x = .int k m) (h : k.wrap (0 - m) = z) : (execOp ρ ⟨d, .unOp .neg t x, ty, pos, aft, g⟩).run P w = .ok (.value (.int k z)) w := by
  rw [← h]; exact X.negw hx
end H
theorem code_I (z : Int) (w : World) (h0 : -9223372036854775808 ≤ z) (h1 : z ≤ 9223372036854775807) :
    Calls Try.prog 76 #[.int .i64 z] w fun e w' => ∃ A' c', e = .returned (.slice A' (cI z).length c') ∧ w'.ownsRow w.heap.size 5 1 (.slice A' (cI z).length c') (cI z).length (nums .u8 (cI z)) ∧ Ext w w' := by
  refine enter Try.func76 rfl (by kernel_rfl) ?_
  refine J.seq ?_
  refine J.region ?_
  refine L.va rfl (X.assign (by conv => lhs; whnf)) ?_
  refine L.nil ?_
  refine J.seq ?_
  refine J.seq ?_
  refine J.region ?_
  refine L.va rfl (X.move (by conv => lhs; whnf)) ?_
  refine L.va rfl (X.geq rfl rfl) ?_
  refine L.nil ?_
  -- cond
  refine J.dec rfl (fun hz => ?_) (fun hz => ?_)
  · have h8 := wd_le8 (x := z) (by omega) (by omega)
    have e : cI z = [9 + (wd z : Int)] ++ be (wd z) z := by unfold cI; rw [if_pos (by omega)]; rfl
    have el : (cI z).length = 1 + wd z := by rw [e]; simp [be_length]; omega
    rw [el, e]
    refine J.seq ?_
    refine J.region ?_
    refine L.va rfl (X.move (by conv => lhs; whnf)) ?_
    refine L.va rfl ((by first | exact X.convU rfl is_2 Try.underlying123 (by omega) | exact X.convw rfl is_2 Try.underlying123)) ?_
    -- callfn bushel/code.wide
    refine L.call rfl en_129 rfl (code_wide z _ (by omega) (by omega)) ?_
    rintro e _ ⟨rfl, rfl⟩
    refine ⟨_, rfl, ?_⟩
    refine L.va rfl (X.assign (by conv => lhs; whnf)) ?_
    refine L.nil ?_
    refine J.seq ?_
    refine J.region ?_
    refine L.va rfl (X.move (by conv => lhs; whnf)) ?_
    refine L.va rfl (X.add rfl rfl (by omega)) ?_
    refine L.va rfl ((by first | exact X.conv8 rfl is_3 Try.underlying5 (by omega) | exact X.convw rfl is_3 Try.underlying5)) ?_
    -- buildSlice
    refine L.bslice (vs := [_]) rfl (Evs.cons (by conv => lhs; whnf) Evs.nil) rfl rfl rfl rfl Try.underlying33 sz_5 zr_5 (by decide) ?_
    intro b1 w1 hb1 hs1 hk1 he1
    have ho := blk_own1 (l := nums .u8 [9 + (wd z : Int)]) (q := 1) hk1 (by omega : w.heap.size ≤ b1) (by decide) rfl
    refine L.va rfl (X.move (by conv => lhs; whnf)) ?_
    refine L.va rfl ((by first | exact X.convU rfl is_2 Try.underlying123 (by omega) | exact X.convw rfl is_2 Try.underlying123)) ?_
    refine L.va rfl (X.move (by conv => lhs; whnf)) ?_
    -- callfn bushel/code.bytes
    refine L.call rfl en_127 rfl (code_bytes w.heap.size _ 1 1 [9 + (wd z : Int)] z (wd z) _ ho (by omega) (by omega) h8 (by omega) (by omega)) ?_
    rintro e w2 ⟨A', c', rfl, ho2, hb2⟩
    refine ⟨_, rfl, ?_⟩
    have hb2 : Below w.heap.size w1 w2 := hb2
    refine L.va rfl (X.assign (by conv => lhs; whnf)) ?_
    refine L.nil ?_
    -- ret
    refine J.ret ?_
    refine thn_ret <| ?_
    refine fin1 ?_
    exact ⟨A', c', rfl, ho2, (he1.low hb2 (Nat.le_refl _))⟩
  · have h8 := wd_le8 (x := -(z + 1)) (by omega) (by omega)
    have e : cI z = [8 - (wd (-(z + 1)) : Int)] ++ inv (bz (-(z + 1))) := by unfold cI; rw [if_neg (by omega)]; rfl
    have el : (cI z).length = 1 + wd (-(z + 1)) := by rw [e]; simp [inv_length, bz_length]; omega
    rw [el, e]
    obtain ⟨y, hy⟩ : ∃ y, y = -(z + 1) := ⟨_, rfl⟩
    rw [← hy] at h8 ⊢
    -- t21
    refine J.skip ?_
    refine J.seq ?_
    refine J.region ?_
    refine L.va rfl (X.move (by conv => lhs; whnf)) ?_
    refine L.va rfl (X.add rfl rfl (by omega)) ?_
    refine L.va rfl (X.negE rfl (show IntKind.i64.wrap (0 - (z + 1)) = y by rw [w64 (by omega)]; omega)) ?_
    refine L.va rfl ((by first | exact X.convU rfl is_2 Try.underlying123 (by omega) | exact X.convw rfl is_2 Try.underlying123)) ?_
    refine L.va rfl (X.assign (by conv => lhs; whnf)) ?_
    refine L.nil ?_
    refine J.seq ?_
    refine J.region ?_
    refine L.va rfl (X.move (by conv => lhs; whnf)) ?_
    -- callfn bushel/code.wide
    refine L.call rfl en_129 rfl (code_wide y _ (by omega) (by omega)) ?_
    rintro e _ ⟨rfl, rfl⟩
    refine ⟨_, rfl, ?_⟩
    refine L.va rfl (X.assign (by conv => lhs; whnf)) ?_
    refine L.nil ?_
    refine J.seq ?_
    refine J.region ?_
    refine L.va rfl (X.move (by conv => lhs; whnf)) ?_
    refine L.va rfl (X.sub rfl rfl (by omega)) ?_
    refine L.va rfl ((by first | exact X.conv8 rfl is_3 Try.underlying5 (by omega) | exact X.convw rfl is_3 Try.underlying5)) ?_
    -- buildSlice
    refine L.bslice (vs := [_]) rfl (Evs.cons (by conv => lhs; whnf) Evs.nil) rfl rfl rfl rfl Try.underlying33 sz_5 zr_5 (by decide) ?_
    intro b1 w1 hb1 hs1 hk1 he1
    have ho := blk_own1 (l := nums .u8 [8 - (wd y : Int)]) (q := 1) hk1 (by omega : w.heap.size ≤ b1) (by decide) rfl
    -- t30
    refine L.va rfl (X.move (by conv => lhs; whnf)) ?_
    refine L.va rfl (X.complE rfl (compl64 (y := y) (by omega) (by omega))) ?_
    refine L.va rfl (X.move (by conv => lhs; whnf)) ?_
    -- callfn bushel/code.bytes
    refine L.call rfl en_127 rfl (code_bytes w.heap.size _ 1 1 [8 - (wd y : Int)] (18446744073709551615 - y) (wd y) _ ho (by omega) (by omega) h8 (by omega) (by omega)) ?_
    rintro e w2 ⟨A', c', rfl, ho2, hb2⟩
    refine ⟨_, rfl, ?_⟩
    have hb2 : Below w.heap.size w1 w2 := hb2
    rw [be_compl _ _ h8] at ho2
    refine L.va rfl (X.assign (by conv => lhs; whnf)) ?_
    refine L.nil ?_
    -- ret
    refine J.ret ?_
    refine fin1 ?_
    exact ⟨A', c', rfl, ho2, (he1.low hb2 (Nat.le_refl _))⟩
theorem code_F (x : Nat) (w : World) (hx : x < 18446744073709551616) :
    Calls Try.prog 75 #[.float .f64 x] w fun e w' => ∃ A' c', e = .returned (.slice A' 8 c') ∧ w'.ownsRow w.heap.size 5 1 (.slice A' 8 c') 8 (nums .u8 (be 8 (keyF x))) ∧ Ext w w' := by
  have k := keyF_bd x
  refine enter Try.func75 rfl (by kernel_rfl) ?_
  refine J.seq ?_
  refine J.region ?_
  refine L.va rfl (X.assign (by conv => lhs; whnf)) ?_
  refine L.nil ?_
  refine J.seq ?_
  refine J.region ?_
  refine L.va rfl (X.move (by conv => lhs; whnf)) ?_
  -- callfn bushel/flo.Key
  refine L.call rfl en_128 rfl (flo_key x w hx) ?_
  rintro e _ ⟨rfl, rfl⟩
  refine ⟨_, rfl, ?_⟩
  -- callfn bushel/code.bytes
  refine L.call rfl en_127 rfl (code_bytes w.heap.size none 0 0 [] (keyF x) 8 w (own_nil _ _ _ _) (Nat.le_refl _) (by decide) (by decide) k.1 k.2) ?_
  rintro e w2 ⟨A', c', rfl, ho2, hb2⟩
  refine ⟨_, rfl, ?_⟩
  have hb2 : Below w.heap.size w w2 := hb2
  have ho2 : w2.ownsRow w.heap.size 5 1 (.slice A' 8 c') 8 (nums .u8 (be 8 (keyF x))) := ho2
  refine L.va rfl (X.assign (by conv => lhs; whnf)) ?_
  refine L.nil ?_
  -- ret
  refine J.ret ?_
  refine fin1 ?_
  exact ⟨A', c', rfl, ho2, hb2⟩
end Go.Proofs.Ytmnlaekcojblkaa
