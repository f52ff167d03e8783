/-
  flo.Key and flo.Same; the reference's Kind, Below and Same.
-/
import Derived.Test.YtmnlaekcojblkaaFloLogic
import Derived.Laws.Bits64b
namespace Go.Proofs.Ytmnlaekcojblkaa
set_option maxRecDepth 100000
open Go.RowKit H
open Flo
set_option linter.unusedVariables false
namespace Flo
theorem eqF_self (x : Nat) : eqF x x ↔ ¬ nanF x := ⟨fun h => h.1, fun h => ⟨h, h, rfl⟩⟩
theorem od_z : od 0 = 0 := by decide
theorem nan0 : ¬ nanF 0 := by decide
theorem eq_0 (x : Nat) : eqF x 0 ↔ ¬ nanF x ∧ rg x = 0 := by
  unfold eqF
  rw [od_z]
  constructor
  · rintro ⟨h1, _, h3⟩
    refine ⟨h1, ?_⟩
    unfold od at h3
    split at h3 <;> omega
  · rintro ⟨h1, h2⟩
    refine ⟨h1, nan0, ?_⟩
    unfold od
    rw [h2]
    split <;> rfl
theorem lt_0 (x : Nat) : ltF x 0 ↔ ¬ nanF x ∧ sg x = true ∧ 0 < rg x := by
  unfold ltF
  rw [od_z]
  constructor
  · rintro ⟨h1, _, h3⟩
    unfold od at h3
    split at h3
    · rename_i hs; exact ⟨h1, hs, by omega⟩
    · omega
  · rintro ⟨h1, h2, h3⟩
    refine ⟨h1, nan0, ?_⟩
    unfold od
    rw [if_pos h2]
    omega
theorem split_w {x : Nat} (h : x < 18446744073709551616) : x = (if sg x then 9223372036854775808 else 0) + rg x := by
  unfold sg rg
  have : x / 9223372036854775808 % 2 = x / 9223372036854775808 := Nat.mod_eq_of_lt (by omega)
  rw [this]
  by_cases hs : x / 9223372036854775808 = 1
  · rw [hs]; simp; omega
  · have : x / 9223372036854775808 = 0 := by omega
    rw [this]; simp; omega
/-- nought, finite, infinite, none -/
def kindF (x : Nat) : Int := if nanF x then 3 else if rg x = 0 then 0 else if rg x = inf then 2 else 1
theorem kind3 (x : Nat) : kindF x = 3 ↔ nanF x := by
  unfold kindF
  split
  · rename_i h; simp [h]
  · rename_i h
    constructor
    · intro k; split at k <;> (try split at k) <;> simp at k
    · intro k; exact absurd k h
def belowF (x : Nat) : Bool := decide (¬ nanF x) && sg x
/-- the number's place in the order -/
def keyF (x : Nat) : Int := if nanF x then 18446744073709551615 else if sg x then 9223372036854775807 - (rg x : Int) else 9223372036854775808 + (rg x : Int)
def sameF (a b : Nat) : Bool := decide (keyF a = keyF b)
theorem keyF_bd (x : Nat) : 0 ≤ keyF x ∧ keyF x ≤ 18446744073709551615 := by
  have h := rg_lt x
  unfold keyF
  split
  · decide
  · split <;> omega
theorem same_nan {a b : Nat} (h : nanF a ∨ nanF b) : sameF a b = decide (kindF a = kindF b) := by
  have hi : inf = 9218868437227405312 := rfl
  have ha := rg_lt a
  have hb := rg_lt b
  unfold sameF keyF kindF
  have key : ∀ x : Nat, ¬ nanF x → (if sg x = true then 9223372036854775807 - (rg x : Int) else 9223372036854775808 + (rg x : Int)) < 18446744073709551615 := fun x hx => by have hx : rg x ≤ inf := Nat.not_lt.1 hx; split <;> omega
  have kin : ∀ x : Nat, (if rg x = 0 then (0 : Int) else if rg x = inf then 2 else 1) < 3 := fun x => by split <;> (try split) <;> decide
  by_cases h1 : nanF a
  · by_cases h2 : nanF b
    · rw [if_pos h1, if_pos h2, if_pos h1, if_pos h2]; rfl
    · have k1 := key b h2
      have k2 := kin b
      rw [if_pos h1, if_neg h2, if_pos h1, if_neg h2, decide_eq_false (by omega), decide_eq_false (by omega)]
  · have h2 : nanF b := h.resolve_left h1
    have k1 := key a h1
    have k2 := kin a
    rw [if_neg h1, if_pos h2, if_neg h1, if_pos h2, decide_eq_false (by omega), decide_eq_false (by omega)]
theorem same_num {a b : Nat} (h1 : ¬ nanF a) (h2 : ¬ nanF b) : sameF a b = (decide (eqF a b) && (belowF a == belowF b)) := by
  have ha := rg_lt a
  have hb := rg_lt b
  rw [Bool.eq_iff_iff]
  unfold sameF keyF belowF
  rw [if_neg h1, if_neg h2, decide_eq_true_iff, Bool.and_eq_true, decide_eq_true_iff, decide_eq_true h1, decide_eq_true h2]
  unfold eqF od
  cases hs : sg a <;> cases ht : sg b <;> simp [h1, h2] <;> omega
end Flo
namespace H
theorem X.andE {P : Program} {w : World} {ρ : Operand → Value} {d : Option Tmp} {tx tz ty : TypeId} {x y : Operand} {pos : String} {aft : Array Edge} {g : Option (Nat × Bool)} {k : IntKind} {m n z : Int} (hx : ρ x = .int k m) (hy : ρ y = .int k n) (h : bits .and k m n = z) : (execOp ρ ⟨d, .binOp .and tx x y tz, ty, pos, aft, g⟩).run P w = .ok (.value (.int k z)) w := by
  rw [← h]; exact X.and hx hy
end H
theorem and_63 {x : Nat} (hx : x < 18446744073709551616) : bits .and .u64 (x : Int) 9223372036854775807 = (rg x : Int) := by
  have h := bits_and_u64_nat x 9223372036854775807 hx (by decide)
  rw [show ((9223372036854775807 : Nat) : Int) = 9223372036854775807 from rfl] at h
  rw [h]
  exact congrArg Nat.cast (Nat.and_two_pow_sub_one_eq_mod x 63)
theorem shr_63 {x : Nat} (hx : x < 18446744073709551616) : (x : Int) / 2 ^ min ((63 : Int)).toNat IntKind.u64.bits = 1 ↔ sg x = true := by
  have e : (2 : Int) ^ min ((63 : Int)).toNat IntKind.u64.bits = 9223372036854775808 := by decide
  rw [e]
  unfold sg
  rw [beq_iff_eq]
  omega
theorem flo_key (x : Nat) (w : World) (hx : x < 18446744073709551616) : Calls Try.prog 128 #[.float .f64 x] w fun e w' => e = .returned (.int .u64 (keyF x)) ∧ w = w' := by
  have hsp := split_w hx
  have hrg := rg_lt x
  refine enter Try.func128 rfl (by kernel_rfl) ?_
  -- t8
  refine J.seq ?_
  refine J.region ?_
  refine L.va rfl (X.assign (by conv => lhs; whnf)) ?_
  refine L.nil ?_
  refine J.seq ?_
  refine J.seq ?_
  refine J.region ?_
  refine L.va rfl (X.move (by conv => lhs; whnf)) ?_
  refine L.va rfl (X.move (by conv => lhs; whnf)) ?_
  refine L.va rfl (X.neqF rfl rfl) ?_
  refine L.nil ?_
  -- cond
  refine J.ndec rfl (fun hn => ?_) (fun hn => ?_)
  · rw [eqF_self] at hn
    have e : keyF x = 18446744073709551615 := by unfold keyF; rw [if_pos (Decidable.not_not.1 hn)]
    rw [e]
    refine J.seq ?_
    refine J.region ?_
    refine L.va rfl (X.assign (by conv => lhs; whnf)) ?_
    refine L.nil ?_
    -- ret
    refine J.ret ?_
    refine thn_ret <| ?_
    refine fin1 ?_
    exact ⟨rfl, rfl⟩
  · rw [eqF_self] at hn
    have e : keyF x = if sg x then 9223372036854775807 - (rg x : Int) else 9223372036854775808 + (rg x : Int) := by unfold keyF; rw [if_neg hn]
    rw [e]
    refine J.skip ?_
    refine J.seq ?_
    refine J.region ?_
    refine L.va rfl (X.move (by conv => lhs; whnf)) ?_
    refine L.va rfl (X.xtrn (e := Go.Extern.MathFloatBits.float64bits) (v := .int .u64 (x : Int)) Try.func167 (by kernel_rfl) (by kernel_rfl) (by kernel_rfl) (by kernel_rfl) rfl rfl (by rfl)) ?_
    refine L.va rfl (X.assign (by conv => lhs; whnf)) ?_
    refine L.nil ?_
    refine J.seq ?_
    refine J.seq ?_
    refine J.region ?_
    refine L.va rfl (X.move (by conv => lhs; whnf)) ?_
    refine L.va rfl (X.shr rfl rfl (by omega)) ?_
    refine L.va rfl (X.eql rfl rfl) ?_
    refine L.nil ?_
    -- cond
    -- t13
    refine J.dec rfl (fun hs => ?_) (fun hs => ?_)
    · rw [if_pos ((shr_63 hx).1 hs)]
      refine J.seq ?_
      refine J.region ?_
      refine L.va rfl (X.move (by conv => lhs; whnf)) ?_
      refine L.va rfl (X.andE rfl rfl (and_63 hx)) ?_
      refine L.va rfl (X.subU rfl rfl (by omega)) ?_
      refine L.va rfl (X.assign (by conv => lhs; whnf)) ?_
      refine L.nil ?_
      -- ret
      refine J.ret ?_
      refine thn_ret <| ?_
      refine fin1 ?_
      exact ⟨rfl, rfl⟩
    · have hs : ¬ sg x = true := fun h => hs ((shr_63 hx).2 h)
      rw [if_neg hs]
      rw [if_neg hs] at hsp
      have ex : (x : Int) = (rg x : Int) := by omega
      refine J.skip ?_
      refine J.seq ?_
      refine J.region ?_
      refine L.va rfl (X.move (by conv => lhs; whnf)) ?_
      refine L.va rfl (X.addU rfl rfl (by omega)) ?_
      refine L.va rfl (X.assign (by conv => lhs; whnf)) ?_
      refine L.nil ?_
      -- ret
      refine J.ret ?_
      refine fin1 ?_
      exact ⟨by rw [← ex]; rfl, rfl⟩
theorem flo_same (a b : Nat) (w : World) (ha : a < 18446744073709551616) (hb : b < 18446744073709551616) : Calls Try.prog 134 #[.float .f64 a, .float .f64 b] w fun e w' => e = .returned (.bool (sameF a b)) ∧ w = w' := by
  refine enter Try.func134 rfl (by kernel_rfl) ?_
  refine J.seq ?_
  refine J.region ?_
  refine L.va rfl (X.assign (by conv => lhs; whnf)) ?_
  refine L.nil ?_
  refine J.seq ?_
  refine J.region ?_
  refine L.va rfl (X.move (by conv => lhs; whnf)) ?_
  -- callfn bushel/flo.Key
  refine L.call rfl en_128 rfl (flo_key a w ha) ?_
  rintro e _ ⟨rfl, rfl⟩
  refine ⟨_, rfl, ?_⟩
  refine L.va rfl (X.move (by conv => lhs; whnf)) ?_
  -- callfn bushel/flo.Key
  refine L.call rfl en_128 rfl (flo_key b w hb) ?_
  rintro e _ ⟨rfl, rfl⟩
  refine ⟨_, rfl, ?_⟩
  refine L.va rfl (X.eql rfl rfl) ?_
  refine L.va rfl (X.assign (by conv => lhs; whnf)) ?_
  refine L.nil ?_
  -- ret
  refine J.ret ?_
  refine fin1 ?_
  exact ⟨rfl, rfl⟩
theorem kind03 (x : Nat) (w : World) : Calls Try.prog 168 #[.float .f64 x] w fun e w' => e = .returned (.int .i64 (kindF x)) ∧ Ext w w' := by
  refine enter Try.func168 rfl (by kernel_rfl) ?_
  refine J.seq ?_
  refine J.region ?_
  refine L.va rfl (X.assign (by conv => lhs; whnf)) ?_
  refine L.nil ?_
  refine J.seq ?_
  refine J.seq ?_
  refine J.region ?_
  refine L.va rfl (X.move (by conv => lhs; whnf)) ?_
  refine L.va rfl (X.move (by conv => lhs; whnf)) ?_
  refine L.va rfl (X.neqF rfl rfl) ?_
  refine L.nil ?_
  -- cond
  refine J.ndec rfl (fun h1 => ?_) (fun h1 => ?_)
  · rw [eqF_self] at h1
    have e : kindF x = 3 := by unfold kindF; rw [if_pos (Decidable.not_not.1 h1)]
    rw [e]
    refine J.seq ?_
    refine J.region ?_
    refine L.va rfl (X.assign (by conv => lhs; whnf)) ?_
    refine L.nil ?_
    -- ret
    refine J.ret ?_
    refine thn_ret <| ?_
    refine fin1 ?_
    exact ⟨rfl, Ext.refl _⟩
  · rw [eqF_self] at h1
    have hle : rg x ≤ inf := Nat.not_lt.1 h1
    refine J.skip ?_
    refine J.seq ?_
    refine J.seq ?_
    refine J.region ?_
    refine L.va rfl (X.move (by conv => lhs; whnf)) ?_
    refine L.va rfl (X.eqlF rfl rfl) ?_
    refine L.nil ?_
    -- cond
    refine J.dec rfl (fun h2 => ?_) (fun h2 => ?_)
    · rw [eq_0] at h2
      have e : kindF x = 0 := by unfold kindF; rw [if_neg h1, if_pos h2.2]
      rw [e]
      refine J.seq ?_
      refine J.region ?_
      refine L.va rfl (X.assign (by conv => lhs; whnf)) ?_
      refine L.nil ?_
      -- ret
      refine J.ret ?_
      refine thn_ret <| ?_
      refine fin1 ?_
      exact ⟨rfl, Ext.refl _⟩
    · rw [eq_0] at h2
      have h2' : rg x ≠ 0 := fun h => h2 ⟨h1, h⟩
      by_cases h3 : rg x = inf
      · have e : kindF x = 2 := by unfold kindF; rw [if_neg h1, if_neg h2', if_pos h3]
        rw [e]
        refine J.skip ?_
        refine J.seq ?_
        refine J.seq ?_
        refine J.region ?_
        refine L.va rfl (X.move (by conv => lhs; whnf)) ?_
        refine L.va rfl (X.move (by conv => lhs; whnf)) ?_
        -- binOp
        refine L.subNan rfl rfl rfl (sub_inf h3) ?_
        intro c w1 hc he1
        refine L.va rfl (X.neqF rfl rfl) ?_
        refine L.nil ?_
        -- cond
        refine J.ndecT rfl (by exact fun h => h.1 hc) ?_
        refine J.seq ?_
        refine J.region ?_
        refine L.va rfl (X.assign (by conv => lhs; whnf)) ?_
        refine L.nil ?_
        -- ret
        refine J.ret ?_
        refine thn_ret <| ?_
        refine fin1 ?_
        exact ⟨rfl, he1⟩
      · have e : kindF x = 1 := by unfold kindF; rw [if_neg h1, if_neg h2', if_neg h3]
        rw [e]
        -- t10
        refine J.skip ?_
        refine J.seq ?_
        refine J.seq ?_
        refine J.region ?_
        refine L.va rfl (X.move (by conv => lhs; whnf)) ?_
        refine L.va rfl (X.move (by conv => lhs; whnf)) ?_
        refine L.va rfl (X.subF rfl rfl (sub_self (by omega))) ?_
        refine L.va rfl (X.neqF rfl rfl) ?_
        refine L.nil ?_
        -- cond
        refine J.ndecF rfl (by exact (eq_0 0).2 ⟨nan0, by decide⟩) ?_
        refine J.skip ?_
        refine J.seq ?_
        refine J.region ?_
        refine L.va rfl (X.assign (by conv => lhs; whnf)) ?_
        refine L.nil ?_
        -- ret
        refine J.ret ?_
        refine fin1 ?_
        exact ⟨rfl, Ext.refl _⟩
theorem below03 (x : Nat) (w : World) (hx : x < 18446744073709551616) : Calls Try.prog 169 #[.float .f64 x] w fun e w' => e = .returned (.bool (belowF x)) ∧ w = w' := by
  have hsp := split_w hx
  refine enter Try.func169 rfl (by kernel_rfl) ?_
  refine J.seq ?_
  refine J.region ?_
  refine L.va rfl (X.assign (by conv => lhs; whnf)) ?_
  refine L.nil ?_
  refine J.seq ?_
  refine J.region ?_
  refine L.va rfl (X.move (by conv => lhs; whnf)) ?_
  refine L.va rfl (X.lssF rfl rfl) ?_
  refine L.va rfl (X.move (by conv => lhs; whnf)) ?_
  -- case t5
  refine L.caseDec (k := 5) rfl (fun h1 => ?_) (fun h1 => ?_)
  · rw [lt_0] at h1
    have e : belowF x = true := by unfold belowF; rw [decide_eq_true h1.1, h1.2.1]; rfl
    rw [e]
    refine L.no rfl ?_
    refine L.no rfl ?_
    refine L.no rfl ?_
    refine L.no rfl ?_
    refine L.no rfl ?_
    refine L.no rfl ?_
    refine L.no rfl ?_
    refine L.va rfl (X.pickT rfl (by conv => lhs; whnf)) ?_
    refine L.va rfl (X.assign (by conv => lhs; whnf)) ?_
    refine L.nil ?_
    -- ret
    refine J.ret ?_
    refine fin1 ?_
    exact ⟨rfl, rfl⟩
  · rw [lt_0] at h1
    refine L.va rfl (X.move (by conv => lhs; whnf)) ?_
    refine L.va rfl (X.eqlF rfl rfl) ?_
    refine L.va rfl (X.move (by conv => lhs; whnf)) ?_
    -- case t8
    refine L.caseDec (k := 8) rfl (fun h2 => ?_) (fun h2 => ?_)
    · rw [eq_0] at h2
      rw [h2.2] at hsp
      by_cases hs : sg x = true
      · rw [if_pos hs] at hsp
        have e : belowF x = true := by unfold belowF; rw [decide_eq_true h2.1, hs]; rfl
        rw [e]
        subst hsp
        -- t10
        refine L.va rfl (X.move (by conv => lhs; whnf)) ?_
        refine L.va rfl (X.quoF (r := 18442240474082181120) rfl rfl (by decide)) ?_
        refine L.va rfl (X.lssF rfl rfl) ?_
        refine L.va rfl (X.pickT rfl (by conv => lhs; whnf)) ?_
        refine L.va rfl (X.pickF rfl (by conv => lhs; whnf)) ?_
        refine L.va rfl (X.assign (by conv => lhs; whnf)) ?_
        refine L.nil ?_
        -- ret
        refine J.ret ?_
        refine fin1 ?_
        exact ⟨rfl, rfl⟩
      · rw [if_neg hs] at hsp
        have e : belowF x = false := by unfold belowF; rw [Bool.not_eq_true] at hs; rw [hs, Bool.and_false]
        rw [e]
        subst hsp
        -- t10
        refine L.va rfl (X.move (by conv => lhs; whnf)) ?_
        refine L.va rfl (X.quoF (r := 9218868437227405312) rfl rfl (by decide)) ?_
        refine L.va rfl (X.lssF rfl rfl) ?_
        refine L.va rfl (X.pickT rfl (by conv => lhs; whnf)) ?_
        refine L.va rfl (X.pickF rfl (by conv => lhs; whnf)) ?_
        refine L.va rfl (X.assign (by conv => lhs; whnf)) ?_
        refine L.nil ?_
        -- ret
        refine J.ret ?_
        refine fin1 ?_
        exact ⟨rfl, rfl⟩
    · rw [eq_0] at h2
      have e : belowF x = false := by
        unfold belowF
        by_cases hn : nanF x
        · rw [decide_eq_false (fun h => h hn)]; rfl
        · have : sg x = false := by
            cases hs : sg x
            · rfl
            · exact absurd ⟨hn, hs, Nat.pos_of_ne_zero (fun h => h2 ⟨hn, h⟩)⟩ h1
          rw [this, Bool.and_false]
      rw [e]
      refine L.no rfl ?_
      refine L.no rfl ?_
      refine L.no rfl ?_
      refine L.va rfl (X.pickF rfl (by conv => lhs; whnf)) ?_
      refine L.va rfl (X.pickF rfl (by conv => lhs; whnf)) ?_
      refine L.va rfl (X.assign (by conv => lhs; whnf)) ?_
      refine L.nil ?_
      -- ret
      refine J.ret ?_
      refine fin1 ?_
      exact ⟨rfl, rfl⟩
theorem same03 (a b : Nat) (w : World) (ha : a < 18446744073709551616) (hb : b < 18446744073709551616) : Calls Try.prog 135 #[.float .f64 a, .float .f64 b] w fun e w' => e = .returned (.bool (sameF a b)) ∧ Ext w w' := by
  refine enter Try.func135 rfl (by kernel_rfl) ?_
  refine J.seq ?_
  refine J.region ?_
  refine L.va rfl (X.assign (by conv => lhs; whnf)) ?_
  refine L.nil ?_
  refine J.seq ?_
  refine J.seq ?_
  refine J.region ?_
  refine L.va rfl (X.move (by conv => lhs; whnf)) ?_
  -- callfn bushel/bushelref03.Kind
  refine L.call rfl en_168 rfl (kind03 a w) ?_
  rintro e w1 ⟨rfl, he1⟩
  refine ⟨_, rfl, ?_⟩
  refine L.va rfl (X.eql rfl rfl) ?_
  refine L.va rfl (X.move (by conv => lhs; whnf)) ?_
  -- case t8
  refine L.caseDec (k := 8) rfl (fun h1 => ?_) (fun h1 => ?_)
  · rw [kind3] at h1
    rw [same_nan (.inl h1)]
    refine L.no rfl ?_
    refine L.no rfl ?_
    refine L.no rfl ?_
    refine L.va rfl (X.pickT rfl (by conv => lhs; whnf)) ?_
    refine L.nil ?_
    -- cond
    refine J.iteT rfl ?_
    refine J.seq ?_
    refine J.region ?_
    refine L.va rfl (X.move (by conv => lhs; whnf)) ?_
    -- callfn bushel/bushelref03.Kind
    refine L.call rfl en_168 rfl (kind03 a w1) ?_
    rintro e w2 ⟨rfl, he2⟩
    refine ⟨_, rfl, ?_⟩
    refine L.va rfl (X.move (by conv => lhs; whnf)) ?_
    -- callfn bushel/bushelref03.Kind
    refine L.call rfl en_168 rfl (kind03 b w2) ?_
    rintro e w3 ⟨rfl, he3⟩
    refine ⟨_, rfl, ?_⟩
    refine L.va rfl (X.eql rfl rfl) ?_
    refine L.va rfl (X.assign (by conv => lhs; whnf)) ?_
    refine L.nil ?_
    -- ret
    refine J.ret ?_
    refine thn_ret <| ?_
    refine fin1 ?_
    exact ⟨rfl, (he1.trans he2).trans he3⟩
  · rw [kind3] at h1
    refine L.va rfl (X.move (by conv => lhs; whnf)) ?_
    -- callfn bushel/bushelref03.Kind
    refine L.call rfl en_168 rfl (kind03 b w1) ?_
    rintro e w2 ⟨rfl, he2⟩
    refine ⟨_, rfl, ?_⟩
    refine L.va rfl (X.eql rfl rfl) ?_
    refine L.va rfl (X.pickF rfl (by conv => lhs; whnf)) ?_
    refine L.nil ?_
    -- cond
    refine J.dec rfl (fun h2 => ?_) (fun h2 => ?_)
    · rw [kind3] at h2
      rw [same_nan (.inr h2)]
      refine J.seq ?_
      refine J.region ?_
      refine L.va rfl (X.move (by conv => lhs; whnf)) ?_
      -- callfn bushel/bushelref03.Kind
      refine L.call rfl en_168 rfl (kind03 a w2) ?_
      rintro e w3 ⟨rfl, he3⟩
      refine ⟨_, rfl, ?_⟩
      refine L.va rfl (X.move (by conv => lhs; whnf)) ?_
      -- callfn bushel/bushelref03.Kind
      refine L.call rfl en_168 rfl (kind03 b w3) ?_
      rintro e w4 ⟨rfl, he4⟩
      refine ⟨_, rfl, ?_⟩
      refine L.va rfl (X.eql rfl rfl) ?_
      refine L.va rfl (X.assign (by conv => lhs; whnf)) ?_
      refine L.nil ?_
      -- ret
      refine J.ret ?_
      refine thn_ret <| ?_
      refine fin1 ?_
      exact ⟨rfl, ((he1.trans he2).trans he3).trans he4⟩
    · rw [kind3] at h2
      rw [same_num h1 h2]
      refine J.skip ?_
      refine J.seq ?_
      refine J.region ?_
      refine L.va rfl (X.move (by conv => lhs; whnf)) ?_
      refine L.va rfl (X.move (by conv => lhs; whnf)) ?_
      refine L.va rfl (X.eqlF rfl rfl) ?_
      refine L.va rfl (X.move (by conv => lhs; whnf)) ?_
      -- case t21
      refine L.caseDec (k := 21) rfl (fun h3 => ?_) (fun h3 => ?_)
      · rw [decide_eq_true h3]
        refine L.va rfl (X.move (by conv => lhs; whnf)) ?_
        -- callfn bushel/bushelref03.Below
        refine L.call rfl en_169 rfl (below03 a w2 ha) ?_
        rintro e _ ⟨rfl, rfl⟩
        refine ⟨_, rfl, ?_⟩
        refine L.va rfl (X.move (by conv => lhs; whnf)) ?_
        -- callfn bushel/bushelref03.Below
        refine L.call rfl en_169 rfl (below03 b w2 hb) ?_
        rintro e _ ⟨rfl, rfl⟩
        refine ⟨_, rfl, ?_⟩
        refine L.va rfl (X.eqlB rfl rfl Try.underlying4) ?_
        refine L.va rfl (X.pickT rfl (by conv => lhs; whnf)) ?_
        refine L.va rfl (X.assign (by conv => lhs; whnf)) ?_
        refine L.nil ?_
        -- ret
        refine J.ret ?_
        refine fin1 ?_
        exact ⟨by rw [Bool.true_and]; rfl, he1.trans he2⟩
      · rw [decide_eq_false h3]
        refine L.no rfl ?_
        refine L.no rfl ?_
        refine L.no rfl ?_
        refine L.no rfl ?_
        refine L.no rfl ?_
        refine L.va rfl (X.pickF rfl (by conv => lhs; whnf)) ?_
        refine L.va rfl (X.assign (by conv => lhs; whnf)) ?_
        refine L.nil ?_
        -- ret
        refine J.ret ?_
        refine fin1 ?_
        exact ⟨rfl, he1.trans he2⟩
end Go.Proofs.Ytmnlaekcojblkaa
