/-
  Real numbers in the logic: how they compare, what they are less themselves, a new word that is no number; the order's key.
-/
import Derived.Test.YtmnlaekcojblkaaLogic
import Derived.Test.YtmnlaekcojblkaaTyps
import Derived.Test.YtmnlaekcojblkaaFloPlain
import Derived.Laws.FloatArith
import Derived.Laws.Cover2
import Derived.Laws.NewFold
import Derived.Laws.Externs
namespace Go.Proofs.Ytmnlaekcojblkaa
set_option maxRecDepth 100000
open Go.RowKit H
open Ieee
set_option linter.unusedVariables false
namespace Flo
def nanF (x : Nat) : Prop := inf < rg x
instance (x : Nat) : Decidable (nanF x) := Nat.decLt _ _
def eqF (a b : Nat) : Prop := ¬ nanF a ∧ ¬ nanF b ∧ od a = od b
instance (a b : Nat) : Decidable (eqF a b) := by unfold eqF; infer_instance
def ltF (a b : Nat) : Prop := ¬ nanF a ∧ ¬ nanF b ∧ od a < od b
instance (a b : Nat) : Decidable (ltF a b) := by unfold ltF; infer_instance
theorem ord_cases (a b : Nat) : (double.order a b = none ∧ (nanF a ∨ nanF b)) ∨ (double.order a b = some (compare (od a) (od b)) ∧ ¬ nanF a ∧ ¬ nanF b) := by
  by_cases h : nanF a ∨ nanF b
  · exact .inl ⟨order_nan h, h⟩
  · have h1 : ¬ nanF a := fun k => h (.inl k)
    have h2 : ¬ nanF b := fun k => h (.inr k)
    exact .inr ⟨order_is (Nat.not_lt.1 h1) (Nat.not_lt.1 h2), h1, h2⟩
theorem ord_eq (a b : Nat) : (FloatKind.f64.format.order a b == some .eq) = decide (eqF a b) := by
  show (double.order a b == some .eq) = _
  rcases ord_cases a b with ⟨h, k⟩ | ⟨h, k1, k2⟩
  · rw [h, decide_eq_false (fun hh : eqF a b => k.elim hh.1 hh.2.1)]; rfl
  · rw [h]
    by_cases he : od a = od b
    · rw [decide_eq_true (show eqF a b from ⟨k1, k2, he⟩), he, cmp_eq]; rfl
    · rw [decide_eq_false (fun hh : eqF a b => he hh.2.2)]
      cases hc : compare (od a) (od b) with
      | eq => exact absurd (cmp_eq_iff.1 hc) he
      | lt => rfl
      | gt => rfl
theorem ord_lt (a b : Nat) : (FloatKind.f64.format.order a b == some .lt) = decide (ltF a b) := by
  show (double.order a b == some .lt) = _
  rcases ord_cases a b with ⟨h, k⟩ | ⟨h, k1, k2⟩
  · rw [h, decide_eq_false (fun hh : ltF a b => k.elim hh.1 hh.2.1)]; rfl
  · rw [h]
    by_cases he : od a < od b
    · rw [decide_eq_true (show ltF a b from ⟨k1, k2, he⟩), cmp_lt he]; rfl
    · rw [decide_eq_false (fun hh : ltF a b => he hh.2.2)]
      cases hc : compare (od a) (od b) with
      | lt => exact absurd (cmp_lt_iff.1 hc) he
      | eq => rfl
      | gt => rfl
theorem signed_0 (s : Bool) (m : Nat) : signed s m 0 + signed (!s) m 0 = 0 := by
  unfold signed
  cases s <;> simp <;> omega
theorem sub_self {x : Nat} (h : rg x < inf) : double.sub x x = some 0 := by
  unfold Format.sub
  rw [read_fin h]
  simp only [Datum.opposite, Datum.sum, Int.min_self, Int.sub_self, Int.toNat_zero, signed_0]
  have hs : (sg x && !sg x) = false := by cases sg x <;> rfl
  simp only [if_true, hs, Int.natAbs_zero, Option.map_some, Format.write, Format.nearest]
  rfl
theorem sub_inf {x : Nat} (h : rg x = inf) : double.sub x x = none := by
  unfold Format.sub
  rw [read_inf h]
  have : sg x ≠ !sg x := by cases sg x <;> simp
  simp only [Datum.opposite, Datum.sum, if_neg this, Option.map_none]
theorem cut_nan (x y t : Nat) : nanF (Question.cut (.nanBits .f64 x y) t) := by
  show inf < ((t % 2) * 2 ^ 63 + 0x7ff0000000000000 + 1 + (t / 2) % (2 ^ 52 - 1)) % 9223372036854775808
  have h1 : t % 2 < 2 := Nat.mod_lt _ (by decide)
  have h2 : (t / 2) % (2 ^ 52 - 1) < 2 ^ 52 - 1 := Nat.mod_lt _ (by decide)
  have hi : inf = 9218868437227405312 := rfl
  generalize (t / 2) % (2 ^ 52 - 1) = r at h2 ⊢
  generalize t % 2 = c at h1 ⊢
  omega
end Flo
open Flo
namespace H
section
variable {P : Program} {n : Nat} {ops rest : List Oper} {Q : Exit → Fr → World → Prop} {f : Fr} {w w' : World} {o : Oper} {v : Value} {ρ : Operand → Value} {d : Option Tmp} {tx tz ty : TypeId} {x y : Operand} {pos : String} {aft : Array Edge} {g : Option (Nat × Bool)} {a b : Nat}
theorem X.eqlF (hx : ρ x = .float .f64 a) (hy : ρ y = .float .f64 b) : (execOp ρ ⟨d, .binOp .eql tx x y tz, ty, pos, aft, g⟩).run P w = .ok (.value (.bool (decide (eqF a b)))) w :=
  X.bin hx hy (by simp [go_sem]) (by rw [binOp_float_cmp_eql, ord_eq]; rfl)
theorem X.neqF (hx : ρ x = .float .f64 a) (hy : ρ y = .float .f64 b) : (execOp ρ ⟨d, .binOp .neq tx x y tz, ty, pos, aft, g⟩).run P w = .ok (.value (.bool (!decide (eqF a b)))) w :=
  X.bin hx hy (by simp [go_sem]) (by rw [binOp_float_cmp_neq, ← ord_eq]; rfl)
theorem X.lssF (hx : ρ x = .float .f64 a) (hy : ρ y = .float .f64 b) : (execOp ρ ⟨d, .binOp .lss tx x y tz, ty, pos, aft, g⟩).run P w = .ok (.value (.bool (decide (ltF a b)))) w :=
  X.bin hx hy (by simp [go_sem]) (by rw [binOp_float_cmp_lss, ord_lt]; rfl)
theorem X.subF {r : Nat} (hx : ρ x = .float .f64 a) (hy : ρ y = .float .f64 b) (h : double.sub a b = some r) : (execOp ρ ⟨d, .binOp .sub tx x y tz, ty, pos, aft, g⟩).run P w = .ok (.value (.float .f64 r)) w :=
  X.bin hx hy (by simp [go_sem]) (run_float_arith _ .sub tx .f64 a b r h)
theorem X.quoF {r : Nat} (hx : ρ x = .float .f64 a) (hy : ρ y = .float .f64 b) (h : double.div a b = some r) : (execOp ρ ⟨d, .binOp .quo tx x y tz, ty, pos, aft, g⟩).run P w = .ok (.value (.float .f64 r)) w :=
  X.bin hx hy (by simp [go_sem]) (run_float_arith _ .quo tx .f64 a b r h)
/-- a difference that no number is: some word that is none -/
theorem L.subNan {k : Nat} (hg : wn ops f g = true) (hx : ev f x = .float .f64 a) (hy : ev f y = .float .f64 b) (hn : double.sub a b = none)
    (h : ∀ c w', nanF c → Ext w w' → L P n ops Q rest (lk [(k, .float .f64 c)] f) w') : L P n ops Q (⟨some k, .binOp .sub tx x y tz, ty, pos, aft, g⟩ :: rest) f w := by
  refine L.val (w' := w.drew) (v := .float .f64 (Question.cut (.nanBits .f64 a b) (w.tape w.drawn (.nanBits .f64 a b)))) hg ?_ (h _ _ (cut_nan _ _ _) (Ext.drew w))
  have hn' : FloatKind.f64.format.sub a b = none := hn
  simp [execOp, hx, hy, go_sem, binOp, Op.floatArith, hn', Question.forced]
theorem X.xtrn {c : FuncId} {fn : Func} {e : Array Value → Sem Value} {l : List Operand} {ts : Array TypeId} {vs : List Value} (hf : P.funcs[c]? = some fn) (hname : (fn.name == "runtime.NumGoroutine") = false) (hb : fn.body.isNone = true) (hn : Extern.findNext fn = none) (he : Extern.find fn = some e)
    (hfn : ρ (.func c) = .func (.func c) #[] #[]) (hv : l.map ρ = vs) (hr : (e vs.toArray).run P w = .ok v w) : (execOp ρ ⟨d, .call { callee := .value (.func c), args := l.toArray, argTypes := ts }, ty, pos, aft, g⟩).run P w = .ok (.value v) w := by
  subst hv
  simp only [execOp, resolve, hfn, Deferred.ofValue, Sem.run_bind, Sem.run_pure, Result.andThen_ok, Go.invoke, List.map_toArray, Array.append_empty, Array.empty_append, run_callFunc_extern hf hname hb hn he, hr]
end
end H
end Go.Proofs.Ytmnlaekcojblkaa
