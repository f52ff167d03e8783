/-
  What changes blocks of one type alone.
-/
import Derived.Test.YtlipeplfjkgamaaLogic
import Derived.Test.YtlipeplfjkgamaaAux
namespace Go.Proofs.Ytlipeplfjkgamaa
open Go.RowKit H
set_option linter.unusedVariables false
/-- a block of a type -/
def OfT (w : World) (t g : Nat) : Prop := ∃ cs, Blk w g t cs
theorem Blk.ofT {w : World} {g t : Nat} {cs : Array Value} (h : Blk w g t cs) : OfT w t g := ⟨cs, h⟩
theorem OfT.one {w : World} {g t t' : Nat} (h : OfT w t g) (h' : OfT w t' g) : t = t' := by
  obtain ⟨cs, h⟩ := h
  obtain ⟨cs', h'⟩ := h'
  unfold Blk at h h'
  rw [h] at h'
  injection h' with h'
  injection h'
theorem own_ofT {w : World} {base e size n : Nat} {v : Value} {xs : List Value} (h : w.ownsRow base e size v n xs) {g : Nat} (hg : v.ownBlock = some g) : OfT w e g ∧ base ≤ g := by
  rcases h.2 with ⟨rfl, _⟩ | ⟨b, cap, cur, rfl, hb, hh, _⟩
  · cases hg
  · obtain rfl : b = g := by injection hg
    exact ⟨⟨cur, hh⟩, hb⟩
/-- blocks of one type change, and new ones come -/
def TCh (t : Nat) (w w' : World) : Prop := Chg (OfT w t) w w'
namespace TCh
variable {w w' : World} {t : Nat} {rw0 : Option Nat}
theorem grown (hg : w.grownBy w' rw0) (h : ∀ g, rw0 = some g → OfT w t g) : TCh t w w' := Chg.of_grown hg h
theorem row {base size n : Nat} {v : Value} {xs : List Value} (ho : w.ownsRow base t size v n xs) (hg : w.grownBy w' v.ownBlock) : TCh t w w' := grown hg fun g e => (own_ofT ho e).1
theorem put {b : Nat} {cs : Array Value} (hk : Blk w b t cs) (hg : w.grownBy w' (some b)) : TCh t w w' := grown hg fun g e => by injection e with e; subst e; exact hk.ofT
theorem ext (he : Ext w w') : TCh t w w' := Chg.of_ext he
theorem own {base e size n : Nat} {v : Value} {xs : List Value} (hC : TCh t w w') (ho : w.ownsRow base e size v n xs) (hne : e ≠ t) : w'.ownsRow base e size v n xs :=
  Chg.own hC ho fun g hg hS => hne ((own_ofT ho hg).1.one hS)
theorem blk {g e : Nat} {cs : Array Value} (hC : TCh t w w') (hb : Blk w g e cs) (hne : e ≠ t) : Blk w' g e cs := Chg.blk hC hb fun hS => hne (hb.ofT.one hS)
theorem size (hC : TCh t w w') : w.heap.size ≤ w'.heap.size := Chg.size hC
end TCh
end Go.Proofs.Ytlipeplfjkgamaa
