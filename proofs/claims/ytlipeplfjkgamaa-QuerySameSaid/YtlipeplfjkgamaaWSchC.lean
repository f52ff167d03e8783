/-
  The full set of a schema, and keys counted, in the reference.
-/
import Derived.Test.YtlipeplfjkgamaaWSchB
import Derived.Test.YtlipeplfjkgamaaWMasks
namespace Go.Proofs.Ytlipeplfjkgamaa
set_option maxRecDepth 100000
open Go.RowKit H
set_option linter.unusedVariables false
theorem rfull_any (Ad : Option Addr) (nd cd : Nat) (v1 v2 v3 : Value) (w : World) (hnd : nd < 32) :
    Calls Try.prog 51 #[.agg #[.slice Ad nd cd, v1, v2, v3]] w fun e w' => e = .returned (.int .u32 ((2 ^ nd - 1 : Nat) : Int)) ∧ Ext w w' := by
  have hp : 1 ≤ 2 ^ nd ∧ 2 ^ nd ≤ 2 ^ 31 := ⟨Nat.pow_pos (by decide), Nat.pow_le_pow_right (by decide) (by omega)⟩
  have c1 := rtwo_any nd
  generalize 2 ^ nd = p at *
  have e : IntKind.u32.wrap ((p : Int) - 1) = ((p - 1 : Nat) : Int) := by rw [w32 (by omega)]; omega
  refine enter Try.func51 rfl (by kernel_rfl) ?_
  refine J.seq ?_
  refine J.region ?_
  -- box
  refine L.boxA (l := [_, _, _, _]) rfl rfl ?_
  intro b1 w1 hb1 hs1 hk1 he1
  refine L.va rfl (X.assign (by conv => lhs; whnf)) ?_
  refine L.nil ?_
  refine J.seq ?_
  refine J.region ?_
  refine L.va rfl (X.fieldAddr rfl Try.underlying49 rfl sz_45 (by decide)) ?_
  refine L.va rfl (X.load rfl sc_45 (by first | exact Ld.blk hk1 rfl)) ?_
  refine L.va rfl (X.len rfl Try.underlying45) ?_
  -- callfn bushel/bushelref11.Two
  refine L.call rfl en_96 rfl (c1 _ hnd) ?_
  rintro e _ ⟨rfl, rfl⟩
  refine ⟨_, rfl, ?_⟩
  refine L.va rfl (X.subw rfl rfl) ?_
  refine L.va rfl (X.assign (by conv => lhs; whnf)) ?_
  refine L.nil ?_
  -- ret
  refine J.ret ?_
  refine fin1 ?_
  rw [e]
  exact ⟨rfl, he1⟩
/-- how many keys a set has -/
def kyP (ds : List (ByteArray × Int)) (m : Nat) : Nat → Int
  | 0 => 1
  | i + 1 => if m.testBit i then kyP ds m i * (ds.getD i d0).2 else kyP ds m i
end Go.Proofs.Ytlipeplfjkgamaa
