/-
  Structs of two fields compared.
-/
import Derived.Test.YtdmfikedojgjbaaTyps
import Derived.Test.YtdmfikedojgjbaaHoaH
import Derived.Laws.StructEq
namespace Go.Proofs.Ytdmfikedojgjbaa
set_option maxRecDepth 100000
open Go.RowKit H
set_option linter.unusedVariables false
namespace H
section
variable {P : Program} {w : World} {d : Option Tmp} {ty t tx tz t1 t2 : TypeId} {pos : String} {aft : Array Edge} {g : Option (Nat × Bool)} {x y : Operand} {ρ : Operand → Value}
/-- a struct of two fields of one cell each -/
structure Two (P : Program) (t t1 t2 : TypeId) : Prop where
  ht : P.underlying t = some (.struct (P.fieldsOf t))
  hp : P.stoodInHeld t = false
  hm : P.eqGuardType P.depth t = false
  hf : (P.fieldsOf t).toList.map (fun f => (f.name != "_", f.type, f.offset)) = [(true, t1, 0), (true, t2, 1)]
theorem Two.eq (h : Two P t t1 t2) {a1 a2 b1 b2 : Value} {r1 r2 : Bool} (h1 : ∀ w : World, (Op.equalIn 9999 t1 a1 b1).run P w = .ok r1 w) (h2 : ∀ w : World, (Op.equalIn 9999 t2 a2 b2).run P w = .ok r2 w) (s1 : Scal P t1) (s2 : Scal P t2) :
    (Op.equalIn 10000 t (.agg #[a1, a2]) (.agg #[b1, b2])).run P w = .ok (r1 && r2) w := by
  rw [run_equalIn_agg w 9999 t _ _ h.ht h.hp]
  have hf := h.hf
  generalize (P.fieldsOf t).toList = fs at hf
  obtain ⟨f1, f2, rfl⟩ : ∃ f1 f2, fs = [f1, f2] := by
    rcases fs with _ | ⟨f1, _ | ⟨f2, _ | ⟨f3, fs⟩⟩⟩
    · cases hf
    · simp at hf
    · exact ⟨f1, f2, rfl⟩
    · simp at hf
  · simp only [List.map_cons, List.map_nil, List.cons.injEq, Prod.mk.injEq, and_true] at hf
    obtain ⟨⟨n1, rfl, o1⟩, n2, rfl, o2⟩ := hf
    have n1' : f1.name ≠ "_" := by simpa using n1
    have n2' : f2.name ≠ "_" := by simpa using n2
    have p1 : ∀ (u v : Value) (w : World), (part f1.type #[u, v] f1.offset).run P w = .ok u w := fun u v w => by
      rw [o1]
      simp [part, s1 w, Result.andThen]
    have p2 : ∀ (u v : Value) (w : World), (part f2.type #[u, v] f2.offset).run P w = .ok v w := fun u v w => by
      rw [o2]
      simp [part, s2 w, Result.andThen]
    cases r1 <;> cases r2 <;> simp [Op.eqFields, n1', n2', p1, p2, h1, h2, Result.andThen]
theorem X.eqlTwo {a1 a2 b1 b2 : Value} {r1 r2 : Bool} (h : Two P tx t1 t2) (hx : ρ x = .agg #[a1, a2]) (hy : ρ y = .agg #[b1, b2]) (s1 : Scal P t1) (s2 : Scal P t2) (h1 : ∀ w : World, (Op.equalIn 9999 t1 a1 b1).run P w = .ok r1 w) (h2 : ∀ w : World, (Op.equalIn 9999 t2 a2 b2).run P w = .ok r2 w) :
    (execOp ρ ⟨d, .binOp .eql tx x y tz, ty, pos, aft, g⟩).run P w = .ok (.value (.bool (r1 && r2))) w := by
  simp only [execOp, hx, hy, Sem.run_bind, run_eqGuard_agg w .eql tx x y _ _ h.hm, Result.andThen_ok, run_eql_struct, h.eq h1 h2 s1 s2, Sem.run_pure]
theorem X.neqTwo {a1 a2 b1 b2 : Value} {r1 r2 : Bool} (h : Two P tx t1 t2) (hx : ρ x = .agg #[a1, a2]) (hy : ρ y = .agg #[b1, b2]) (s1 : Scal P t1) (s2 : Scal P t2) (h1 : ∀ w : World, (Op.equalIn 9999 t1 a1 b1).run P w = .ok r1 w) (h2 : ∀ w : World, (Op.equalIn 9999 t2 a2 b2).run P w = .ok r2 w) :
    (execOp ρ ⟨d, .binOp .neq tx x y tz, ty, pos, aft, g⟩).run P w = .ok (.value (.bool (!(r1 && r2)))) w := by
  simp only [execOp, hx, hy, Sem.run_bind, run_eqGuard_agg w .neq tx x y _ _ h.hm, Result.andThen_ok, run_neq_struct, h.eq h1 h2 s1 s2, Sem.run_pure]
theorem eq_int {k : IntKind} {a b : Int} (h : P.underlying t = some (.int k)) : ∀ w : World, (Op.equalIn 9999 t (.int k a) (.int k b)).run P w = .ok (a == b) w := fun w => run_equalIn_int w 9998 t k k a b h
theorem eq_str {a b : ByteArray} (h : P.underlying t = some .string) : ∀ w : World, (Op.equalIn 9999 t (.string a) (.string b)).run P w = .ok (decide (a = b)) w := fun w => by
  rw [run_equalIn_string w 9998 t a b h, str_dec]
/-- one text behind another -/
theorem X.addS {a b : ByteArray} (hx : ρ x = .string a) (hy : ρ y = .string b) (h : a.size + b.size ≤ 9223372036854775807) : (execOp ρ ⟨d, .binOp .add tx x y tz, ty, pos, aft, g⟩).run P w = .ok (.value (.string (a ++ b))) w := by
  refine X.bin hx hy (by simp [go_sem]) ?_
  simp only [binOp, Op.stringOp]
  rw [if_neg (by simp [IntKind.max, IntKind.signed, IntKind.bits]; omega)]
  rfl
end
end H
end Go.Proofs.Ytdmfikedojgjbaa
