/-
  The logic's eighth part: calls of a function value, of an interface's method; interface values made and asserted.
-/
import Derived.Test.YtdmfikedojgjbaaHoaG
namespace Go.Proofs.Ytdmfikedojgjbaa.H
open Go.RowKit Go.Proofs.Ytdmfikedojgjbaa
set_option linter.unusedSimpArgs false
set_option linter.unusedVariables false
section
variable {P : Program} {n : Nat} {ops rest l : List Oper} {Q : Exit → Fr → World → Prop} {f : Fr} {w w' : World} {d : Option Tmp} {ty : TypeId} {pos : String} {aft : Array Edge} {g : Option (Nat × Bool)} {x y z o : Operand} {v u p rv : Value} {t e tx tz : TypeId} {name : String}
/-- a call of a function value -/
theorem X.enterV {ρ : Operand → Value} {c : FuncId} {l : List Operand} {ts : Array TypeId} {vs : List Value} (he : Ent P c) (hfn : ρ o = .func (.func c) #[] #[]) (hv : l.map ρ = vs) : (execOp ρ ⟨d, .call { callee := .value o, args := l.toArray, argTypes := ts }, ty, pos, aft, g⟩).run P w = .ok (.enter c vs.toArray) w := by
  subst hv
  simp only [execOp, resolve, hfn, Deferred.ofValue, Sem.run_bind, Sem.run_pure, Result.andThen_ok, invoke, List.map_toArray, Array.append_empty, Array.empty_append, he.run]
theorem L.callV {c : FuncId} {l : List Operand} {vs : List Value} {ts : Array TypeId} {R : Ending → World → Prop} (hg : wn ops f g = true) (he : Ent P c) (hfn : ev f o = .func (.func c) #[] #[]) (hv : l.map (ev f) = vs) (hc : Calls P c vs.toArray w R)
    (h : ∀ e w', R e w' → ∃ v, e = .returned v ∧ L P n ops Q rest (putO f d v) w') : L P n ops Q (⟨d, .call { callee := .value o, args := l.toArray, argTypes := ts }, ty, pos, aft, g⟩ :: rest) f w :=
  L.enter hg (X.enterV he hfn hv) hc h
theorem Qt.callV {C : World → Prop} {Q : Fr → Prop} {k : Nat} {c : FuncId} {l : List Operand} {vs : List Value} {ts : Array TypeId} (hg : wn ops f g = true) (he : Ent P c) (hfn : ev f o = .func (.func c) #[] #[]) (hv : l.map (ev f) = vs) (hc : ∀ w', C w' → Calls P c vs.toArray w' fun e w'' => e = .returned v ∧ C w'') (h : Qt P n ops C Q rest (lk [(k, v)] f)) :
    Qt P n ops C Q (⟨some k, .call { callee := .value o, args := l.toArray, argTypes := ts }, ty, pos, aft, g⟩ :: rest) f := by
  intro hf a hr
  simp only [List.all_cons, Bool.and_eq_true] at hf
  unfold wpQuiet
  rw [wanted_eq hr, if_pos hg]
  refine ⟨v, fun w' hw' => ?_, h hf.2 _ (hr.put (d := some k) v hf.1)⟩
  unfold Oper.quietAt
  rw [hr.eval, X.enterV he hfn hv]
  exact ⟨rfl, hc w' hw'⟩
/-- how a method is reached -/
def Mtd (P : Program) (t : TypeId) (v rv : Value) (name : String) (c : FuncId) (w : World) : Prop := ∀ args, (callMethod (.iface t v) name args).run P w = .ok (.enter c (#[rv] ++ args)) w
theorem X.invoke {ρ : Operand → Value} {c : FuncId} {l : List Operand} {ts : Array TypeId} {vs : List Value} (hx : ρ x = .iface t v) (hm : Mtd P t v rv name c w) (hv : l.map ρ = vs) : (execOp ρ ⟨d, .call { callee := .invoke x name, args := l.toArray, argTypes := ts }, ty, pos, aft, g⟩).run P w = .ok (.enter c (rv :: vs).toArray) w := by
  subst hv
  have e : ((#[Value.iface t v] ++ (l.map ρ).toArray).extract 1 (#[Value.iface t v] ++ (l.map ρ).toArray).size) = (l.map ρ).toArray := by
    apply Array.ext'
    simp [List.take_of_length_le]
  have e2 : (#[rv] ++ (l.map ρ).toArray) = (rv :: l.map ρ).toArray := by
    apply Array.ext'
    simp
  have h0 : (#[Value.iface t v] ++ (l.map ρ).toArray)[0]? = some (Value.iface t v) := by simp
  simp only [execOp, resolve, hx, Sem.run_bind, Sem.run_pure, Result.andThen_ok, Go.invoke, List.map_toArray, h0, e]
  rw [hm, e2]
theorem L.invoke {c : FuncId} {l : List Operand} {vs : List Value} {ts : Array TypeId} {R : Ending → World → Prop} (hg : wn ops f g = true) (hx : ev f x = .iface t v) (hm : Mtd P t v rv name c w) (hv : l.map (ev f) = vs) (hc : Calls P c (rv :: vs).toArray w R)
    (h : ∀ e w', R e w' → ∃ v, e = .returned v ∧ L P n ops Q rest (putO f d v) w') : L P n ops Q (⟨d, .call { callee := .invoke x name, args := l.toArray, argTypes := ts }, ty, pos, aft, g⟩ :: rest) f w :=
  L.enter hg (X.invoke hx hm hv) hc h
/-- a type's method, as its table has it -/
def Has (P : Program) (t : TypeId) (name : String) (c : FuncId) (ptr : Bool) : Prop := ((P.info? t).bind fun i => (i.methods.find? fun m => m.name == name).map fun m => (m.path.toList, m.func)) = some ([], some (c, ptr))
theorem Has.run {c : FuncId} {b : Bool} (h : Has P t name c b) : ∃ i m, P.info? t = some i ∧ i.methods.find? (fun m => m.name == name) = some m ∧ m.path = #[] ∧ m.func = some (c, b) := by
  unfold Has at h
  cases hi : P.info? t with
  | none => rw [hi] at h; cases h
  | some i =>
    rw [hi] at h
    simp only [Option.bind_some] at h
    cases hm : i.methods.find? (fun m => m.name == name) with
    | none => rw [hm] at h; cases h
    | some m =>
      rw [hm] at h
      simp only [Option.map_some, Option.some.injEq, Prod.mk.injEq] at h
      exact ⟨i, m, rfl, hm, by apply Array.ext'; rw [h.1], h.2⟩
/-- a pointer's method with a value for its receiver -/
theorem mtd_val {a : Addr} {c : FuncId} {tp : TypeId} (h : Has P t name c false) (hu : P.underlying t = some (.pointer tp)) (hl : (loadVar tp a).run P w = .ok u w) (hE : Ent P c) : Mtd P t (.pointer (some a)) u name c w := by
  obtain ⟨i, m, h1, h2, h3, h4⟩ := h.run
  intro args
  simp only [callMethod, Sem.run_bind]
  have hp : (program : Sem Program).run P w = .ok P w := rfl
  simp only [hp, Result.andThen_ok]
  have hmt : (method (P.types.size + Made.depth) t (.pointer (some a)) name).run P w = .ok (c, u) w := by
    have hd : P.types.size + Made.depth = (P.types.size + 99) + 1 := by simp [Made.depth]
    rw [hd]
    generalize P.types.size + 99 = k
    simp only [method, Sem.run_bind, typeInfo, hp, Result.andThen_ok, h1, Sem.run_pure, h2, h3, h4, follow, receiverAt, run_underlying hu, Place.get]
    have hw : ∀ nm, (Builtin.ssaWrapNilChk_ #[t] t #[.pointer (some a), strVal "", strVal nm]).run P w = .ok (.pointer (some a)) w := fun nm => rfl
    simp [hw, asAddr, hl]
  rw [hmt]
  simp only [Result.andThen_ok]
  exact hE.run _ _
/-- a pointer's method with a pointer for its receiver -/
theorem mtd_ptr {c : FuncId} {tp : TypeId} {q : Option Addr} (h : Has P t name c true) (hu : P.underlying t = some (.pointer tp)) (hE : Ent P c) : Mtd P t (.pointer q) (.pointer q) name c w := by
  obtain ⟨i, m, h1, h2, h3, h4⟩ := h.run
  intro args
  simp only [callMethod, Sem.run_bind]
  have hp : (program : Sem Program).run P w = .ok P w := rfl
  simp only [hp, Result.andThen_ok]
  have hmt : (method (P.types.size + Made.depth) t (.pointer q) name).run P w = .ok (c, .pointer q) w := by
    have hd : P.types.size + Made.depth = (P.types.size + 99) + 1 := by simp [Made.depth]
    rw [hd]
    generalize P.types.size + 99 = k
    simp only [method, Sem.run_bind, typeInfo, hp, Result.andThen_ok, h1, Sem.run_pure, h2, h3, h4, follow, receiverAt, run_underlying hu, Place.get]
  rw [hmt]
  simp only [Result.andThen_ok]
  exact hE.run _ _
theorem X.mkI {ρ : Operand → Value} {ds : TypeDesc} (hx : ρ x = v) (hu : P.underlying t = some ds) (hd : (match ds with | .interface _ => true | _ => false) = false) : (execOp ρ ⟨d, .makeInterface t x, ty, pos, aft, g⟩).run P w = .ok (.value (.iface t v)) w := by
  simp only [execOp, hx, Instr.makeInterface, Sem.run_bind, run_underlying hu, Result.andThen_ok]
  cases ds <;> first | rfl | cases hd
theorem X.assert {ρ : Operand → Value} {ds : TypeDesc} (hx : ρ x = .iface t v) (hu : P.underlying t = some ds) (hd : (match ds with | .interface _ => true | _ => false) = false) : (execOp ρ ⟨d, .typeAssert x tx t false, ty, pos, aft, g⟩).run P w = .ok (.value v) w := by
  simp only [execOp, hx, Instr.typeAssert, Sem.run_bind, run_underlying hu, Result.andThen_ok]
  cases ds <;> first | (cases hd; done) | simp
theorem thn_exit {K : Fr → World → Prop} {k : Nat} (h : Q (.exit k) f w) : thn K Q (.exit k) f w := h
theorem inB_ne {k id : Nat} (hk : Nat.beq k id = false) (h : Q (.exit k) f w) : inB id Q (.exit k) f w := by
  show (bif Nat.beq k id then Q .normal f w else Q (.exit k) f w)
  rw [hk]
  exact h
theorem inB_eq {k : Nat} (h : Q .normal f w) : inB k Q (.exit k) f w := by
  show (bif Nat.beq k k then Q .normal f w else Q (.exit k) f w)
  rw [show Nat.beq k k = true from Nat.beq_refl k]
  exact h
/-- a field of a block, as a variable of its own -/
theorem run_field {b i : Nat} {tb : TypeId} {cs : Array Value} (hb : Blk w b tb cs) (hs : Scal P t) (hi : cs[i]? = some v) : (loadVar t ⟨b, i, none⟩).run P w = .ok v w := by
  have hc : w.cell? ⟨b, i, none⟩ = some v := by rw [hb.cell]; exact hi
  simp [loadVar, hs w, go_sem, hc]
end
end Go.Proofs.Ytdmfikedojgjbaa.H
