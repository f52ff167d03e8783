/-
  Maps of the call's own whose keys are structs of a text and a number, as sets of values.
-/
import Derived.Test.YtmnlaekcojblkaaAux
import Derived.DeepKeys5
namespace Go.Proofs.Ytmnlaekcojblkaa
set_option maxRecDepth 100000
open Go.RowKit H
open Go.MapKept Go.ChangeMaps Go.WideMaps Go.Maps
set_option linter.unusedVariables false
namespace H
section
variable {P : Program} {k e t : TypeId} {w w' : World} {b n : Nat} {S : Value → Prop}
/-- block b is a map whose keys are those of S -/
def MapK (P : Program) (k e : TypeId) (w : World) (b n : Nat) (S : Value → Prop) : Prop :=
  ∃ D : DataW Unit, w.ownsMap P k (plainElem P e) b n D ∧ ∀ v l, keyOf P k v = some l → (Maps.has D l = true ↔ S v)
theorem MapK.made (P : Program) (k e : TypeId) (w : World) : MapK P k e (w.alloc (.map #[] 0)) w.heap.size 0 (fun _ => False) :=
  ⟨.map [], World.ownsMap_made w P k _, fun v l _ => Iff.intro (fun h => Bool.noConfusion ((show Maps.has (DataW.map [] : DataW Unit) l = false from rfl).symm.trans h)) (fun h => False.elim h)⟩
theorem MapK.kept {row : Option Nat} (h : MapK P k e w b n S) (hg : w.grownBy w' row) (hne : some b ≠ row) : MapK P k e w' b n S := by
  obtain ⟨D, h1, h2⟩ := h
  exact ⟨D, h1.kept hg hne, h2⟩
theorem MapK.ext (h : MapK P k e w b n S) (he : Ext w w') : MapK P k e w' b n S :=
  h.kept (row := none) ⟨Below.os he, Below.tape he, Below.output he, Ext.le he, fun i hi _ => Below.block he i hi⟩ (by simp)
theorem MapK.lt (h : MapK P k e w b n S) : b < w.heap.size := by
  obtain ⟨D, h1, _⟩ := h
  exact h1.lt
theorem MapK.look (h : MapK P k e w b n S) (K : Keyed P k) (ht : P.underlying t = some (.map k e)) (he : P.underlying e = some (.int .i64)) (hz : (zeroValue e).run P w = .ok (.int .i64 0) w) {v : Value} {l : Lit} (hv : keyOf P k v = some l) :
    ∃ a β, (Instr.lookup t (.map (some b)) v true).run P w = .ok (.tuple #[.int .i64 a, .bool β]) w ∧ (β = true ↔ S v) := by
  obtain ⟨D, h1, h2⟩ := h
  obtain ⟨x, ps, hrun, hx⟩ := h1.look_ok K ht hz (plainElem_int he (by decide)) hv
  obtain ⟨a, rfl, ha, _⟩ := plainElem_int_inv he hx
  exact ⟨a, _, hrun, h2 v l hv⟩
theorem MapK.put (h : MapK P k e w b n S) (K : Keyed P k) (ht : P.underlying t = some (.map k e)) (he : P.underlying e = some (.int .i64)) (hn : n < maxLen) {v : Value} {l : Lit} (hv : keyOf P k v = some l) {x : Int} (hx : (Lit.int .i64 x).wf = true) :
    ∃ w', (Instr.mapUpdate t (.map (some b)) v (.int .i64 x)).run P w = .ok () w' ∧ MapK P k e w' b (n + 1) (fun u => u = v ∨ S u) ∧ w.grownBy w' (some b) := by
  obtain ⟨D, h1, h2⟩ := h
  obtain ⟨w', hrun, r1, r2⟩ := h1.update K ht hn hv (plainElem_int he hx)
  refine ⟨w', hrun, ⟨_, r1, fun u lu hu => ?_⟩, r2⟩
  by_cases hl : lu = l
  · subst hl
    rw [Maps.has_put_same h1.isMap (K.key hv)]
    exact ⟨fun _ => .inl (K.inj hu hv), fun _ => rfl⟩
  · rw [Maps.has_put_other hl, h2 u lu hu]
    refine ⟨.inr, fun h => h.resolve_left fun huv => hl ?_⟩
    subst huv
    exact Option.some.inj (hu.symm.trans hv)
variable {nn : Nat} {Q : Exit → Fr → World → Prop} {ops rest : List Oper} {fr : Fr} {ty : TypeId} {pos : String} {aft : Array Edge} {d : Option Tmp} {g : Option (Nat × Bool)}
theorem L.makeMapK {z : Operand} {kz : IntKind} {m : Int} (hg : wn ops fr g = true) (hz : ev fr z = .int kz m) (ht : P.underlying t = some (.map k e))
    (h : ∀ b w', b = w.heap.size → w'.heap.size = w.heap.size + 1 → MapK P k e w' b 0 (fun _ => False) → Ext w w' → L P nn ops Q rest (putO fr d (.map (some b))) w') :
    L P nn ops Q (⟨d, .makeMap t (some z), ty, pos, aft, g⟩ :: rest) fr w := by
  refine L.val (w' := w.alloc (.map #[] 0)) (v := .map (some w.heap.size)) hg ?_ (h w.heap.size _ rfl (by simp) (MapK.made P k e w) (Ext.alloc _ _))
  simp [execOp, hz, Instr.makeMap, run_underlying ht, asInt, asIntOf, Result.andThen]
theorem L.makeMapKN (hg : wn ops fr g = true) 
    (h : ∀ b w', b = w.heap.size → w'.heap.size = w.heap.size + 1 → MapK P k e w' b 0 (fun _ => False) → Ext w w' → L P nn ops Q rest (putO fr d (.map (some b))) w') :
    L P nn ops Q (⟨d, .makeMap t none, ty, pos, aft, g⟩ :: rest) fr w := by
  refine L.val (w' := w.alloc (.map #[] 0)) (v := .map (some w.heap.size)) hg ?_ (h w.heap.size _ rfl (by simp) (MapK.made P k e w) (Ext.alloc _ _))
  simp [execOp, Instr.makeMap, Result.andThen]
theorem MapK.ne_row {N el sz q : Nat} {v : Value} {xs : List Value} (h : MapK P k e w b n S) (ho : w.ownsRow N el sz v q xs) : v.ownBlock ≠ some b := by
  obtain ⟨D, ⟨es, clock, hb, _⟩, _⟩ := h
  rcases ho.2 with ⟨rfl, _⟩ | ⟨g, cap, cur, rfl, _, hh, _⟩
  · intro hc; cases hc
  · intro hc
    have e1 : g = b := by injection hc
    subst e1
    rw [hb] at hh
    injection hh with hh
    cases hh
theorem MapK.same {S' : Value → Prop} (h : MapK P k e w b n S) (hS : ∀ v, S v ↔ S' v) : MapK P k e w b n S' := by
  have : S = S' := funext fun v => propext (hS v)
  rw [← this]; exact h
theorem X.lookR {f : Operand → Value} {x y : Operand} {b : Nat} {v r : Value} (hx : f x = .map (some b)) (hy : f y = v) (hr : (Instr.lookup t (.map (some b)) v true).run P w = .ok r w) :
    (execOp f ⟨d, .lookup t x y true, ty, pos, aft, g⟩).run P w = .ok (.value r) w := by
  simp [execOp, hx, hy, hr, Result.andThen]
theorem L.mapPutK {x y z : Operand} {b n : Nat} {v : Value} {l : Lit} {m : Int} (hg : wn ops fr g = true) (hx : ev fr x = .map (some b)) (hy : ev fr y = v) (hm : ev fr z = .int .i64 m) (h : MapK P k e w b n S) (K : Keyed P k) (ht : P.underlying t = some (.map k e)) (he : P.underlying e = some (.int .i64)) (hn : n < maxLen) (hv : keyOf P k v = some l) (hw : (Lit.int .i64 m).wf = true)
    (hK : ∀ w', MapK P k e w' b (n + 1) (fun u => u = v ∨ S u) → w.grownBy w' (some b) → L P nn ops Q rest (putO fr d undef) w') :
    L P nn ops Q (⟨d, .mapUpdate t x y z, ty, pos, aft, g⟩ :: rest) fr w := by
  obtain ⟨w', hrun, r1, r2⟩ := h.put K ht he hn hv hw
  refine L.skip hg ?_ (hK w' r1 r2)
  simp [execOp, hx, hy, hm, hrun, Result.andThen]
theorem lits_two {t1 t2 : TypeId} (h : Two P t t1 t2) (h1 : P.underlying t1 = some .string) (h2 : P.underlying t2 = some (.int .i64)) (ha : (P.fieldsOf t).all (·.name != "_") = true) (hc : P.cellsOf t = 2) (c1 : P.cellsOf t1 = 1) (c2 : P.cellsOf t2 = 1) (d : Nat)
    {s : ByteArray} (hs : s.size ≤ maxLen) {n : Int} (hw : (Lit.int .i64 n).wf = true) : P.keyLits (d + 2) t [.string s, .int .i64 n] = some [.string s.data.toList, .int .i64 n] := by
  have hf := h.hf
  have k1 : P.keyLits (d + 1) t1 [.string s] = some [.string s.data.toList] := by
    unfold Program.keyLits
    rw [h1]
    exact if_pos hs
  have k2 : P.keyLits (d + 1) t2 [.int .i64 n] = some [.int .i64 n] := by
    unfold Program.keyLits
    rw [h2]
    exact if_pos ⟨rfl, hw⟩
  unfold Program.keyLits
  rw [h.ht]
  dsimp only
  rw [if_pos ⟨hc.symm, ha⟩]
  generalize (P.fieldsOf t).toList = fs at hf
  obtain ⟨f1, f2, rfl⟩ : ∃ f1 f2, fs = [f1, f2] := by
    rcases fs with _ | ⟨f1, _ | ⟨f2, _ | ⟨f3, fs⟩⟩⟩
    · cases hf
    · simp at hf
    · exact ⟨f1, f2, rfl⟩
    · simp at hf
  simp only [List.map_cons, List.map_nil, List.cons.injEq, Prod.mk.injEq, and_true] at hf
  obtain ⟨⟨_, rfl, o1⟩, _, rfl, o2⟩ := hf
  simp [o1, o2, c1, c2, k1, k2]
theorem key_two {t1 t2 : TypeId} (h : Two P t t1 t2) (h1 : P.underlying t1 = some .string) (h2 : P.underlying t2 = some (.int .i64)) (ha : (P.fieldsOf t).all (·.name != "_") = true) (hc : P.cellsOf t = 2) (c1 : P.cellsOf t1 = 1) (c2 : P.cellsOf t2 = 1) (hk : P.keyType t = true) (hn : ∃ m, P.types.size = m + 1)
    {s : ByteArray} (hs : s.size ≤ maxLen) {n : Int} (hw : (Lit.int .i64 n).wf = true) : ∃ l, keyOf P t (.agg #[.string s, .int .i64 n]) = some l := by
  obtain ⟨m, hm⟩ := hn
  have e := lits_two h h1 h2 ha hc c1 c2 m hs hw
  unfold keyOf
  rw [h.ht]
  dsimp only
  have hfm : Value.formed P t (.agg #[.string s, .int .i64 n]) = true := by
    unfold Value.formed
    rw [h.ht]
    simp [hc]
  rw [hk, hfm, hm, if_pos (show (true && true) = true from rfl)]
  refine ⟨.string (keyBytes [.string s.data.toList, .int .i64 n]), ?_⟩
  have : Value.cells (.agg #[.string s, .int .i64 n]) = #[.string s, .int .i64 n] := rfl
  rw [this]
  show Option.map _ (P.keyLits (m + 2) t [.string s, .int .i64 n]) = _
  rw [e]
  rfl
end
end H
end Go.Proofs.Ytmnlaekcojblkaa
