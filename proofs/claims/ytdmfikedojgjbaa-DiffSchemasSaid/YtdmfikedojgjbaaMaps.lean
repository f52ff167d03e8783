/-
  Maps of the call's own, from texts to whole numbers, as functions.
-/
import Derived.Test.YtdmfikedojgjbaaHoaF
import Derived.Maps.OwnSet
import Derived.StringKeys
namespace Go.Proofs.Ytdmfikedojgjbaa
set_option maxRecDepth 100000
open Go.RowKit H
open Go.MapKept Go.ChangeMaps Go.WideMaps
set_option linter.unusedVariables false
namespace H
section
variable {P : Program} {k e t : TypeId} {w w' : World} {b n : Nat} {f : ByteArray → Option Int}
/-- block b is a map that answers as f -/
def MapSI (P : Program) (k e : TypeId) (w : World) (b n : Nat) (f : ByteArray → Option Int) : Prop :=
  ∃ D : DataW Unit, w.ownsMap P k (plainElem P e) b n D ∧ ∀ s : ByteArray, s.size ≤ maxLen → Maps.has D (.string s.data.toList) = (f s).isSome ∧ D.atKey (.string s.data.toList) (.lit (.int .i64 0)) = .lit (.int .i64 ((f s).getD 0))
theorem MapSI.made (P : Program) (k e : TypeId) (w : World) : MapSI P k e (w.alloc (.map #[] 0)) w.heap.size 0 (fun _ => none) :=
  ⟨.map [], World.ownsMap_made w P k _, fun s _ => ⟨rfl, rfl⟩⟩
theorem MapSI.kept {row : Option Nat} (h : MapSI P k e w b n f) (hg : w.grownBy w' row) (hne : some b ≠ row) : MapSI P k e w' b n f := by
  obtain ⟨D, h1, h2⟩ := h
  exact ⟨D, h1.kept hg hne, h2⟩
theorem MapSI.ext (h : MapSI P k e w b n f) (he : Ext w w') : MapSI P k e w' b n f :=
  h.kept (row := none) ⟨Below.os he, Below.tape he, Below.output he, Ext.le he, fun i hi _ => Below.block he i hi⟩ (by simp)
theorem MapSI.lt (h : MapSI P k e w b n f) : b < w.heap.size := by
  obtain ⟨D, h1, _⟩ := h
  exact h1.lt
theorem MapSI.look (h : MapSI P k e w b n f) (ht : P.underlying t = some (.map k e)) (hk : P.underlying k = some .string) (he : P.underlying e = some (.int .i64)) (hz : (zeroValue e).run P w = .ok (.int .i64 0) w) {s : ByteArray} (hs : s.size ≤ maxLen) :
    (Instr.lookup t (.map (some b)) (.string s) true).run P w = .ok (.tuple #[.int .i64 ((f s).getD 0), .bool (f s).isSome]) w := by
  obtain ⟨D, h1, h2⟩ := h
  obtain ⟨v, ps, hrun, hv⟩ := h1.look_ok (Maps.string_keyed hk) ht hz (plainElem_int he (by decide)) (keyOf_string_mk hk hs)
  obtain ⟨a, rfl, ha, _⟩ := plainElem_int_inv he hv
  obtain ⟨g1, g2⟩ := h2 s hs
  rw [hrun, g1]
  have := congrArg Prod.fst ha
  simp only [g2] at this
  injection this with this
  injection this with _ this
  rw [this]
theorem MapSI.put (h : MapSI P k e w b n f) (ht : P.underlying t = some (.map k e)) (hk : P.underlying k = some .string) (he : P.underlying e = some (.int .i64)) (hn : n < maxLen) {s : ByteArray} (hs : s.size ≤ maxLen) {v : Int} (hv : (Lit.int .i64 v).wf = true) :
    ∃ w', (Instr.mapUpdate t (.map (some b)) (.string s) (.int .i64 v)).run P w = .ok () w' ∧ MapSI P k e w' b (n + 1) (fun x => if x = s then some v else f x) ∧ w.grownBy w' (some b) := by
  obtain ⟨D, h1, h2⟩ := h
  have hkey := keyOf_string_mk (P := P) hk hs
  obtain ⟨w', hrun, r1, r2⟩ := h1.update (Maps.string_keyed hk) ht hn hkey (plainElem_int he hv)
  refine ⟨w', hrun, ⟨_, r1, fun x hx => ?_⟩, r2⟩
  by_cases hxs : x = s
  · subst hxs
    rw [Maps.has_put_same h1.isMap ((Maps.string_keyed hk).key hkey), Maps.atKey_put_same h1.isMap ((Maps.string_keyed hk).key hkey)]
    simp
  · have hne : Lit.string x.data.toList ≠ Lit.string s.data.toList := by
      intro hh
      injection hh with hh
      apply hxs
      cases x; cases s
      simp only at hh
      rw [Array.toList_inj.1 hh]
    rw [Maps.has_put_other hne, Maps.atKey_put_other hne]
    simp only [if_neg hxs]
    exact h2 x hx
theorem wf64 {v : Int} (h : -9223372036854775808 ≤ v ∧ v ≤ 9223372036854775807) : (Lit.int .i64 v).wf = true := by
  simp [Lit.wf, IntKind.min, IntKind.max, IntKind.signed, IntKind.bits]; omega
/-! the operations -/
variable {nn : Nat} {Q : Exit → Fr → World → Prop} {ops rest : List Oper} {fr : Fr} {ty : TypeId} {pos : String} {aft : Array Edge} {d : Option Tmp} {g : Option (Nat × Bool)}
theorem L.makeMap {z : Operand} {kz : IntKind} {m : Int} (hg : wn ops fr g = true) (hz : ev fr z = .int kz m) (ht : P.underlying t = some (.map k e))
    (h : ∀ b w', b = w.heap.size → w'.heap.size = w.heap.size + 1 → MapSI P k e w' b 0 (fun _ => none) → Ext w w' → L P nn ops Q rest (putO fr d (.map (some b))) w') :
    L P nn ops Q (⟨d, .makeMap t (some z), ty, pos, aft, g⟩ :: rest) fr w := by
  refine L.val (w' := w.alloc (.map #[] 0)) (v := .map (some w.heap.size)) hg ?_ (h w.heap.size _ rfl (by simp) (MapSI.made P k e w) (Ext.alloc _ _))
  simp [execOp, hz, Instr.makeMap, run_underlying ht, asInt, asIntOf, Result.andThen]
theorem X.look {f : Operand → Value} {x y : Operand} {F : ByteArray → Option Int} {b n : Nat} {s : ByteArray} (hx : f x = .map (some b)) (hy : f y = .string s) (h : MapSI P k e w b n F) (ht : P.underlying t = some (.map k e)) (hk : P.underlying k = some .string) (he : P.underlying e = some (.int .i64)) (hz : (zeroValue e).run P w = .ok (.int .i64 0) w) (hs : s.size ≤ maxLen) :
    (execOp f ⟨d, .lookup t x y true, ty, pos, aft, g⟩).run P w = .ok (.value (.tuple #[.int .i64 ((F s).getD 0), .bool (F s).isSome])) w := by
  simp [execOp, hx, hy, h.look ht hk he hz hs, Result.andThen]
theorem L.mapPut {x y z : Operand} {F : ByteArray → Option Int} {b n : Nat} {s : ByteArray} {v : Int} (hg : wn ops fr g = true) (hx : ev fr x = .map (some b)) (hy : ev fr y = .string s) (hv : ev fr z = .int .i64 v) (h : MapSI P k e w b n F) (ht : P.underlying t = some (.map k e)) (hk : P.underlying k = some .string) (he : P.underlying e = some (.int .i64)) (hn : n < maxLen) (hs : s.size ≤ maxLen) (hw : (Lit.int .i64 v).wf = true)
    (hK : ∀ w', MapSI P k e w' b (n + 1) (fun x => if x = s then some v else F x) → w.grownBy w' (some b) → L P nn ops Q rest (putO fr d undef) w') :
    L P nn ops Q (⟨d, .mapUpdate t x y z, ty, pos, aft, g⟩ :: rest) fr w := by
  obtain ⟨w', hrun, r1, r2⟩ := h.put ht hk he hn hs hw
  refine L.skip hg ?_ (hK w' r1 r2)
  simp [execOp, hx, hy, hv, hrun, Result.andThen]
end
end H
end Go.Proofs.Ytdmfikedojgjbaa
