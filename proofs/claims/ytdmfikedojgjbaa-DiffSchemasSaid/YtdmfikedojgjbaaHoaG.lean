/-
  The logic's seventh part: new slices of several structs.
-/
import Derived.Test.YtdmfikedojgjbaaHoaF
import Derived.Laws.Pointers
import Derived.Laws.Small
namespace Go.Proofs.Ytdmfikedojgjbaa.H
open Go.RowKit Go.Proofs.Ytdmfikedojgjbaa
set_option linter.unusedSimpArgs false
set_option linter.unusedVariables false
section
variable {P : Program} {n : Nat} {ops rest l : List Oper} {Q : Exit → Fr → World → Prop} {f : Fr} {w w' : World} {d : Option Tmp} {ty : TypeId} {pos : String} {aft : Array Edge} {g : Option (Nat × Bool)} {x y z o : Operand} {v u p : Value} {t e tx tz : TypeId}
theorem zip_off (off : Nat) : ∀ (l : List Value) (a : Nat) (init : Array Value), (l.zipIdx a).foldl (fun cs x => cs.setIfInBounds (off + x.2) x.1) init = (l.zipIdx (off + a)).foldl (fun cs x => cs.setIfInBounds x.2 x.1) init
  | [], _, _ => rfl
  | x :: l, a, init => by
    simp only [List.zipIdx_cons, List.foldl_cons]
    rw [zip_off off l (a + 1)]
    rfl
theorem fill_rows (sz : Nat) : ∀ (ls : List (List Value)) (k : Nat) (init : Array Value), (∀ l ∈ ls, l.length = sz) → init.size = (k + ls.length) * sz →
    Instr.fill (fun i => some (i * sz, sz)) init ((List.range' k ls.length).zip (ls.map fun l => Value.agg l.toArray)) = some (init.toList.take (k * sz) ++ ls.flatten).toArray
  | [], k, init, _, hs => by
    simp only [List.length_nil, Nat.add_zero] at hs
    simp only [List.length_nil, List.range'_zero, List.map_nil, List.zip_nil_left, Instr.fill, List.flatten_nil, List.append_nil]
    rw [List.take_of_length_le (by simp [hs])]
  | l :: ls, k, init, hl, hs => by
    have h0 : l.length = sz := hl l (by simp)
    have h2 : (k + 1) * sz = k * sz + sz := Nat.succ_mul k sz
    have h1 : k * sz + sz ≤ init.size := by
      rw [hs, ← h2]
      exact Nat.mul_le_mul_right _ (by simp only [List.length_cons]; omega)
    have e1 : (Value.agg l.toArray).cells = l.toArray := rfl
    have e2 : (l.toArray.zipIdx.foldl (fun cs x => cs.setIfInBounds (k * sz + x.2) x.1) init) = (init.toList.take (k * sz) ++ l ++ init.toList.drop (k * sz + sz)).toArray := by
      rw [← Array.foldl_toList]
      have e3 : l.toArray.zipIdx.toList = l.zipIdx 0 := by simp
      rw [e3, zip_off, Nat.add_zero, set_all l (k * sz) init (by omega), h0]
    have hlen : (init.toList.take (k * sz) ++ l).length = k * sz + sz := by rw [List.length_append, List.length_take, h0, Array.length_toList]; omega
    simp only [List.length_cons, List.range'_succ, List.map_cons, List.zip_cons_cons, Instr.fill, e1, List.size_toArray, h0]
    rw [if_neg (by simp; omega), e2, fill_rows sz ls (k + 1) _ (fun x hx => hl x (by simp [hx])) (by
      simp only [List.size_toArray, List.length_append, List.length_take, List.length_drop, h0, Array.length_toList]
      rw [hs]
      have e4 : (k + 1 + ls.length) * sz = (k + (l :: ls).length) * sz := by simp only [List.length_cons]; congr 1; omega
      rw [e4, ← hs]
      omega)]
    rw [h2, List.take_append_of_le_length (Nat.le_of_eq hlen.symm), List.take_of_length_le (Nat.le_of_eq hlen)]
    simp
theorem L.bsliceR {ps : List (Nat × Operand)} {ls : List (List Value)} {zs : List Value} {q sz : Nat} {qs : List (Nat × Value)} (hg : wn ops f g = true) (hv0 : Evs f ps qs) (hv1 : qs.map (·.2) = ls.map fun l => Value.agg l.toArray) (hi : ps.map (·.1) = List.range' 0 q) (hq : ls.length = q) (h1 : ls.all (fun l => Nat.beq l.length sz) = true) (ht : P.underlying t = some (.slice e)) (hs : Siz P e sz) (hzr : Zer P e zs) (hq2 : q * sz ≤ 16777216)
    (h : ∀ b w', b = w.heap.size → w'.heap.size = w.heap.size + 1 → Blk w' b e ls.flatten.toArray → Ext w w' → L P n ops Q rest (putO f d (.slice (some ⟨b, 0, none⟩) q q)) w') : L P n ops Q (⟨d, .buildSlice t q ps.toArray, ty, pos, aft, g⟩ :: rest) f w := by
  refine L.val hg ?_ (h w.heap.size (w.alloc (.cells ls.flatten.toArray e)) rfl (by simp) (Blk.new _ _ _) (Ext.alloc _ _))
  obtain ⟨z, hzc, hzr⟩ := hzr.run w
  have hv : ps.map (fun p => ev f p.2) = ls.map fun l => Value.agg l.toArray := by rw [← hv1, ← hv0.map]; simp
  have hps : ps.map (fun p => (p.1, ev f p.2)) = (List.range' 0 ls.length).zip (ls.map fun l => Value.agg l.toArray) := by
    rw [hq, ← hi, ← hv, List.zip_map', ]
  have hall : ∀ l ∈ ls, l.length = sz := fun l hl => Nat.eq_of_beq_eq_true (List.all_eq_true.1 h1 l hl)
  have key : ∀ z : Array Value, Instr.fill (fun i => some (i * sz, sz)) ((Array.range (q * sz)).map (z[· % z.size]!)) (ps.map (fun p => (p.1, ev f p.2))) = some ls.flatten.toArray := by
    intro z
    rw [hps, fill_rows sz ls 0 _ hall (by simp [hq])]
    simp
  simp only [execOp, Instr.buildSlice, Sem.run_bind, run_underlying ht, Result.andThen_ok, hs.run, List.map_toArray]
  rw [if_neg (by omega)]
  by_cases h0 : q * sz = 0
  · simp only [if_pos h0, Sem.run_pure, Result.andThen_ok, key, newRow, newObj]
    rfl
  · simp only [if_neg h0, Sem.run_bind, hzr, Sem.run_pure, Result.andThen_ok, key, newRow, newObj]
    rfl
/-! ### pointers and nil; two bools; the greater of two -/
theorem X.eqlPn {q : Option Addr} (hx : ev f x = .pointer q) (hy : ev f y = .pointer none) (ht : P.underlying tx = some (.pointer (P.pointee tx))) : (execOp (ev f) ⟨d, .binOp .eql tx x y tz, ty, pos, aft, g⟩).run P w = .ok (.value (.bool q.isNone)) w :=
  X.bin hx hy (by simp [go_sem]) (by simp [binOp, run_equal_pointer_nil w tx q ht])
theorem X.neqPn {q : Option Addr} (hx : ev f x = .pointer q) (hy : ev f y = .pointer none) (ht : P.underlying tx = some (.pointer (P.pointee tx))) : (execOp (ev f) ⟨d, .binOp .neq tx x y tz, ty, pos, aft, g⟩).run P w = .ok (.value (.bool (!q.isNone))) w :=
  X.bin hx hy (by simp [go_sem]) (by simp [binOp, run_equal_pointer_nil w tx q ht])
theorem X.neqB {a b : Bool} (hx : ev f x = .bool a) (hy : ev f y = .bool b) (ht : P.underlying tx = some .bool) : (execOp (ev f) ⟨d, .binOp .neq tx x y tz, ty, pos, aft, g⟩).run P w = .ok (.value (.bool (!(a == b)))) w :=
  X.bin hx hy (by simp [go_sem]) (by simp [binOp, run_equal_bool w tx a b ht])
theorem X.max2 {k : IntKind} {m n' : Int} (hx : ev f x = .int k m) (hy : ev f y = .int k n') :
    (execOp (ev f) ⟨d, .call { callee := .builtin .max, args := #[x, y], argTypes := #[t, t] }, ty, pos, aft, g⟩).run P w = .ok (.value (.int k (max m n'))) w := by
  have h : (max m n' : Int) = if m < n' then n' else m := by rw [Int.max_def]; split <;> split <;> omega
  rw [h]
  simp [hx, hy, go_sem, Builtin.max_, Builtin.max2]
end
end Go.Proofs.Ytdmfikedojgjbaa.H
