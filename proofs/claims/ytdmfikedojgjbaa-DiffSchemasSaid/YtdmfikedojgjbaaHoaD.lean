/-
  The logic's fourth part: tests that are decided, a guard's two ways, elements and structs, heads.
-/
import Derived.Test.YtdmfikedojgjbaaHoaC
namespace Go.Proofs.Ytdmfikedojgjbaa.H
open Go.RowKit Go.Proofs.Ytdmfikedojgjbaa
set_option linter.unusedSimpArgs false
set_option linter.unusedVariables false
section
variable {P : Program} {n : Nat} {ops rest l : List Oper} {Q : Exit → Fr → World → Prop} {f : Fr} {w w' : World} {d : Option Tmp} {ty : TypeId} {pos : String} {aft : Array Edge} {g : Option (Nat × Bool)} {x y z o : Operand} {v u p : Value} {t e tx tz : TypeId} {c1 c2 : Code}
theorem J.iteT (hc : ev f o = .bool true) (h : J P n c1 Q f w) : J P n (.cond o c1 c2) Q f w := J.ite hc (fun _ => h) (fun h' => by cases h')
theorem J.iteF (hc : ev f o = .bool false) (h : J P n c2 Q f w) : J P n (.cond o c1 c2) Q f w := J.ite hc (fun h' => by cases h') (fun _ => h)
theorem J.decT {p : Prop} [Decidable p] (hc : ev f o = .bool (decide p)) (hp : p) (h : J P n c1 Q f w) : J P n (.cond o c1 c2) Q f w := J.dec hc (fun _ => h) (fun h' => absurd hp h')
theorem J.decF {p : Prop} [Decidable p] (hc : ev f o = .bool (decide p)) (hp : ¬ p) (h : J P n c2 Q f w) : J P n (.cond o c1 c2) Q f w := J.dec hc (fun h' => absurd h' hp) (fun _ => h)
theorem J.ndecT {p : Prop} [Decidable p] (hc : ev f o = .bool (!decide p)) (hp : ¬ p) (h : J P n c1 Q f w) : J P n (.cond o c1 c2) Q f w := J.ndec hc (fun _ => h) (fun h' => absurd h' hp)
theorem J.ndecF {p : Prop} [Decidable p] (hc : ev f o = .bool (!decide p)) (hp : p) (h : J P n c2 Q f w) : J P n (.cond o c1 c2) Q f w := J.ndec hc (fun h' => absurd hp h') (fun _ => h)
theorem lk_self (k : Nat) (v : Value) (h : f k = v) : lk [(k, v)] f = f := by
  funext j
  show (bif Nat.beq j k then v else f j) = f j
  cases hb : Nat.beq j k with
  | false => rfl
  | true =>
    have := Nat.eq_of_beq_eq_true hb
    subst this
    exact h.symm
theorem caseB_ {C : Fr → Prop} {k : Nat} {b : Bool} (hk : f k = .bool b) (h1 : b = true → C (lk [(k, .bool true)] f)) (h2 : b = false → C (lk [(k, .bool false)] f)) : C f := by
  cases b
  · have := h2 rfl; rwa [lk_self k _ hk] at this
  · have := h1 rfl; rwa [lk_self k _ hk] at this
theorem caseDec_ {C : Fr → Prop} {k : Nat} {p : Prop} [Decidable p] (hk : f k = .bool (decide p)) (h1 : p → C (lk [(k, .bool true)] f)) (h2 : ¬ p → C (lk [(k, .bool false)] f)) : C f :=
  caseB_ hk (fun h => h1 (of_decide_eq_true h)) (fun h => h2 (of_decide_eq_false h))
theorem caseNdec_ {C : Fr → Prop} {k : Nat} {p : Prop} [Decidable p] (hk : f k = .bool (!decide p)) (h1 : ¬ p → C (lk [(k, .bool true)] f)) (h2 : p → C (lk [(k, .bool false)] f)) : C f :=
  caseB_ hk (fun h => h1 (by simpa using h)) (fun h => h2 (by simpa using h))
theorem L.caseB {k : Nat} {b : Bool} (hk : f k = .bool b) (h1 : b = true → L P n ops Q rest (lk [(k, .bool true)] f) w) (h2 : b = false → L P n ops Q rest (lk [(k, .bool false)] f) w) : L P n ops Q rest f w := caseB_ (C := fun f => L P n ops Q rest f w) hk h1 h2
theorem L.caseDec {k : Nat} {p : Prop} [Decidable p] (hk : f k = .bool (decide p)) (h1 : p → L P n ops Q rest (lk [(k, .bool true)] f) w) (h2 : ¬ p → L P n ops Q rest (lk [(k, .bool false)] f) w) : L P n ops Q rest f w := caseDec_ (C := fun f => L P n ops Q rest f w) hk h1 h2
theorem L.caseNdec {k : Nat} {p : Prop} [Decidable p] (hk : f k = .bool (!decide p)) (h1 : ¬ p → L P n ops Q rest (lk [(k, .bool true)] f) w) (h2 : p → L P n ops Q rest (lk [(k, .bool false)] f) w) : L P n ops Q rest f w := caseNdec_ (C := fun f => L P n ops Q rest f w) hk h1 h2
theorem L.caseDecT {k : Nat} {p : Prop} [Decidable p] (hk : f k = .bool (decide p)) (hp : p) (h1 : L P n ops Q rest (lk [(k, .bool true)] f) w) : L P n ops Q rest f w := L.caseDec hk (fun _ => h1) (fun h => absurd hp h)
theorem L.caseDecF {k : Nat} {p : Prop} [Decidable p] (hk : f k = .bool (decide p)) (hp : ¬ p) (h1 : L P n ops Q rest (lk [(k, .bool false)] f) w) : L P n ops Q rest f w := L.caseDec hk (fun h => absurd h hp) (fun _ => h1)
theorem L.caseNdecT {k : Nat} {p : Prop} [Decidable p] (hk : f k = .bool (!decide p)) (hp : ¬ p) (h1 : L P n ops Q rest (lk [(k, .bool true)] f) w) : L P n ops Q rest f w := L.caseNdec hk (fun _ => h1) (fun h => absurd h hp)
theorem L.caseNdecF {k : Nat} {p : Prop} [Decidable p] (hk : f k = .bool (!decide p)) (hp : p) (h1 : L P n ops Q rest (lk [(k, .bool false)] f) w) : L P n ops Q rest f w := L.caseNdec hk (fun h => absurd hp h) (fun _ => h1)
theorem L.caseBT {k : Nat} {b : Bool} (hk : f k = .bool b) (hp : b = true) (h1 : L P n ops Q rest (lk [(k, .bool true)] f) w) : L P n ops Q rest f w := L.caseB hk (fun _ => h1) (fun h => by rw [hp] at h; cases h)
theorem L.caseBF {k : Nat} {b : Bool} (hk : f k = .bool b) (hp : b = false) (h1 : L P n ops Q rest (lk [(k, .bool false)] f) w) : L P n ops Q rest f w := L.caseB hk (fun h => by rw [hp] at h; cases h) (fun _ => h1)
section
variable {S : World → Prop} {ℓ : Nat} {fuel : Nat} {listed : Array Bool}
theorem D.caseB {k : Nat} {b : Bool} (hk : f k = .bool b) (h1 : b = true → D P n ops S ℓ Q fuel listed (lk [(k, .bool true)] f) w) (h2 : b = false → D P n ops S ℓ Q fuel listed (lk [(k, .bool false)] f) w) : D P n ops S ℓ Q fuel listed f w := caseB_ (C := fun f => D P n ops S ℓ Q fuel listed f w) hk h1 h2
theorem D.caseDec {k : Nat} {p : Prop} [Decidable p] (hk : f k = .bool (decide p)) (h1 : p → D P n ops S ℓ Q fuel listed (lk [(k, .bool true)] f) w) (h2 : ¬ p → D P n ops S ℓ Q fuel listed (lk [(k, .bool false)] f) w) : D P n ops S ℓ Q fuel listed f w := caseDec_ (C := fun f => D P n ops S ℓ Q fuel listed f w) hk h1 h2
theorem D.caseNdec {k : Nat} {p : Prop} [Decidable p] (hk : f k = .bool (!decide p)) (h1 : ¬ p → D P n ops S ℓ Q fuel listed (lk [(k, .bool true)] f) w) (h2 : p → D P n ops S ℓ Q fuel listed (lk [(k, .bool false)] f) w) : D P n ops S ℓ Q fuel listed f w := caseNdec_ (C := fun f => D P n ops S ℓ Q fuel listed f w) hk h1 h2
theorem D.caseDecT {k : Nat} {p : Prop} [Decidable p] (hk : f k = .bool (decide p)) (hp : p) (h1 : D P n ops S ℓ Q fuel listed (lk [(k, .bool true)] f) w) : D P n ops S ℓ Q fuel listed f w := D.caseDec hk (fun _ => h1) (fun h => absurd hp h)
theorem D.caseDecF {k : Nat} {p : Prop} [Decidable p] (hk : f k = .bool (decide p)) (hp : ¬ p) (h1 : D P n ops S ℓ Q fuel listed (lk [(k, .bool false)] f) w) : D P n ops S ℓ Q fuel listed f w := D.caseDec hk (fun h => absurd h hp) (fun _ => h1)
theorem D.caseNdecT {k : Nat} {p : Prop} [Decidable p] (hk : f k = .bool (!decide p)) (hp : ¬ p) (h1 : D P n ops S ℓ Q fuel listed (lk [(k, .bool true)] f) w) : D P n ops S ℓ Q fuel listed f w := D.caseNdec hk (fun _ => h1) (fun h => absurd h hp)
theorem D.caseNdecF {k : Nat} {p : Prop} [Decidable p] (hk : f k = .bool (!decide p)) (hp : p) (h1 : D P n ops S ℓ Q fuel listed (lk [(k, .bool false)] f) w) : D P n ops S ℓ Q fuel listed f w := D.caseNdec hk (fun h => absurd hp h) (fun _ => h1)
theorem D.caseBT {k : Nat} {b : Bool} (hk : f k = .bool b) (hp : b = true) (h1 : D P n ops S ℓ Q fuel listed (lk [(k, .bool true)] f) w) : D P n ops S ℓ Q fuel listed f w := D.caseB hk (fun _ => h1) (fun h => by rw [hp] at h; cases h)
theorem D.caseBF {k : Nat} {b : Bool} (hk : f k = .bool b) (hp : b = false) (h1 : D P n ops S ℓ Q fuel listed (lk [(k, .bool false)] f) w) : D P n ops S ℓ Q fuel listed f w := D.caseB hk (fun h => by rw [hp] at h; cases h) (fun _ => h1)
end
theorem at_int {k : Nat} {kd : IntKind} {m m' : Int} (h : f k = .int kd m) (e : m = m') : f k = .int kd m' := by rw [h, e]
theorem at_slice {k : Nat} {A : Option Addr} {m m' c : Nat} (h : f k = .slice A m c) (e : m = m') : f k = .slice A m' c := by rw [h, e]
theorem At1 {k1 : Nat} {v1 : Value} (h1 : f k1 = v1) : At f [(k1, v1)] := ⟨h1, trivial⟩
theorem At2 {k1 k2 : Nat} {v1 v2 : Value} (h1 : f k1 = v1) (h2 : f k2 = v2) : At f [(k1, v1), (k2, v2)] := ⟨h1, h2, trivial⟩
theorem At3 {k1 k2 k3 : Nat} {v1 v2 v3 : Value} (h1 : f k1 = v1) (h2 : f k2 = v2) (h3 : f k3 = v3) : At f [(k1, v1), (k2, v2), (k3, v3)] := ⟨h1, h2, h3, trivial⟩
theorem At4 {k1 k2 k3 k4 : Nat} {v1 v2 v3 v4 : Value} (h1 : f k1 = v1) (h2 : f k2 = v2) (h3 : f k3 = v3) (h4 : f k4 = v4) : At f [(k1, v1), (k2, v2), (k3, v3), (k4, v4)] := ⟨h1, h2, h3, h4, trivial⟩
theorem At5 {k1 k2 k3 k4 k5 : Nat} {v1 v2 v3 v4 v5 : Value} (h1 : f k1 = v1) (h2 : f k2 = v2) (h3 : f k3 = v3) (h4 : f k4 = v4) (h5 : f k5 = v5) : At f [(k1, v1), (k2, v2), (k3, v3), (k4, v4), (k5, v5)] := ⟨h1, h2, h3, h4, h5, trivial⟩
theorem At6 {k1 k2 k3 k4 k5 k6 : Nat} {v1 v2 v3 v4 v5 v6 : Value} (h1 : f k1 = v1) (h2 : f k2 = v2) (h3 : f k3 = v3) (h4 : f k4 = v4) (h5 : f k5 = v5) (h6 : f k6 = v6) : At f [(k1, v1), (k2, v2), (k3, v3), (k4, v4), (k5, v5), (k6, v6)] := ⟨h1, h2, h3, h4, h5, h6, trivial⟩
theorem At0 : At f [] := trivial
theorem own_ne {base size n' c : Nat} {A : Option Addr} {xs : List Value} (h : w.ownsRow base e size (.slice A n' c) n' xs) (hn : 0 < n') : A ≠ none := by
  obtain ⟨b, cap, hA, _, _⟩ := h.form hn
  injection hA with hA
  rw [hA]; simp
theorem X.fieldP {ρ : Operand → Value} {A : Option Addr} {i j sz : Nat} {fs : Array Field} {fd : Field} (hx : ρ x = pA A j) (ht : P.underlying t = some (.struct fs)) (hi : fs[i]? = some fd) (hz : Siz P fd.type sz) (hpos : 0 < sz) (hA : A ≠ none) :
    (execOp ρ ⟨d, .fieldAddr t x i, ty, pos, aft, g⟩).run P w = .ok (.value (pA A (j + fd.offset))) w := by
  cases A with
  | none => exact absurd rfl hA
  | some a =>
    simp only [pA, Option.map_some] at hx
    simp only [execOp, hx, Instr.fieldAt, Sem.run_bind, run_underlying ht, Result.andThen_ok, hi, Instr.sureAddr, Sem.run_pure, fieldPlace, hz.run]
    rw [if_neg (by omega)]
    simp only [Sem.run_pure, Result.andThen_ok, pA, Option.map_some, add_of_add]
/-- structs by value -/
def Plc (P : Program) (fs : Array Field) (ps : List (Nat × Nat)) : Prop := ∀ w : World, (fs.mapM fun f => (do pure (f.offset, ← sizeOf f.type) : Sem (Nat × Nat))).run P w = .ok ps.toArray w
theorem bld_run {fs : Array Field} {ps : List (Nat × Nat)} {zs l : List Value} {qs : List (Nat × Value)} (ht : P.underlying t = some (.struct fs)) (hp : Plc P fs ps) (hz : Zer P t zs) (h : Instr.fill (fun i => ps.toArray[i]?) zs.toArray qs = some l.toArray) :
    (Instr.build t qs.toArray).run P w = .ok (.agg l.toArray) w := by
  obtain ⟨z, hc, hr⟩ := hz.run w
  have hp' := hp w
  simp only [Instr.build, Sem.run_bind, hr, Result.andThen_ok, run_underlying ht, hc]
  rw [hp']
  simp only [Result.andThen_ok, h]
  rfl
theorem set_all : ∀ (l : List Value) (k : Nat) (init : Array Value), k + l.length ≤ init.size → (l.zipIdx k).foldl (fun cs x => cs.setIfInBounds x.2 x.1) init = (init.toList.take k ++ l ++ init.toList.drop (k + l.length)).toArray
  | [], k, init, _ => by simp
  | a :: l, k, init, h => by
    simp only [List.length_cons] at h
    have hlt : k < init.toList.length := by simp; omega
    simp only [List.zipIdx_cons, List.foldl_cons]
    rw [set_all l (k + 1) _ (by simp; omega)]
    apply Array.ext'
    simp only [Array.toList_setIfInBounds]
    rw [List.set_eq_take_append_cons_drop, if_pos hlt]
    simp only [List.take_append, List.length_take, List.drop_append]
    rw [Nat.min_eq_left (by omega)]
    simp only [List.length_cons, List.append_assoc]
    rw [List.take_of_length_le (show (init.toList.take k).length ≤ k + 1 by simp; omega), List.drop_of_length_le (show (init.toList.take k).length ≤ k + 1 + l.length by simp; omega), show k + 1 + l.length - k = l.length + 1 by omega, List.drop_succ_cons, List.drop_drop]
    rw [show k + 1 + l.length = k + (l.length + 1) by omega]
    simp
/-- a new slice of one struct -/
theorem L.bslice1 {zs l : List Value} {sz : Nat} (hg : wn ops f g = true) (hx : ev f x = .agg l.toArray) (hsl : sz = l.length) (ht : P.underlying t = some (.slice e)) (hs : Siz P e sz) (hz : Zer P e zs) (hsz : Nat.ble sz 1000 = true)
    (h : ∀ b w', b = w.heap.size → w'.heap.size = w.heap.size + 1 → Blk w' b e l.toArray → Ext w w' → L P n ops Q rest (putO f d (.slice (some ⟨b, 0, none⟩) 1 1)) w') : L P n ops Q (⟨d, .buildSlice t 1 #[(0, x)], ty, pos, aft, g⟩ :: rest) f w := by
  refine L.val hg ?_ (h w.heap.size (w.alloc (.cells l.toArray e)) rfl (by simp) (Blk.new _ _ _) (Ext.alloc _ _))
  obtain ⟨z, hzc, hzr⟩ := hz.run w
  have hle : sz ≤ 1000 := Nat.le_of_ble_eq_true hsz
  subst hsl
  have key : ∀ z : Array Value, Instr.fill (fun i => some (i * l.length, l.length)) ((Array.range (1 * l.length)).map (z[· % z.size]!)) [(0, Value.agg l.toArray)] = some l.toArray := by
    intro z
    simp only [Instr.fill]
    rw [if_neg (by simp [Value.cells])]
    have h1 := set_all l 0 ((Array.range (1 * l.length)).map (z[· % z.size]!)) (by simp)
    congr 1
    have h2 : (Value.agg l.toArray).cells.zipIdx.toList = l.zipIdx 0 := by simp [Value.cells]
    rw [← Array.foldl_toList, h2]
    simp only [Nat.zero_mul, Nat.zero_add]
    refine Eq.trans ?_ (h1.trans ?_)
    · rfl
    · simp
  simp only [execOp, Instr.buildSlice, Sem.run_bind, run_underlying ht, Result.andThen_ok, hs.run, List.map_toArray, List.map_cons, List.map_nil, hx]
  rw [if_neg (by omega)]
  by_cases h0 : 1 * l.length = 0
  · simp only [if_pos h0, Sem.run_pure, Result.andThen_ok, key, newRow, newObj]
    rfl
  · simp only [if_neg h0, Sem.run_bind, hzr, Sem.run_pure, Result.andThen_ok, key, newRow, newObj]
    rfl
end
end Go.Proofs.Ytdmfikedojgjbaa.H
