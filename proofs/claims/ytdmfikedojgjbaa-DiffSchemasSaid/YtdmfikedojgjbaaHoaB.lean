/-
  The logic's second part: what makes or writes memory, the way in and out of a function, regions that draw their order.
-/
import Derived.Test.YtdmfikedojgjbaaHoa
import Derived.Deep.Onto
namespace Go.Proofs.Ytdmfikedojgjbaa.H
open Go.RowKit Go.Proofs.Ytdmfikedojgjbaa
set_option linter.unusedSimpArgs false
set_option linter.unusedVariables false
/-! ### what becomes of the world -/
/-- nothing that was there has changed -/
def Ext (w w' : World) : Prop := Below w.heap.size w w'
theorem Ext.refl (w : World) : Ext w w := Below.refl _ _
theorem Ext.trans {a b c : World} (h : Ext a b) (k : Ext b c) : Ext a c := Below.trans h (k.mono (Below.size h))
theorem Ext.ext {a b c : World} (h : Ext a b) (k : Ext b c) : Ext a c := h.trans k
theorem Ext.le {a b : World} (h : Ext a b) : a.heap.size ≤ b.heap.size := Below.size h
theorem Ext.alloc (w : World) (o : Obj) : Ext w (w.alloc o) := (Below.refl _ _).alloc (Nat.le_refl _) o
theorem Ext.drew (w : World) : Ext w w.drew := (Below.refl _ _).drew
theorem Ext.low {a b c : World} {B : Nat} (h : Ext a b) (k : Below B b c) (hB : a.heap.size ≤ B) : Ext a c := Below.trans h (k.mono hB)
theorem Ext.grw {a b c : World} {r : Option Nat} (h : Ext a b) (k : b.grownBy c r) (hr : ∀ g, r = some g → a.heap.size ≤ g) : Ext a c := Below.grown h k (Below.size h) hr
section
variable {w w' : World} {B size n : Nat} {A : Option Addr} {xs : List Value} {g : Nat} {t : TypeId} {cs : Array Value}
theorem Reads.keep' (h : Reads w B size A n xs) (hk : ∀ b, b < w.heap.size → b < B → w'.heap[b]? = w.heap[b]?) : Reads w' B size A n xs :=
  ⟨h.1, fun hn => by
    obtain ⟨ad, e, hb, hc⟩ := h.2 hn
    refine ⟨ad, e, hb, fun j u hu => ?_⟩
    have h1 := hc j u hu
    rw [← h1]
    refine World.cell?_of_block (hk _ ?_ (by rw [block_of_add]; exact hb))
    rcases Nat.lt_or_ge (ad.add j).block w.heap.size with h2 | h2
    · exact h2
    · simp [World.cell?, Array.getElem?_eq_none h2] at h1⟩
theorem _root_.Go.Proofs.Ytdmfikedojgjbaa.Reads.ext (h : Reads w B size A n xs) (he : Ext w w') : Reads w' B size A n xs := Reads.keep' h fun b hb _ => Below.block he b hb
theorem _root_.Go.Proofs.Ytdmfikedojgjbaa.Reads.low {B' : Nat} (h : Reads w B size A n xs) (hb : Below B' w w') (hB : B ≤ B') : Reads w' B size A n xs := Reads.keep' h fun b _ hb' => hb.block b (by omega)
theorem _root_.Go.Proofs.Ytdmfikedojgjbaa.Reads.grw {r : Option Nat} (h : Reads w B size A n xs) (hg : w.grownBy w' r) (hr : ∀ g, r = some g → B ≤ g) : Reads w' B size A n xs :=
  Reads.keep' h fun b hb hB => hg.block b hb (fun e => by have := hr b e.symm; omega)
theorem _root_.Go.Proofs.Ytdmfikedojgjbaa.Blk.ext (h : Blk w g t cs) (he : Ext w w') : Blk w' g t cs := h.below he h.lt
theorem _root_.Go.World.ownsRow.ext {base : Nat} {e : TypeId} {v : Value} (h : w.ownsRow base e size v n xs) (he : Ext w w') : w'.ownsRow base e size v n xs :=
  h.kept (row := none) ⟨Below.os he, Below.tape he, Below.output he, Below.size he, fun k hk _ => Below.block he k hk⟩ (by cases hv : v.ownBlock with | none => exact .inl rfl | some b => exact .inr (by simp))
/-- the bound of a reading may be set anew -/
theorem _root_.Go.Proofs.Ytdmfikedojgjbaa.Reads.here (h : Reads w B size A n xs) (hs : 0 < size) : Reads w w.heap.size size A n xs :=
  ⟨h.1, fun hn => by
    obtain ⟨ad, e, hb, hc⟩ := h.2 hn
    refine ⟨ad, e, ?_, hc⟩
    have hl : 0 < xs.length := by rw [h.1]; exact Nat.mul_pos hn hs
    have h1 := hc 0 _ (List.getElem?_eq_getElem hl)
    rcases Nat.lt_or_ge ad.block w.heap.size with h2 | h2
    · exact h2
    · have e0 : w.heap[ad.block]? = none := Array.getElem?_eq_none h2
      simp [World.cell?, block_of_add, e0] at h1⟩
/-! ### what lies where -/
theorem Ld.rd (h : Reads w B size A n xs) {j : Nat} (hj : j < n * size) : Ld w (pA A j) (xs.getD j undef) := by
  have hn : 0 < n := Nat.pos_of_ne_zero (fun h0 => by subst h0; simp at hj)
  obtain ⟨ad, rfl, _, hc⟩ := h.2 hn
  have hl : j < xs.length := by rw [h.1]; exact hj
  refine ⟨ad.add j, rfl, ?_⟩
  rw [hc j _ (List.getElem?_eq_getElem hl)]
  simp [List.getD, hl]
theorem Ld.num {k : IntKind} {zs : List Int} (h : Reads w B 1 A n (nums k zs)) {j : Nat} (hj : j < n) : Ld w (pA A j) (.int k (zs.getD j 0)) := by
  have h1 := Ld.rd h (j := j) (by omega)
  have hl : j < zs.length := by have := h.1; rw [nums_length] at this; omega
  have : (nums k zs).getD j undef = .int k (zs.getD j 0) := by simp [nums, List.getD, hl]
  rwa [this] at h1
theorem Ld.blk (h : Blk w g t cs) {i : Nat} {v : Value} (hv : cs[i]? = some v) : Ld w (.pointer (some ⟨g, i, none⟩)) v := ⟨_, rfl, (h.cell i).trans hv⟩
theorem Ld.own {base : Nat} {e : TypeId} {c : Nat} {k : IntKind} {zs : List Int} (h : w.ownsRow base e 1 (.slice A n c) n (nums k zs)) {j : Nat} (hj : j < n) : Ld w (pA A j) (.int k (zs.getD j 0)) :=
  Ld.num (own_reads h) hj
theorem _root_.Go.Proofs.Ytdmfikedojgjbaa.Reads.some_ (h : Reads w B size A n xs) (hn : 0 < n) : A ≠ none := by
  obtain ⟨ad, rfl, _⟩ := h.2 hn
  simp
theorem range_blk (h : Blk w g t cs) : w.rangeAt g 0 cs.toList := by
  intro j v hv
  rw [Nat.zero_add, h.cell]
  simpa using hv
/-! ### effects -/
def Zer (P : Program) (t : TypeId) (l : List Value) : Prop := ∃ i z, P.info? t = some i ∧ i.zero = some z ∧ z.cells = l.toArray
theorem Zer.of {P : Program} {t : TypeId} {l : List Value} (h : ((P.info? t).bind (·.zero)).map (·.cells.toList) = some l) : Zer P t l := by
  cases hi : P.info? t with
  | none => rw [hi] at h; cases h
  | some i =>
    rw [hi] at h
    cases hz : i.zero with
    | none => simp [hz] at h
    | some z =>
      simp [hz] at h
      exact ⟨i, z, hi, hz, by rw [← h]⟩
theorem Zer.run {P : Program} {t : TypeId} {l : List Value} (h : Zer P t l) (w : World) : ∃ z, z.cells = l.toArray ∧ (zeroValue t).run P w = .ok z w := by
  obtain ⟨i, z, hi, hz, hc⟩ := h
  refine ⟨z, hc, ?_⟩
  simp [zeroValue, typeInfo, hi, hz]
end
section
variable {P : Program} {n : Nat} {ops rest : List Oper} {Q : Exit → Fr → World → Prop} {f : Fr} {w w' : World} {d : Option Tmp} {ty : TypeId} {pos : String} {aft : Array Edge} {g : Option (Nat × Bool)} {x y z : Operand} {v u p : Value} {t e tx tz : TypeId}
/-- a call of a Go function -/
theorem L.call {c : FuncId} {l : List Operand} {vs : List Value} {ts : Array TypeId} {R : Ending → World → Prop} (hg : wn ops f g = true) (he : Ent P c) (hv : l.map (ev f) = vs) (hc : Calls P c vs.toArray w R)
    (h : ∀ e w', R e w' → ∃ v, e = .returned v ∧ L P n ops Q rest (putO f d v) w') : L P n ops Q (⟨d, .call { callee := .value (.func c), args := l.toArray, argTypes := ts }, ty, pos, aft, g⟩ :: rest) f w :=
  L.enter hg (X.enter he rfl hv) hc h
theorem L.alloc {l : List Value} (hg : wn ops f g = true) (hz : Zer P t l) (h : ∀ b w', b = w.heap.size → w'.heap.size = w.heap.size + 1 → Blk w' b t l.toArray → Ext w w' → L P n ops Q rest (putO f d (.pointer (some ⟨b, 0, none⟩))) w') :
    L P n ops Q (⟨d, .alloc t, ty, pos, aft, g⟩ :: rest) f w := by
  obtain ⟨z, hc, hr⟩ := hz.run w
  refine L.val hg ?_ (h w.heap.size (w.alloc (.cells l.toArray t)) rfl (by simp) (Blk.new _ _ _) (Ext.alloc _ _))
  simp [execOp, Instr.alloc, hr, newVar, newRow, newObj, hc]
  rfl
theorem L.box (hg : wn ops f g = true) (hx : ev f x = v) (h : ∀ b w', b = w.heap.size → w'.heap.size = w.heap.size + 1 → Blk w' b t v.cells → Ext w w' → L P n ops Q rest (putO f d (.pointer (some ⟨b, 0, none⟩))) w') :
    L P n ops Q (⟨d, .box t x, ty, pos, aft, g⟩ :: rest) f w := by
  refine L.val hg ?_ (h w.heap.size (w.alloc (.cells v.cells t)) rfl (by simp) (Blk.new _ _ _) (Ext.alloc _ _))
  simp [execOp, Instr.box, newVar, newRow, newObj, hx]
  rfl
theorem only_setRow (w : World) (b : Nat) (cs : Array Value) : w.grownBy (w.setRow b cs) (some b) :=
  ⟨rfl, rfl, rfl, by simp, fun k _ hk => setRow_other w b k cs (fun e => hk (by rw [e]))⟩
/-- a store into a block that is known whole -/
theorem run_store_blk {b o : Nat} {tb : TypeId} {cs : Array Value} {vs : List Value} (hc : v.cells = vs.toArray) (h1 : (vs.all (·.oneCell')) = true) (hz : Siz P t vs.length) (hb : Blk w b tb cs) (hi : o + vs.length ≤ cs.size) :
    (Instr.storeAt t (.pointer (some ⟨b, o, none⟩)) v).run P w = .ok () (w.setRow b (cs.toList.take o ++ vs ++ cs.toList.drop (o + vs.length)).toArray) := by
  have := run_storeCells_at (P := P) b o tb vs 0 cs w hb (by omega) (fun u hu => List.all_eq_true.1 h1 u hu)
  simp only [Nat.add_zero] at this
  simp only [Instr.storeAt, Instr.sureAddr, storeVar, Sem.run_bind, Sem.run_pure, Result.andThen_ok, hz.run, hc]
  simp [this]
theorem L.storeC {b o : Nat} {tb : TypeId} {cs : Array Value} {vs : List Value} (hg : wn ops f g = true) (hx : ev f x = .pointer (some ⟨b, o, none⟩)) (hy : ev f y = v) (hc : v.cells = vs.toArray) (h1 : (vs.all (·.oneCell')) = true) (hz : Siz P t vs.length) (hb : Blk w b tb cs) (hi : o + vs.length ≤ cs.size)
    (h : ∀ w', Blk w' b tb (cs.toList.take o ++ vs ++ cs.toList.drop (o + vs.length)).toArray → w.grownBy w' (some b) → w'.heap.size = w.heap.size → L P n ops Q rest (putO f d undef) w') : L P n ops Q (⟨d, .store t x y, ty, pos, aft, g⟩ :: rest) f w := by
  refine L.skip hg ?_ (h (w.setRow b (cs.toList.take o ++ vs ++ cs.toList.drop (o + vs.length)).toArray) (setRow_heap w b _ _ _ _ hb) (only_setRow _ _ _) (by simp))
  simp only [execOp, hx, hy]
  rw [Sem.run_bind, run_store_blk hc h1 hz hb hi]
  rfl
theorem L.store {b i : Nat} {tb : TypeId} {cs : Array Value} (hg : wn ops f g = true) (hx : ev f x = .pointer (some ⟨b, i, none⟩)) (hy : ev f y = v) (h1 : v.oneCell' = true) (hz : Siz P t 1) (hb : Blk w b tb cs) (hi : i < cs.size)
    (h : ∀ w', Blk w' b tb (cs.setIfInBounds i v) → w.grownBy w' (some b) → w'.heap.size = w.heap.size → L P n ops Q rest (putO f d undef) w') : L P n ops Q (⟨d, .store t x y, ty, pos, aft, g⟩ :: rest) f w := by
  refine L.storeC (vs := [v]) hg hx hy (by cases v <;> first | rfl | cases h1) (by simp [h1]) hz hb (show i + [v].length ≤ cs.size from hi) ?_
  have e : (cs.toList.take i ++ [v] ++ cs.toList.drop (i + [v].length)).toArray = cs.setIfInBounds i v := by
    apply Array.ext'
    simp only [Array.toList_setIfInBounds]
    rw [List.set_eq_take_append_cons_drop, if_pos (by simpa using hi)]
    simp
  rw [e]
  exact h
/-- a store of a whole struct into a block that is one -/
theorem L.storeAgg {b : Nat} {tb : TypeId} {cs : Array Value} {vs : List Value} (hg : wn ops f g = true) (hx : ev f x = .pointer (some ⟨b, 0, none⟩)) (hy : ev f y = .agg vs.toArray) (h1 : (vs.all (·.oneCell')) = true) (hz : Siz P t vs.length) (hb : Blk w b tb cs) (hi : cs.size = vs.length)
    (h : ∀ w', Blk w' b tb vs.toArray → w.grownBy w' (some b) → w'.heap.size = w.heap.size → L P n ops Q rest (putO f d undef) w') : L P n ops Q (⟨d, .store t x y, ty, pos, aft, g⟩ :: rest) f w := by
  refine L.storeC (vs := vs) hg hx hy rfl h1 hz hb (by omega) ?_
  have e : (cs.toList.take 0 ++ vs ++ cs.toList.drop (0 + vs.length)).toArray = vs.toArray := by simp [← hi]
  rw [e]
  exact h
/-! ### slices -/
theorem X.slice {A : Option Addr} {q c sz : Nat} {k kx : IntKind} {m m' : Int} (hx : ev f x = .slice A q c) (hy : ev f y = .int k m) (hz : ev f z = .int kx m') (ht : P.underlying t = some (.slice e)) (hs : Siz P e sz) (hij : 0 ≤ m ∧ m ≤ m' ∧ m' ≤ (c : Int)) :
    (execOp (ev f) ⟨d, .slice t x (some y) (some z) none, ty, pos, aft, g⟩).run P w = .ok (.value (.slice (if c = m.toNat then A else A.map (·.add (m.toNat * sz))) (m'.toNat - m.toNat) (c - m.toNat))) w := by
  simp only [execOp, Instr.sliceAt, Instr.slice, Instr.sliceBounds, Instr.sliceBound, Option.map_some, Option.map_none, hx, hy, hz, Sem.run_bind, run_underlying ht, Result.andThen_ok, asIntOf, Sem.run_pure, hs.run]
  have h1 : 0 ≤ m' ∧ m' ≤ (c : Int) := ⟨by omega, hij.2.2⟩
  have h2 : 0 ≤ m ∧ m ≤ ((m'.toNat : Nat) : Int) := ⟨hij.1, by omega⟩
  simp [h1, h2, hs.run]
  intro hlt
  omega
theorem X.sliceTo {A : Option Addr} {q c sz : Nat} {kx : IntKind} {m' : Int} (hx : ev f x = .slice A q c) (hz : ev f z = .int kx m') (ht : P.underlying t = some (.slice e)) (hs : Siz P e sz) (hij : 0 ≤ m' ∧ m' ≤ (c : Int)) :
    (execOp (ev f) ⟨d, .slice t x none (some z) none, ty, pos, aft, g⟩).run P w = .ok (.value (.slice A m'.toNat c)) w := by
  simp only [execOp, Instr.sliceAt, Instr.slice, Instr.sliceBounds, Instr.sliceBound, Option.map_some, Option.map_none, hx, hz, Sem.run_bind, run_underlying ht, Result.andThen_ok, asIntOf, Sem.run_pure, hs.run]
  simp [hij, hs.run]
  cases A <;> simp [Addr.add_zero']
theorem X.sliceFrom {A : Option Addr} {q c sz : Nat} {k : IntKind} {m : Int} (hx : ev f x = .slice A q c) (hy : ev f y = .int k m) (ht : P.underlying t = some (.slice e)) (hs : Siz P e sz) (hij : 0 ≤ m ∧ m ≤ (q : Int)) :
    (execOp (ev f) ⟨d, .slice t x (some y) none none, ty, pos, aft, g⟩).run P w = .ok (.value (.slice (if c = m.toNat then A else A.map (·.add (m.toNat * sz))) (q - m.toNat) (c - m.toNat))) w := by
  simp only [execOp, Instr.sliceAt, Instr.slice, Instr.sliceBounds, Instr.sliceBound, Option.map_some, Option.map_none, hx, hy, Sem.run_bind, run_underlying ht, Result.andThen_ok, asIntOf, Sem.run_pure, hs.run]
  simp [hij, hs.run]
theorem X.slicen {A : Option Addr} {q c i j sz : Nat} {k kx : IntKind} (hx : ev f x = .slice A q c) (hy : ev f y = .int k (i : Int)) (hz : ev f z = .int kx (j : Int)) (ht : P.underlying t = some (.slice e)) (hs : Siz P e sz) (hij : i ≤ j ∧ j ≤ c) :
    (execOp (ev f) ⟨d, .slice t x (some y) (some z) none, ty, pos, aft, g⟩).run P w = .ok (.value (.slice (if c = i then A else A.map (·.add (i * sz))) (j - i) (c - i))) w :=
  X.slice hx hy hz ht hs ⟨by omega, by omega, by omega⟩
theorem X.sliceTon {A : Option Addr} {q c j sz : Nat} {kx : IntKind} (hx : ev f x = .slice A q c) (hz : ev f z = .int kx (j : Int)) (ht : P.underlying t = some (.slice e)) (hs : Siz P e sz) (hij : j ≤ c) :
    (execOp (ev f) ⟨d, .slice t x none (some z) none, ty, pos, aft, g⟩).run P w = .ok (.value (.slice A j c)) w :=
  X.sliceTo hx hz ht hs ⟨by omega, by omega⟩
theorem X.sliceFromn {A : Option Addr} {q c i sz : Nat} {k : IntKind} (hx : ev f x = .slice A q c) (hy : ev f y = .int k (i : Int)) (ht : P.underlying t = some (.slice e)) (hs : Siz P e sz) (hij : i ≤ q) :
    (execOp (ev f) ⟨d, .slice t x (some y) none none, ty, pos, aft, g⟩).run P w = .ok (.value (.slice (if c = i then A else A.map (·.add (i * sz))) (q - i) (c - i))) w :=
  X.sliceFrom hx hy ht hs ⟨by omega, by omega⟩
/-- structs and arrays by value -/
def Evs (f : Fr) : List (Nat × Operand) → List (Nat × Value) → Prop
  | [], [] => True
  | (i, x) :: ps, (j, v) :: qs => i = j ∧ ev f x = v ∧ Evs f ps qs
  | _, _ => False
theorem Evs.nil : Evs f [] [] := trivial
theorem Evs.cons {i : Nat} {ps : List (Nat × Operand)} {qs : List (Nat × Value)} (h : ev f x = v) (t : Evs f ps qs) : Evs f ((i, x) :: ps) ((i, v) :: qs) := ⟨rfl, h, t⟩
theorem Evs.map : ∀ {ps : List (Nat × Operand)} {qs : List (Nat × Value)}, Evs f ps qs → ps.map (fun p => (p.1, ev f p.2)) = qs
  | [], [], _ => rfl
  | (i, x) :: ps, (j, v) :: qs, ⟨h1, h2, h3⟩ => by simp only [List.map_cons, h1, h2, Evs.map h3]
  | [], _ :: _, h => h.elim
  | _ :: _, [], h => h.elim
theorem X.build {ps : List (Nat × Operand)} {qs : List (Nat × Value)} {l : List Value} (hq : Evs f ps qs) (h : (Instr.build t qs.toArray).run P w = .ok (.agg l.toArray) w) : (execOp (ev f) ⟨d, .build t ps.toArray, ty, pos, aft, g⟩).run P w = .ok (.value (.agg l.toArray)) w := by
  simp only [execOp, List.map_toArray, Sem.run_bind, hq.map]
  rw [h]
  rfl
theorem part_reads {B sz q c i j : Nat} {A : Option Addr} {xs : List Value} (h : Reads w B sz A q xs) (hij : i ≤ j) (hj : j ≤ q) (hq : q ≤ c) : Reads w B sz (if c = i then A else A.map (·.add (i * sz))) (j - i) ((xs.drop (i * sz)).take ((j - i) * sz)) :=
  (h.cut (by omega) hq).first (by omega)
theorem part_nums {B q c i j : Nat} {A : Option Addr} {k : IntKind} {zs : List Int} (h : Reads w B 1 A q (nums k zs)) (hij : i ≤ j) (hj : j ≤ q) (hq : q ≤ c) : Reads w B 1 (if c = i then A else A.map (·.add (i * 1))) (j - i) (nums k ((zs.drop i).take (j - i))) := by
  have := part_reads h hij hj hq
  simpa [nums] using this
/-- a new slice of numbers, texts, bools, pointers .. -/
theorem fill_ones : ∀ (l : List Value) (i : Nat) (cells : Array Value), (∀ v ∈ l, v.oneCell' = true) → i + l.length ≤ cells.size →
    Instr.fill (fun i => some (i * 1, 1)) cells ((List.range' i l.length).zip l) = some (cells.toList.take i ++ l ++ cells.toList.drop (i + l.length)).toArray
  | [], i, cells, _, _ => by simp [Instr.fill]
  | v :: l, i, cells, h1, hl => by
    have hv : v.cells = #[v] := by
      have := h1 v (by simp)
      cases v <;> first | rfl | cases this
    simp only [List.length_cons] at hl
    have hlt : i < cells.toList.length := by simp; omega
    simp only [List.length_cons, List.range'_succ, List.zip_cons_cons, Instr.fill, hv, Nat.mul_one]
    rw [if_neg (by simp; omega)]
    have e : (#[v].zipIdx.foldl (fun cs x => cs.setIfInBounds (i + x.2) x.1) cells) = cells.setIfInBounds i v := by simp
    have ih := fill_ones l (i + 1) (cells.setIfInBounds i v) (fun u hu => h1 u (by simp [hu])) (by simp; omega)
    have e2 : (List.foldl (fun cs x => cs.setIfInBounds (i + x.2) x.1) cells #[v].zipIdx.toList) = cells.setIfInBounds i v := by simp
    simp only [Nat.mul_one] at ih
    first
      | (rw [e, ih])
      | (simp only [← Array.foldl_toList]; rw [e2, ih])
    congr 1
    apply Array.ext'
    simp only [Array.toList_setIfInBounds]
    rw [List.set_eq_take_append_cons_drop, if_pos hlt]
    simp only [List.take_append, List.length_take, List.drop_append]
    rw [Nat.min_eq_left (by omega)]
    simp
    rw [List.take_of_length_le (show (cells.toList.take i).length ≤ i + 1 by simp; omega), List.drop_of_length_le (show (cells.toList.take i).length ≤ i + 1 + l.length by simp; omega), show i + 1 + l.length - i = l.length + 1 by omega, List.drop_succ_cons, List.drop_drop]
    rw [show i + 1 + l.length = i + (l.length + 1) by omega]
    rfl
theorem L.bslice {ps : List (Nat × Operand)} {vs zs : List Value} {q : Nat} {qs : List (Nat × Value)} (hg : wn ops f g = true) (hv0 : Evs f ps qs) (hv1 : qs.map (·.2) = vs) (hi : ps.map (·.1) = List.range' 0 q) (hq : vs.length = q) (h1 : (vs.all (·.oneCell')) = true) (ht : P.underlying t = some (.slice e)) (hs : Siz P e 1) (hzr : Zer P e zs) (hq2 : q ≤ 16777216)
    (h : ∀ b w', b = w.heap.size → w'.heap.size = w.heap.size + 1 → Blk w' b e vs.toArray → Ext w w' → L P n ops Q rest (putO f d (.slice (some ⟨b, 0, none⟩) q q)) w') : L P n ops Q (⟨d, .buildSlice t q ps.toArray, ty, pos, aft, g⟩ :: rest) f w := by
  refine L.val hg ?_ (h w.heap.size (w.alloc (.cells vs.toArray e)) rfl (by simp) (Blk.new _ _ _) (Ext.alloc _ _))
  obtain ⟨z, hzc, hzr⟩ := hzr.run w
  have hv : ps.map (fun p => ev f p.2) = vs := by rw [← hv1, ← hv0.map]; simp
  have hps : ps.map (fun p => (p.1, ev f p.2)) = (List.range' 0 vs.length).zip vs := by
    rw [hq, ← hi, ← hv, List.zip_map', ]
  have hall : ∀ v ∈ vs, v.oneCell' = true := fun v hv => List.all_eq_true.1 h1 v hv
  have key : ∀ z : Array Value, Instr.fill (fun i => some (i * 1, 1)) ((Array.range (q * 1)).map (z[· % z.size]!)) (ps.map (fun p => (p.1, ev f p.2))) = some vs.toArray := by
    intro z
    rw [hps, fill_ones vs 0 _ hall (by simp; omega)]
    simp [hq]
  simp only [execOp, Instr.buildSlice, Sem.run_bind, run_underlying ht, Result.andThen_ok, hs.run, List.map_toArray]
  rw [if_neg (by omega)]
  by_cases h0 : q * 1 = 0
  · simp only [if_pos h0, Sem.run_pure, Result.andThen_ok, key, newRow, newObj]
    rfl
  · simp only [if_neg h0, Sem.run_bind, hzr, Sem.run_pure, Result.andThen_ok, key, newRow, newObj]
    rfl
end
end Go.Proofs.Ytdmfikedojgjbaa.H
