/-
  A logic over the kit's: frames as functions of their slots, each operation by one law; no walk rewrites the context. Control, and the operations that touch no memory or read it.
-/
import Derived.Test.YtdmfikedojgjbaaLat
import Derived.LoopN
import Derived.IntWalk
import Derived.Deep.MidRow
import Derived.ChangeKeysEq
import Derived.Lib.Strings
namespace Go.Proofs.Ytdmfikedojgjbaa.H
open Go.RowKit
set_option linter.unusedSimpArgs false
abbrev Fr := Nat → Value
/-- a frame: what was put lately, over a base -/
def lk : List (Nat × Value) → Fr → Fr
  | [], b, j => b j
  | (k, v) :: t, b, j => bif Nat.beq j k then v else lk t b j
/-- a base that is unknown at some slots -/
def hav (M : List Nat) (g b : Fr) : Fr := fun j => bif M.contains j then g j else b j
def ev (f : Fr) : Operand → Value
  | .tmp t => f t
  | .const v => v
  | .global g => .pointer (some ⟨g, 0, none⟩)
  | .func n => .func (.func n) #[] #[]
structure Rep (n : Nat) (f : Fr) (a : Act) : Prop where
  size : a.tmps.size = n
  defers : a.defers = []
  get : ∀ j, a.tmps.getD j undef = f j
def lft (n : Nat) (Q : Exit → Fr → World → Prop) (e : Exit) (a : Act) (w : World) : Prop := ∃ f, Rep n f a ∧ Q e f w
def fitO (n : Nat) (o : Oper) : Bool := match o.dst with
  | some d => Nat.blt d n
  | none => true
def fitC (n : Nat) : Code → Bool
  | .region _ ops _ => ops.toList.all (fitO n)
  | .seq a b => fitC n a && fitC n b
  | .cond _ a b => fitC n a && fitC n b
  | .block _ c => fitC n c
  | .loop c => fitC n c
  | .scope c => fitC n c
  | .rangeFunc _ _ _ _ => false
  | _ => true
def yl (ops : List Oper) (f : Fr) (j : Nat) : Option Bool := match (ops[j]?).bind (·.dst) with
  | some d => (match f d with
    | .bool b => some b
    | _ => none)
  | none => none
def wn (ops : List Oper) (f : Fr) : Option (Nat × Bool) → Bool
  | none => true
  | some (j, b) => yl ops f j == some b
def putO (f : Fr) (d : Option Tmp) (v : Value) : Fr := match d with
  | some k => lk [(k, v)] f
  | none => f

theorem Rep.eval {n : Nat} {f : Fr} {a : Act} (h : Rep n f a) : a.eval = ev f := by
  funext x
  cases x <;> simp only [Act.eval, ev]
  exact h.get _
theorem Rep.put {n : Nat} {f : Fr} {a : Act} (h : Rep n f a) {d : Option Tmp} (v : Value) (hd : (match d with | some k => Nat.blt k n | none => true) = true) : Rep n (putO f d v) (a.put d v) := by
  cases d with
  | none => exact h
  | some k =>
    have hk : k < n := by simpa using hd
    refine ⟨by simp [Act.put, h.size], h.defers, fun j => ?_⟩
    show (a.tmps.setIfInBounds k v).getD j undef = bif Nat.beq j k then v else f j
    rw [← h.get j]
    by_cases hj : j = k
    · subst hj
      have hb : Nat.beq j j = true := Nat.beq_refl j
      rw [hb, Array.getD_eq_getD_getElem?, Array.getElem?_setIfInBounds_self_of_lt (by rw [h.size]; exact hk)]
      rfl
    · have hb : Nat.beq j k = false := by
        cases hbb : Nat.beq j k with
        | false => rfl
        | true => exact absurd (Nat.eq_of_beq_eq_true hbb) hj
      rw [hb, Array.getD_eq_getD_getElem?, Array.getD_eq_getD_getElem?, Array.getElem?_setIfInBounds_ne (by omega)]
      rfl
theorem wanted_eq {n : Nat} {f : Fr} {a : Act} (h : Rep n f a) (ops : List Oper) (o : Oper) : Region.wanted o (yielded ops.toArray a.tmps) = wn ops f o.guard := by
  unfold Region.wanted wn
  cases hg : o.guard with
  | none => rfl
  | some jb =>
    obtain ⟨j, b⟩ := jb
    simp only
    congr 1
    unfold yielded yl
    rw [show (ops.toArray)[j]? = ops[j]? by simp]
    cases hd : (ops[j]?).bind (·.dst) with
    | none => rfl
    | some d =>
      simp only [Option.bind_some]
      have h1 := h.get d
      rw [Array.getD_eq_getD_getElem?] at h1
      rw [← h1]
      cases he : a.tmps[d]? with
      | none => rfl
      | some v => cases v <;> rfl

/-- lists of operations, in the order of the text -/
def L (P : Program) (n : Nat) (ops : List Oper) (Q : Exit → Fr → World → Prop) (l : List Oper) (f : Fr) (w : World) : Prop :=
  l.all (fitO n) = true → ∀ a, Rep n f a → wpList P ops.toArray (lft n Q) l a w
/-- code -/
def J (P : Program) (n : Nat) (c : Code) (Q : Exit → Fr → World → Prop) (f : Fr) (w : World) : Prop :=
  fitC n c = true → ∀ a, Rep n f a → c.wp P (lft n Q) a w
section
variable {P : Program} {n : Nat} {ops rest : List Oper} {Q : Exit → Fr → World → Prop} {f : Fr} {w w' : World} {o : Oper} {v : Value}
theorem L.nil (h : Q .normal f w) : L P n ops Q [] f w := fun _ _ hr => ⟨f, hr, h⟩
/-- an operation yields a value -/
theorem L.val (hg : wn ops f o.guard = true) (hx : (execOp (ev f) o).run P w = .ok (.value v) w') (h : L P n ops Q rest (putO f o.dst v) w') : L P n ops Q (o :: rest) f w := by
  intro hf a hr
  simp only [List.all_cons, Bool.and_eq_true] at hf
  refine wpList_step fun K hK => ?_
  rw [wanted_eq hr, hg, if_pos rfl]
  unfold Oper.wp
  rw [hr.eval, hx]
  exact hK _ _ (h hf.2 _ (hr.put v hf.1))
theorem L.skip (hg : wn ops f o.guard = true) (hx : (execOp (ev f) o).run P w = .ok .skip w') (h : L P n ops Q rest (putO f o.dst undef) w') : L P n ops Q (o :: rest) f w := by
  intro hf a hr
  simp only [List.all_cons, Bool.and_eq_true] at hf
  refine wpList_step fun K hK => ?_
  rw [wanted_eq hr, hg, if_pos rfl]
  unfold Oper.wp
  rw [hr.eval, hx]
  exact hK _ _ (h hf.2 _ (hr.put undef hf.1))
theorem L.off (hg : wn ops f o.guard = false) (h : L P n ops Q rest (putO f o.dst undef) w) : L P n ops Q (o :: rest) f w := by
  intro hf a hr
  simp only [List.all_cons, Bool.and_eq_true] at hf
  refine wpList_step fun K hK => ?_
  rw [wanted_eq hr, hg]
  exact hK _ _ (h hf.2 _ (hr.put undef hf.1))
/-- a call of a Go function -/
theorem L.enter {fn : FuncId} {args : Array Value} {R : Ending → World → Prop} (hg : wn ops f o.guard = true) (hx : (execOp (ev f) o).run P w = .ok (.enter fn args) w) (hc : Calls P fn args w R)
    (h : ∀ e w', R e w' → ∃ v, e = .returned v ∧ L P n ops Q rest (putO f o.dst v) w') : L P n ops Q (o :: rest) f w := by
  intro hf a hr
  simp only [List.all_cons, Bool.and_eq_true] at hf
  refine wpList_step fun K hK => ?_
  rw [wanted_eq hr, hg, if_pos rfl]
  unfold Oper.wp
  rw [hr.eval, hx]
  refine hc.mono fun e w'' hR => ?_
  obtain ⟨v, rfl, hl⟩ := h e w'' hR
  exact hK _ _ (hl hf.2 _ (hr.put v hf.1))
/-- an operation by any law of the kit's -/
theorem L.law (hg : wn ops f o.guard = true)
    (h : ∀ a, Rep n f a → ∀ K : Act → World → Prop, (∀ v w', L P n ops Q rest (putO f o.dst v) w' → K (a.put o.dst v) w') → o.wp P a w K (lft n Q)) : L P n ops Q (o :: rest) f w := by
  intro hf a hr
  simp only [List.all_cons, Bool.and_eq_true] at hf
  refine wpList_step fun K hK => ?_
  rw [wanted_eq hr, hg, if_pos rfl]
  exact h a hr K fun v w' hl => hK _ _ (hl hf.2 _ (hr.put v hf.1))

/-- the same, the operation written out -/
theorem L.va {k : Nat} {op : Op} {ty : TypeId} {pos : String} {aft : Array Edge} {g : Option (Nat × Bool)} (hg : wn ops f g = true) (hx : (execOp (ev f) ⟨some k, op, ty, pos, aft, g⟩).run P w = .ok (.value v) w') (h : L P n ops Q rest (lk [(k, v)] f) w') : L P n ops Q (⟨some k, op, ty, pos, aft, g⟩ :: rest) f w := L.val hg hx h
theorem L.va0 {op : Op} {ty : TypeId} {pos : String} {aft : Array Edge} {g : Option (Nat × Bool)} (hg : wn ops f g = true) (hx : (execOp (ev f) ⟨none, op, ty, pos, aft, g⟩).run P w = .ok (.value v) w') (h : L P n ops Q rest f w') : L P n ops Q (⟨none, op, ty, pos, aft, g⟩ :: rest) f w := L.val hg hx h
theorem L.no {k : Nat} {op : Op} {ty : TypeId} {pos : String} {aft : Array Edge} {g : Option (Nat × Bool)} (hg : wn ops f g = false) (h : L P n ops Q rest (lk [(k, undef)] f) w) : L P n ops Q (⟨some k, op, ty, pos, aft, g⟩ :: rest) f w := L.off hg h
theorem L.no0 {op : Op} {ty : TypeId} {pos : String} {aft : Array Edge} {g : Option (Nat × Bool)} (hg : wn ops f g = false) (h : L P n ops Q rest f w) : L P n ops Q (⟨none, op, ty, pos, aft, g⟩ :: rest) f w := L.off hg h
theorem putO_some (f : Fr) (k : Nat) (v : Value) : putO f (some k) v = lk [(k, v)] f := rfl
/-- one frame for another that reads alike -/
theorem L.same {f' : Fr} (hf : f' = f) (h : L P n ops Q rest f' w) : L P n ops Q rest f w := by rw [← hf]; exact h
theorem lk_cons (k : Nat) (v : Value) (l : List (Nat × Value)) (b : Fr) : lk [(k, v)] (lk l b) = lk ((k, v) :: l) b := rfl

/-! ### code -/
def thn (K : Fr → World → Prop) (Q : Exit → Fr → World → Prop) : Exit → Fr → World → Prop
  | .normal, f, w => K f w
  | e, f, w => Q e f w
def inB (id : Nat) (Q : Exit → Fr → World → Prop) : Exit → Fr → World → Prop
  | .exit k, f, w => bif Nat.beq k id then Q .normal f w else Q (.exit k) f w
  | e, f, w => Q e f w
variable {x y c : Code}
theorem J.seq (h : J P n x (thn (J P n y Q) Q) f w) : J P n (.seq x y) Q f w := by
  intro hf a hr
  simp only [fitC, Bool.and_eq_true] at hf
  refine wp_seq (wp_mono (h hf.1 a hr) ?_)
  rintro e a' w' ⟨f', hr', hq⟩
  cases e
  case normal => exact hq hf.2 a' hr'
  all_goals exact ⟨f', hr', hq⟩
theorem J.region {id : Nat} {l : List Oper} (h : L P n l Q l f w) : J P n (.region id l.toArray false) Q f w := by
  intro hf a hr
  simp only [fitC] at hf
  exact wp_region_lit (h hf a hr)
theorem J.ite {o : Operand} {b : Bool} (hc : ev f o = .bool b) (ht : b = true → J P n x Q f w) (he : b = false → J P n y Q f w) : J P n (.cond o x y) Q f w := by
  intro hf a hr
  simp only [fitC, Bool.and_eq_true] at hf
  refine wp_cond_split (t := b) (by rw [hr.eval]; exact hc) (fun h => ht h hf.1 a hr) (fun h => he h hf.2 a hr)
theorem J.dec {o : Operand} {p : Prop} [Decidable p] (hc : ev f o = .bool (decide p)) (ht : p → J P n x Q f w) (he : ¬ p → J P n y Q f w) : J P n (.cond o x y) Q f w :=
  J.ite hc (fun h => ht (of_decide_eq_true h)) (fun h => he (of_decide_eq_false h))
theorem J.ndec {o : Operand} {p : Prop} [Decidable p] (hc : ev f o = .bool (!decide p)) (ht : ¬ p → J P n x Q f w) (he : p → J P n y Q f w) : J P n (.cond o x y) Q f w :=
  J.ite hc (fun h => ht (by simpa using h)) (fun h => he (by simpa using h))
theorem J.skip (h : Q .normal f w) : J P n .skip Q f w := fun _ _ hr => wp_skip ⟨f, hr, h⟩
theorem J.ret (h : Q .ret f w) : J P n .ret Q f w := fun _ _ hr => wp_ret ⟨f, hr, h⟩
theorem J.exit {k : Nat} (h : Q (.exit k) f w) : J P n (.exit k) Q f w := fun _ _ hr => wp_exit ⟨f, hr, h⟩
theorem J.block {id : Nat} (h : J P n c (inB id Q) f w) : J P n (.block id c) Q f w := by
  intro hf a hr
  simp only [fitC] at hf
  refine wp_block (wp_mono (h hf a hr) ?_)
  rintro e a' w' ⟨f', hr', hq⟩
  cases e
  case exit k =>
    simp only [inB] at hq
    simp only [Exit.inBlock]
    by_cases hk : k = id
    · subst hk
      rw [show Nat.beq k k = true from Nat.beq_refl k] at hq
      rw [if_pos rfl]
      exact ⟨f', hr', hq⟩
    · have hb : Nat.beq k id = false := by
        cases hbb : Nat.beq k id with
        | false => rfl
        | true => exact absurd (Nat.eq_of_beq_eq_true hbb) hk
      rw [hb] at hq
      rw [if_neg hk]
      exact ⟨f', hr', hq⟩
  all_goals exact ⟨f', hr', hq⟩
theorem J.cong {Q' : Exit → Fr → World → Prop} (h : J P n c Q' f w) (hq : ∀ e f w, Q' e f w → Q e f w) : J P n c Q f w := by
  intro hf a hr
  refine wp_mono (h hf a hr) ?_
  rintro e a' w' ⟨f', hr', hq'⟩
  exact ⟨f', hr', hq _ _ _ hq'⟩
/-- slots hold values -/
def At (f : Fr) : List (Nat × Value) → Prop
  | [] => True
  | (k, v) :: t => f k = v ∧ At f t
/-- two frames agree but for some slots -/
def Agr (M : List Nat) (f' f : Fr) : Prop := ∀ j, M.contains j = false → f' j = f j
theorem Agr.rfl' {M : List Nat} {f : Fr} : Agr M f f := fun _ _ => rfl
theorem Agr.hav {M M' : List Nat} {g f f' : Fr} (hM : (M'.all fun k => M.contains k) = true) (h : Agr M f' f) : Agr M (hav M' g f') f := by
  intro j hj
  rw [← h j hj]
  unfold H.hav
  cases hc : M'.contains j with
  | false => rfl
  | true =>
    have := List.all_eq_true.1 hM j (List.contains_iff_mem.1 hc)
    rw [hj] at this
    cases this
theorem Agr.lk {M : List Nat} {l : List (Nat × Value)} {f f' : Fr} (hl : (l.all fun p => M.contains p.1) = true) (h : Agr M f' f) : Agr M (lk l f') f := by
  induction l with
  | nil => exact h
  | cons p t ih =>
    simp only [List.all_cons, Bool.and_eq_true] at hl
    intro j hj
    obtain ⟨k, v⟩ := p
    show (bif Nat.beq j k then v else H.lk t f' j) = f j
    have hb : Nat.beq j k = false := by
      cases hbb : Nat.beq j k with
      | false => rfl
      | true =>
        have := Nat.eq_of_beq_eq_true hbb
        subst this
        rw [hj] at hl
        cases hl.1
    rw [hb]
    exact ih hl.2 j hj
theorem frame_of {M : List Nat} {S : List (Nat × Value)} {f' f : Fr} (ha : Agr M f' f) (hs : At f' S) : f' = lk S (hav M f' f) := by
  funext j
  induction S with
  | nil =>
    show f' j = bif M.contains j then f' j else f j
    cases hc : M.contains j with
    | false => exact ha j hc
    | true => rfl
  | cons p t ih =>
    obtain ⟨k, v⟩ := p
    obtain ⟨h1, h2⟩ := hs
    show f' j = bif Nat.beq j k then v else lk t (hav M f' f) j
    cases hb : Nat.beq j k with
    | false => exact ih h2
    | true =>
      have := Nat.eq_of_beq_eq_true hb
      subst this
      exact h1
/-- where a loop's head, or a cut, is met: some state x: its slots, and what it says of the world -/
def Met {X : Type} (M : List Nat) (S : X → List (Nat × Value)) (I : X → World → Prop) (f0 : Fr) (f : Fr) (w : World) : Prop :=
  ∃ x, At f (S x) ∧ Agr M f f0 ∧ I x w
theorem J.cut {X : Type} (M : List Nat) (S : X → List (Nat × Value)) (I : X → World → Prop)
    (h1 : J P n x (thn (Met M S I f) Q) f w) (h2 : ∀ (s : X) (g : Fr) (w' : World), I s w' → J P n y Q (lk (S s) (hav M g f)) w') : J P n (.seq x y) Q f w := by
  refine J.seq (J.cong h1 ?_)
  intro e f' w' hq
  cases e
  case normal =>
    obtain ⟨s, hs, ha, hi⟩ := hq
    show J P n y Q f' w'
    rw [frame_of ha hs]
    exact h2 s f' w' hi
  all_goals exact hq
theorem J.loop {X : Type} (M : List Nat) (S : X → List (Nat × Value)) (I : X → World → Prop) (μ : X → Nat) (x0 : X) (h0 : At f (S x0)) (hI : I x0 w)
    (h : ∀ (s : X) (g : Fr) (w' : World), I s w' → J P n c (thn (Met M S (fun s' w'' => I s' w'' ∧ μ s' < μ s) f) Q) (lk (S s) (hav M g f)) w') : J P n (.loop c) Q f w := by
  intro hf a hr
  simp only [fitC] at hf
  have key : ∀ (m : Nat) (s : X) (g : Fr) (a : Act) (w' : World), μ s < m → I s w' → Rep n (lk (S s) (hav M g f)) a → Code.rounds P c (lft n Q) m a w' := by
    intro m
    induction m with
    | zero => intro s g a w' hm; exact absurd hm (Nat.not_lt_zero _)
    | succ m ih =>
      intro s g a w' hm hi hr
      rw [rounds_succ]
      refine wp_mono (h s g w' hi hf a hr) ?_
      rintro e a' w'' ⟨f', hr', hq⟩
      cases e
      case normal =>
        obtain ⟨s', hs, ha, hi', hlt⟩ := hq
        exact ih s' f' a' w'' (by omega) hi' (by rw [← frame_of ha hs]; exact hr')
      all_goals exact ⟨f', hr', hq⟩
  exact wp_loop_rounds (μ x0 + 1) (key _ x0 f a w (Nat.lt_succ_self _) hI (by rw [← frame_of Agr.rfl' h0]; exact hr))
end
/-- facts on types -/
def Scal (P : Program) (t : TypeId) : Prop := ∀ w : World, (isAgg t).run P w = .ok false w
theorem Scal.of {P : Program} {t : TypeId} {d : TypeDesc} (h : P.underlying t = some d) (hd : (match d with | .struct _ | .array _ _ => true | _ => false) = false) : Scal P t := by
  intro w
  simp only [isAgg, Sem.run_bind, run_underlying h, Result.andThen_ok]
  cases d <;> first | rfl | cases hd
def Siz (P : Program) (t : TypeId) (n : Nat) : Prop := ∃ i, P.info? t = some i ∧ i.size = n
theorem Siz.of {P : Program} {t : TypeId} {n : Nat} (h : (P.info? t).map (·.size) = some n) : Siz P t n := by
  cases hi : P.info? t with
  | none => rw [hi] at h; cases h
  | some i => rw [hi] at h; injection h with h; exact ⟨i, hi, h⟩
theorem Siz.run {P : Program} {t : TypeId} {n : Nat} (h : Siz P t n) (w : World) : (sizeOf t).run P w = .ok n w := by
  obtain ⟨i, hi, rfl⟩ := h
  simp [sizeOf, typeInfo, hi]
/-- the place of the j-th cell from an address on -/
def pA (A : Option Addr) (j : Nat) : Value := .pointer (A.map (·.add j))
/-- what lies where a pointer points -/
def Ld (w : World) (p : Value) (v : Value) : Prop := ∃ a, p = .pointer (some a) ∧ w.cell? a = some v
theorem Ld.at_ {w : World} {a : Addr} {v : Value} (h : w.cell? a = some v) : Ld w (.pointer (some a)) v := ⟨a, rfl, h⟩
section
variable {P : Program} {f : Operand → Value} {w : World} {d : Option Tmp} {ty : TypeId} {pos : String} {aft : Array Edge} {g : Option (Nat × Bool)} {x y z : Operand} {v u p : Value} {k kx ky kz : IntKind} {m n : Int} {t tx tz e : TypeId}
theorem str_dec (a b : ByteArray) : (a.toList == b.toList) = decide (a = b) := by
  rw [Bool.eq_iff_iff, beq_iff_eq, decide_eq_true_iff, Lib.toList_data, Lib.toList_data]
  constructor
  · intro h
    cases a; cases b
    simp only at h
    rw [Array.toList_inj.1 h]
  · intro h; rw [h]
theorem X.move (hx : f x = v) : (execOp f ⟨d, .move x, ty, pos, aft, g⟩).run P w = .ok (.value v) w := by
  simp [execOp, hx, go_sem]
theorem X.assign (hx : f x = v) : (execOp f ⟨d, .assign x, ty, pos, aft, g⟩).run P w = .ok (.value v) w := by
  simp [execOp, hx, go_sem]
theorem X.pickT (hc : f z = .bool true) (hx : f x = v) : (execOp f ⟨d, .pick z x y, ty, pos, aft, g⟩).run P w = .ok (.value v) w := by
  simp [execOp, hx, hc, go_sem]
theorem X.pickF (hc : f z = .bool false) (hy : f y = u) : (execOp f ⟨d, .pick z x y, ty, pos, aft, g⟩).run P w = .ok (.value u) w := by
  simp [execOp, hy, hc, go_sem]
theorem X.len {A : Option Addr} {q c : Nat} (hx : f x = .slice A q c) (ht : P.underlying t = some (.slice e)) : (execOp f ⟨d, .call { callee := .builtin .len, args := #[x], argTypes := #[t] }, ty, pos, aft, g⟩).run P w = .ok (.value (.int .i64 (q : Int))) w := by
  simp [execOp, hx, go_sem, Builtin.len_, run_underlying ht]
theorem X.lens {s : ByteArray} (hx : f x = .string s) (ht : P.underlying t = some .string) : (execOp f ⟨d, .call { callee := .builtin .len, args := #[x], argTypes := #[t] }, ty, pos, aft, g⟩).run P w = .ok (.value (.int .i64 (s.size : Int))) w := by
  simp [execOp, hx, go_sem, Builtin.len_, run_underlying ht]
/-- a binary operation, by the law of its own -/
theorem X.bin {op : BinOp} (hx : f x = u) (hy : f y = v) (hg : eqGuard op tx x y u v = pure ()) (h : (binOp op tx u v).run P w = .ok p w) : (execOp f ⟨d, .binOp op tx x y tz, ty, pos, aft, g⟩).run P w = .ok (.value p) w := by
  simp [execOp, hx, hy, hg, h]
theorem X.addw (hx : f x = .int k m) (hy : f y = .int k n) : (execOp f ⟨d, .binOp .add tx x y tz, ty, pos, aft, g⟩).run P w = .ok (.value (.int k (k.wrap (m + n)))) w :=
  X.bin hx hy (by simp [go_sem]) (by simp [binOp, Op.intArith])
theorem X.subw (hx : f x = .int k m) (hy : f y = .int k n) : (execOp f ⟨d, .binOp .sub tx x y tz, ty, pos, aft, g⟩).run P w = .ok (.value (.int k (k.wrap (m - n)))) w :=
  X.bin hx hy (by simp [go_sem]) (by simp [binOp, Op.intArith])
theorem X.mulw (hx : f x = .int k m) (hy : f y = .int k n) : (execOp f ⟨d, .binOp .mul tx x y tz, ty, pos, aft, g⟩).run P w = .ok (.value (.int k (k.wrap (m * n)))) w :=
  X.bin hx hy (by simp [go_sem]) (by simp [binOp, Op.intArith])
theorem w64 {m : Int} (h : -9223372036854775808 ≤ m ∧ m ≤ 9223372036854775807) : IntKind.i64.wrap m = m := IntWalk.i64_in _ h
theorem w32 {m : Int} (h : 0 ≤ m ∧ m ≤ 4294967295) : IntKind.u32.wrap m = m := by simp [IntKind.wrap, IntKind.bits, IntKind.signed]; omega
theorem w8 {m : Int} (h : 0 ≤ m ∧ m ≤ 255) : IntKind.u8.wrap m = m := by simp [IntKind.wrap, IntKind.bits, IntKind.signed]; omega
theorem wu64 {m : Int} (h : 0 ≤ m ∧ m ≤ 18446744073709551615) : IntKind.u64.wrap m = m := by simp [IntKind.wrap, IntKind.bits, IntKind.signed]; omega
theorem X.add (hx : f x = .int .i64 m) (hy : f y = .int .i64 n) (h : -9223372036854775808 ≤ m + n ∧ m + n ≤ 9223372036854775807) : (execOp f ⟨d, .binOp .add tx x y tz, ty, pos, aft, g⟩).run P w = .ok (.value (.int .i64 (m + n))) w := by
  rw [X.addw hx hy, w64 h]
theorem X.sub (hx : f x = .int .i64 m) (hy : f y = .int .i64 n) (h : -9223372036854775808 ≤ m - n ∧ m - n ≤ 9223372036854775807) : (execOp f ⟨d, .binOp .sub tx x y tz, ty, pos, aft, g⟩).run P w = .ok (.value (.int .i64 (m - n))) w := by
  rw [X.subw hx hy, w64 h]
theorem X.mul (hx : f x = .int .i64 m) (hy : f y = .int .i64 n) (h : -9223372036854775808 ≤ m * n ∧ m * n ≤ 9223372036854775807) : (execOp f ⟨d, .binOp .mul tx x y tz, ty, pos, aft, g⟩).run P w = .ok (.value (.int .i64 (m * n))) w := by
  rw [X.mulw hx hy, w64 h]
theorem X.addU (hx : f x = .int .u64 m) (hy : f y = .int .u64 n) (h : 0 ≤ m + n ∧ m + n ≤ 18446744073709551615) : (execOp f ⟨d, .binOp .add tx x y tz, ty, pos, aft, g⟩).run P w = .ok (.value (.int .u64 (m + n))) w := by
  rw [X.addw hx hy, wu64 h]
theorem X.subU (hx : f x = .int .u64 m) (hy : f y = .int .u64 n) (h : 0 ≤ m - n ∧ m - n ≤ 18446744073709551615) : (execOp f ⟨d, .binOp .sub tx x y tz, ty, pos, aft, g⟩).run P w = .ok (.value (.int .u64 (m - n))) w := by
  rw [X.subw hx hy, wu64 h]
theorem X.mulU (hx : f x = .int .u64 m) (hy : f y = .int .u64 n) (h : 0 ≤ m * n ∧ m * n ≤ 18446744073709551615) : (execOp f ⟨d, .binOp .mul tx x y tz, ty, pos, aft, g⟩).run P w = .ok (.value (.int .u64 (m * n))) w := by
  rw [X.mulw hx hy, wu64 h]
theorem X.quow (hx : f x = .int k m) (hy : f y = .int k n) (h : n ≠ 0) : (execOp f ⟨d, .binOp .quo tx x y tz, ty, pos, aft, g⟩).run P w = .ok (.value (.int k (k.wrap (m.tdiv n)))) w :=
  X.bin hx hy (by simp [go_sem]) (by simp [binOp, Op.intDiv, h])
theorem X.remw (hx : f x = .int k m) (hy : f y = .int k n) (h : n ≠ 0) : (execOp f ⟨d, .binOp .rem tx x y tz, ty, pos, aft, g⟩).run P w = .ok (.value (.int k (m.tmod n))) w :=
  X.bin hx hy (by simp [go_sem]) (by simp [binOp, Op.intDiv, h])
theorem X.rem (hx : f x = .int k m) (hy : f y = .int k n) (h : 0 ≤ m ∧ 0 < n) : (execOp f ⟨d, .binOp .rem tx x y tz, ty, pos, aft, g⟩).run P w = .ok (.value (.int k (m % n))) w := by
  rw [X.remw hx hy (by omega), Int.tmod_eq_emod_of_nonneg h.1]
theorem div_le' {m n : Int} (h0 : 0 ≤ m) (h1 : 0 < n) : 0 ≤ m / n ∧ m / n ≤ m := ⟨Int.ediv_nonneg h0 (by omega), Int.ediv_le_self _ h0⟩
theorem X.quo (hx : f x = .int .i64 m) (hy : f y = .int .i64 n) (h : 0 ≤ m ∧ m ≤ 9223372036854775807 ∧ 0 < n) : (execOp f ⟨d, .binOp .quo tx x y tz, ty, pos, aft, g⟩).run P w = .ok (.value (.int .i64 (m / n))) w := by
  have := div_le' h.1 h.2.2
  rw [X.quow hx hy (by omega), Int.tdiv_eq_ediv_of_nonneg h.1, w64 (by omega)]
theorem X.quoU (hx : f x = .int .u64 m) (hy : f y = .int .u64 n) (h : 0 ≤ m ∧ m ≤ 18446744073709551615 ∧ 0 < n) : (execOp f ⟨d, .binOp .quo tx x y tz, ty, pos, aft, g⟩).run P w = .ok (.value (.int .u64 (m / n))) w := by
  have := div_le' h.1 h.2.2
  rw [X.quow hx hy (by omega), Int.tdiv_eq_ediv_of_nonneg h.1, wu64 (by omega)]
theorem X.quo32 (hx : f x = .int .u32 m) (hy : f y = .int .u32 n) (h : 0 ≤ m ∧ m ≤ 4294967295 ∧ 0 < n) : (execOp f ⟨d, .binOp .quo tx x y tz, ty, pos, aft, g⟩).run P w = .ok (.value (.int .u32 (m / n))) w := by
  have := div_le' h.1 h.2.2
  rw [X.quow hx hy (by omega), Int.tdiv_eq_ediv_of_nonneg h.1, w32 (by omega)]
theorem X.and (hx : f x = .int k m) (hy : f y = .int k n) : (execOp f ⟨d, .binOp .and tx x y tz, ty, pos, aft, g⟩).run P w = .ok (.value (.int k (bits .and k m n))) w :=
  X.bin hx hy (by simp [go_sem]) (by rw [binOp_and]; rfl)
theorem X.or (hx : f x = .int k m) (hy : f y = .int k n) : (execOp f ⟨d, .binOp .or tx x y tz, ty, pos, aft, g⟩).run P w = .ok (.value (.int k (bits .or k m n))) w :=
  X.bin hx hy (by simp [go_sem]) (by rw [binOp_or]; rfl)
theorem X.xor (hx : f x = .int k m) (hy : f y = .int k n) : (execOp f ⟨d, .binOp .xor tx x y tz, ty, pos, aft, g⟩).run P w = .ok (.value (.int k (bits .xor k m n))) w :=
  X.bin hx hy (by simp [go_sem]) (by rw [binOp_xor]; rfl)
theorem X.andNot (hx : f x = .int k m) (hy : f y = .int k n) : (execOp f ⟨d, .binOp .andNot tx x y tz, ty, pos, aft, g⟩).run P w = .ok (.value (.int k (bits .andNot k m n))) w :=
  X.bin hx hy (by simp [go_sem]) (by rw [binOp_andNot]; rfl)
theorem X.shl (hx : f x = .int k m) (hy : f y = .int ky n) (h : 0 ≤ n) : (execOp f ⟨d, .binOp .shl tx x y tz, ty, pos, aft, g⟩).run P w = .ok (.value (.int k (k.wrap (m * 2 ^ min n.toNat k.bits)))) w :=
  X.bin hx hy (by simp [go_sem]) (by rw [binOp_shl, shift_shl_any _ _ _ _ h]; rfl)
theorem X.shr (hx : f x = .int k m) (hy : f y = .int ky n) (h : 0 ≤ n) : (execOp f ⟨d, .binOp .shr tx x y tz, ty, pos, aft, g⟩).run P w = .ok (.value (.int k (m / 2 ^ min n.toNat k.bits))) w :=
  X.bin hx hy (by simp [go_sem]) (by rw [binOp_shr, shift_shr_any _ _ _ _ h]; rfl)
theorem X.eql (hx : f x = .int k m) (hy : f y = .int k n) : (execOp f ⟨d, .binOp .eql tx x y tz, ty, pos, aft, g⟩).run P w = .ok (.value (.bool (decide (m = n)))) w :=
  X.bin hx hy (by simp [go_sem]) (by simp [binOp, Op.intCmp]; rfl)
theorem X.neq (hx : f x = .int k m) (hy : f y = .int k n) : (execOp f ⟨d, .binOp .neq tx x y tz, ty, pos, aft, g⟩).run P w = .ok (.value (.bool (!decide (m = n)))) w :=
  X.bin hx hy (by simp [go_sem]) (by simp [binOp, Op.intCmp]; rfl)
theorem X.lss (hx : f x = .int k m) (hy : f y = .int k n) : (execOp f ⟨d, .binOp .lss tx x y tz, ty, pos, aft, g⟩).run P w = .ok (.value (.bool (decide (m < n)))) w :=
  X.bin hx hy (by simp [go_sem]) (by simp [binOp, Op.intCmp])
theorem X.leq (hx : f x = .int k m) (hy : f y = .int k n) : (execOp f ⟨d, .binOp .leq tx x y tz, ty, pos, aft, g⟩).run P w = .ok (.value (.bool (decide (m ≤ n)))) w :=
  X.bin hx hy (by simp [go_sem]) (by simp [binOp, Op.intCmp])
theorem X.gtr (hx : f x = .int k m) (hy : f y = .int k n) : (execOp f ⟨d, .binOp .gtr tx x y tz, ty, pos, aft, g⟩).run P w = .ok (.value (.bool (decide (n < m)))) w :=
  X.bin hx hy (by simp [go_sem]) (by simp [binOp, Op.intCmp])
theorem X.geq (hx : f x = .int k m) (hy : f y = .int k n) : (execOp f ⟨d, .binOp .geq tx x y tz, ty, pos, aft, g⟩).run P w = .ok (.value (.bool (decide (n ≤ m)))) w :=
  X.bin hx hy (by simp [go_sem]) (by simp [binOp, Op.intCmp])
theorem X.eqlS {a b : ByteArray} (hx : f x = .string a) (hy : f y = .string b) : (execOp f ⟨d, .binOp .eql tx x y tz, ty, pos, aft, g⟩).run P w = .ok (.value (.bool (decide (a = b)))) w :=
  X.bin hx hy (by simp [go_sem]) (by simp [binOp, Op.stringOp, str_dec])
theorem X.neqS {a b : ByteArray} (hx : f x = .string a) (hy : f y = .string b) : (execOp f ⟨d, .binOp .neq tx x y tz, ty, pos, aft, g⟩).run P w = .ok (.value (.bool (!decide (a = b)))) w :=
  X.bin hx hy (by simp [go_sem]) (by simp [binOp, Op.stringOp, str_dec])
theorem X.eqlB {a b : Bool} (hx : f x = .bool a) (hy : f y = .bool b) (ht : P.underlying tx = some .bool) : (execOp f ⟨d, .binOp .eql tx x y tz, ty, pos, aft, g⟩).run P w = .ok (.value (.bool (a == b))) w :=
  X.bin hx hy (by simp [go_sem]) (by simp [binOp, run_equal_bool w tx a b ht])
theorem X.not {b : Bool} (hx : f x = .bool b) : (execOp f ⟨d, .unOp .not t x, ty, pos, aft, g⟩).run P w = .ok (.value (.bool (!b))) w := by
  simp [execOp, hx, go_sem]
theorem X.compl (hx : f x = .int k m) : (execOp f ⟨d, .unOp .xor t x, ty, pos, aft, g⟩).run P w = .ok (.value (.int k (bits .xor k (if k.signed then -1 else k.max) m))) w := by
  simp [execOp, hx, go_sem]
theorem X.negw (hx : f x = .int k m) : (execOp f ⟨d, .unOp .neg t x, ty, pos, aft, g⟩).run P w = .ok (.value (.int k (k.wrap (0 - m)))) w := by
  simp [execOp, hx, unary_neg, Op.intArith]
theorem X.convw (hx : f x = .int k m) (hs : (P.underlying t).isSome = true) (hd : P.underlying tz = some (.int ky)) : (execOp f ⟨d, .convert t tz x, ty, pos, aft, g⟩).run P w = .ok (.value (.int ky (ky.wrap m))) w := by
  obtain ⟨ds, hs'⟩ := Option.isSome_iff_exists.mp hs
  simp [execOp, hx, convert, run_underlying hs', run_underlying hd, Conv.intToInt]
theorem X.convI (hx : f x = .int k m) (hs : (P.underlying t).isSome = true) (hd : P.underlying tz = some (.int .i64)) (h : -9223372036854775808 ≤ m ∧ m ≤ 9223372036854775807) : (execOp f ⟨d, .convert t tz x, ty, pos, aft, g⟩).run P w = .ok (.value (.int .i64 m)) w := by
  rw [X.convw hx hs hd, w64 h]
theorem X.convU (hx : f x = .int k m) (hs : (P.underlying t).isSome = true) (hd : P.underlying tz = some (.int .u64)) (h : 0 ≤ m ∧ m ≤ 18446744073709551615) : (execOp f ⟨d, .convert t tz x, ty, pos, aft, g⟩).run P w = .ok (.value (.int .u64 m)) w := by
  rw [X.convw hx hs hd, wu64 h]
theorem X.conv32 (hx : f x = .int k m) (hs : (P.underlying t).isSome = true) (hd : P.underlying tz = some (.int .u32)) (h : 0 ≤ m ∧ m ≤ 4294967295) : (execOp f ⟨d, .convert t tz x, ty, pos, aft, g⟩).run P w = .ok (.value (.int .u32 m)) w := by
  rw [X.convw hx hs hd, w32 h]
theorem X.conv8 (hx : f x = .int k m) (hs : (P.underlying t).isSome = true) (hd : P.underlying tz = some (.int .u8)) (h : 0 ≤ m ∧ m ≤ 255) : (execOp f ⟨d, .convert t tz x, ty, pos, aft, g⟩).run P w = .ok (.value (.int .u8 m)) w := by
  rw [X.convw hx hs hd, w8 h]
/-- a conversion by a law of its own -/
theorem X.conv (hx : f x = u) (h : (convert t tz u).run P w = .ok v w) : (execOp f ⟨d, .convert t tz x, ty, pos, aft, g⟩).run P w = .ok (.value v) w := by
  simp [execOp, hx, h]
theorem X.indexAddr {A : Option Addr} {q c sz : Nat} (hx : f x = .slice A q c) (hy : f y = .int k m) (ht : P.underlying t = some (.slice e)) (hs : Siz P e sz) (hA : A ≠ none) (hj : 0 ≤ m ∧ m < (q : Int)) : (execOp f ⟨d, .indexAddr t x y, ty, pos, aft, g⟩).run P w = .ok (.value (pA A (m.toNat * sz))) w := by
  cases A with
  | none => exact absurd rfl hA
  | some a => simp [execOp, hx, hy, Instr.indexAt, run_underlying ht, asIntOf, hj, hs.run, pA]
theorem X.index1 {A : Option Addr} {q c : Nat} (hx : f x = .slice A q c) (hy : f y = .int k m) (ht : P.underlying t = some (.slice e)) (hs : Siz P e 1) (hA : A ≠ none) (hj : 0 ≤ m ∧ m < (q : Int)) : (execOp f ⟨d, .indexAddr t x y, ty, pos, aft, g⟩).run P w = .ok (.value (pA A m.toNat)) w := by
  have := X.indexAddr (P := P) (w := w) (d := d) (ty := ty) (pos := pos) (aft := aft) (g := g) hx hy ht hs hA hj
  rwa [Nat.mul_one] at this
theorem X.indexAddrn {A : Option Addr} {q c sz j : Nat} (hx : f x = .slice A q c) (hy : f y = .int k (j : Int)) (ht : P.underlying t = some (.slice e)) (hs : Siz P e sz) (hA : A ≠ none) (hj : j < q) : (execOp f ⟨d, .indexAddr t x y, ty, pos, aft, g⟩).run P w = .ok (.value (pA A (j * sz))) w :=
  X.indexAddr hx hy ht hs hA ⟨by omega, by omega⟩
theorem X.index1n {A : Option Addr} {q c j : Nat} (hx : f x = .slice A q c) (hy : f y = .int k (j : Int)) (ht : P.underlying t = some (.slice e)) (hs : Siz P e 1) (hA : A ≠ none) (hj : j < q) : (execOp f ⟨d, .indexAddr t x y, ty, pos, aft, g⟩).run P w = .ok (.value (pA A j)) w :=
  X.index1 hx hy ht hs hA ⟨by omega, by omega⟩
/-- the place of an array's cell -/
theorem X.indexArr {b o sz q : Nat} (hx : f x = .pointer (some ⟨b, o, none⟩)) (hy : f y = .int k m) (ht : P.underlying t = some (.array q e)) (hs : Siz P e sz) (hj : 0 ≤ m ∧ m < (q : Int)) : (execOp f ⟨d, .indexAddr t x y, ty, pos, aft, g⟩).run P w = .ok (.value (pA (some ⟨b, o, none⟩) (m.toNat * sz))) w := by
  simp [execOp, hx, hy, Instr.indexAt, run_underlying ht, asIntOf, hj, hs.run, pA, Instr.sureAddr]
theorem X.indexArrn {b o sz q j : Nat} (hx : f x = .pointer (some ⟨b, o, none⟩)) (hy : f y = .int k (j : Int)) (ht : P.underlying t = some (.array q e)) (hs : Siz P e sz) (hj : j < q) : (execOp f ⟨d, .indexAddr t x y, ty, pos, aft, g⟩).run P w = .ok (.value (pA (some ⟨b, o, none⟩) (j * sz))) w :=
  X.indexArr hx hy ht hs ⟨by omega, by omega⟩
theorem X.indexStr {s : ByteArray} (hx : f x = .string s) (hy : f y = .int k m) (ht : P.underlying t = some .string) (hj : 0 ≤ m ∧ m < (s.size : Int)) : (execOp f ⟨d, .index t x y, ty, pos, aft, g⟩).run P w = .ok (.value (.int .u8 ((s.data.toList.getD m.toNat 0).toNat : Int))) w := by
  have hlt : m.toNat < s.size := by omega
  have hg : s[m.toNat]? = some s[m.toNat] := by simp [hlt]
  have hd : s.data.toList.getD m.toNat 0 = s[m.toNat] := by
    have : m.toNat < s.data.toList.length := by simpa using hlt
    simp only [List.getD, List.getElem?_eq_getElem this, Option.getD_some]
    rfl
  simp only [execOp, hx, hy, Instr.index, Sem.run_bind, run_underlying ht, Result.andThen_ok, asIntOf, Sem.run_pure, if_pos hj.1, hg, hd]
theorem X.load (hx : f x = p) (hs : Scal P t) (hl : Ld w p v) : (execOp f ⟨d, .load t x, ty, pos, aft, g⟩).run P w = .ok (.value v) w := by
  obtain ⟨a, rfl, hc⟩ := hl
  simp [execOp, hx, Instr.loadAt, Instr.sureAddr, loadVar, hs w, go_sem, hc]
theorem X.loadAgg {b o : Nat} {cs : List Value} {ds : TypeDesc} (hx : f x = .pointer (some ⟨b, o, none⟩)) (hc : w.rangeAt b o cs) (hu : P.underlying t = some ds) (hd : ds.isRow = true) (hi : (P.info? t).map (·.size) = some cs.length) : (execOp f ⟨d, .load t x, ty, pos, aft, g⟩).run P w = .ok (.value (.agg cs.toArray)) w := by
  simp [execOp, hx, run_loadAt_mid w b o t cs ds hc hu hd hi]
theorem X.fieldAddr {b o i sz : Nat} {fs : Array Field} {fd : Field} (hx : f x = .pointer (some ⟨b, o, none⟩)) (ht : P.underlying t = some (.struct fs)) (hi : fs[i]? = some fd) (hz : Siz P fd.type sz) (hpos : 0 < sz): (execOp f ⟨d, .fieldAddr t x i, ty, pos, aft, g⟩).run P w = .ok (.value (.pointer (some ⟨b, o + fd.offset, none⟩))) w := by
  simp only [execOp, hx, Instr.fieldAt, Sem.run_bind, run_underlying ht, Result.andThen_ok, hi, Instr.sureAddr, Sem.run_pure, fieldPlace, hz.run]
  rw [if_neg (by omega)]
  simp only [Sem.run_pure, Result.andThen_ok, Addr.add_mid]
theorem X.nilCheck {a : Addr} (hx : f x = .pointer (some a)) : (execOp f ⟨d, .nilCheck x, ty, pos, aft, g⟩).run P w = .ok (.value (.pointer (some a))) w := by
  simp [execOp, hx]
theorem X.extract {vs : Array Value} {i : Nat} (hx : f x = .tuple vs) (hv : vs[i]? = some v) : (execOp f ⟨d, .extract x i, ty, pos, aft, g⟩).run P w = .ok (.value v) w := by
  simp [execOp, hx, Instr.extract, hv]
/-- a function that has a body -/
def Ent (P : Program) (c : FuncId) : Prop := (match P.funcs[c]? with
  | some fn => !(fn.name == "runtime.NumGoroutine") && fn.body.isSome
  | none => false) = true
theorem Ent.run {c : FuncId} (h : Ent P c) (args : Array Value) (w : World) : (callFunc c args).run P w = .ok (.enter c args) w := by
  unfold Ent at h
  unfold callFunc
  simp only [Sem.run_bind, run_program, Result.andThen_ok]
  cases hf : P.funcs[c]? with
  | none => rw [hf] at h; cases h
  | some fn =>
    rw [hf] at h
    simp only [Bool.and_eq_true, Bool.not_eq_true'] at h
    simp only [h.1]
    have hn : fn.body.isNone = false := by
      cases hb : fn.body with
      | none => rw [hb] at h; cases h.2
      | some _ => rfl
    simp [hn]
theorem X.enter {c : FuncId} {l : List Operand} {ts : Array TypeId} {vs : List Value} (he : Ent P c) (hfn : f (.func c) = .func (.func c) #[] #[]) (hv : l.map f = vs) : (execOp f ⟨d, .call { callee := .value (.func c), args := l.toArray, argTypes := ts }, ty, pos, aft, g⟩).run P w = .ok (.enter c vs.toArray) w := by
  subst hv
  simp only [execOp, resolve, hfn, Deferred.ofValue, Sem.run_bind, Sem.run_pure, Result.andThen_ok, invoke, List.map_toArray, Array.append_empty, Array.empty_append, he.run]
end
end Go.Proofs.Ytdmfikedojgjbaa.H
