import Derived.Test.YtlipeplfjkgamaaBase
import Derived.LoopN
import Derived.IntWalk
import Derived.Deep.MidRow
import Derived.ChangeKeysEq
import Derived.Lib.Strings
import Derived.Deep.Onto
import Derived.OrdersHeld
import Derived.BigQuiet
import Derived.Laws.Pointers
import Derived.Laws.Small
/-
  A logic over the kit's: frames as functions of their slots, each operation by one law; no walk rewrites the context. Control, and the operations that touch no memory or read it.
-/
namespace Go.Proofs.Ytlipeplfjkgamaa.H
open Go.RowKit
set_option linter.unusedSimpArgs false
abbrev Fr := Nat → Value
/-- a frame: what was put lately, over a base -/
def lk : List (Nat × Value) → Fr → Fr
  | [], b, j => b j
  | (k, v) :: t, b, j => bif Nat.beq j k then v else lk t b j
/-- a base that is unknown at some slots -/
def hav (M : List Nat) (g b : Fr) : Fr := fun j => bif M.contains j then g j else b j
def ev (f : Fr) : Operand → Value
  | .tmp t => f t
  | .const v => v
  | .global g => .pointer (some ⟨g, 0, none⟩)
  | .func n => .func (.func n) #[] #[]
structure Rep (n : Nat) (f : Fr) (a : Act) : Prop where
  size : a.tmps.size = n
  defers : a.defers = []
  get : ∀ j, a.tmps.getD j undef = f j
def lft (n : Nat) (Q : Exit → Fr → World → Prop) (e : Exit) (a : Act) (w : World) : Prop := ∃ f, Rep n f a ∧ Q e f w
def fitO (n : Nat) (o : Oper) : Bool := match o.dst with
  | some d => Nat.blt d n
  | none => true
def fitC (n : Nat) : Code → Bool
  | .region _ ops _ => ops.toList.all (fitO n)
  | .seq a b => fitC n a && fitC n b
  | .cond _ a b => fitC n a && fitC n b
  | .block _ c => fitC n c
  | .loop c => fitC n c
  | .scope c => fitC n c
  | .rangeFunc _ _ _ _ => false
  | _ => true
def yl (ops : List Oper) (f : Fr) (j : Nat) : Option Bool := match (ops[j]?).bind (·.dst) with
  | some d => (match f d with
    | .bool b => some b
    | _ => none)
  | none => none
def wn (ops : List Oper) (f : Fr) : Option (Nat × Bool) → Bool
  | none => true
  | some (j, b) => yl ops f j == some b
def putO (f : Fr) (d : Option Tmp) (v : Value) : Fr := match d with
  | some k => lk [(k, v)] f
  | none => f

theorem Rep.eval {n : Nat} {f : Fr} {a : Act} (h : Rep n f a) : a.eval = ev f := by
  funext x
  cases x <;> simp only [Act.eval, ev]
  exact h.get _
theorem Rep.put {n : Nat} {f : Fr} {a : Act} (h : Rep n f a) {d : Option Tmp} (v : Value) (hd : (match d with | some k => Nat.blt k n | none => true) = true) : Rep n (putO f d v) (a.put d v) := by
  cases d with
  | none => exact h
  | some k =>
    have hk : k < n := by simpa using hd
    refine ⟨by simp [Act.put, h.size], h.defers, fun j => ?_⟩
    show (a.tmps.setIfInBounds k v).getD j undef = bif Nat.beq j k then v else f j
    rw [← h.get j]
    by_cases hj : j = k
    · subst hj
      have hb : Nat.beq j j = true := Nat.beq_refl j
      rw [hb, Array.getD_eq_getD_getElem?, Array.getElem?_setIfInBounds_self_of_lt (by rw [h.size]; exact hk)]
      rfl
    · have hb : Nat.beq j k = false := by
        cases hbb : Nat.beq j k with
        | false => rfl
        | true => exact absurd (Nat.eq_of_beq_eq_true hbb) hj
      rw [hb, Array.getD_eq_getD_getElem?, Array.getD_eq_getD_getElem?, Array.getElem?_setIfInBounds_ne (by omega)]
      rfl
theorem wanted_eq {n : Nat} {f : Fr} {a : Act} (h : Rep n f a) (ops : List Oper) (o : Oper) : Region.wanted o (yielded ops.toArray a.tmps) = wn ops f o.guard := by
  unfold Region.wanted wn
  cases hg : o.guard with
  | none => rfl
  | some jb =>
    obtain ⟨j, b⟩ := jb
    simp only
    congr 1
    unfold yielded yl
    rw [show (ops.toArray)[j]? = ops[j]? by simp]
    cases hd : (ops[j]?).bind (·.dst) with
    | none => rfl
    | some d =>
      simp only [Option.bind_some]
      have h1 := h.get d
      rw [Array.getD_eq_getD_getElem?] at h1
      rw [← h1]
      cases he : a.tmps[d]? with
      | none => rfl
      | some v => cases v <;> rfl

/-- lists of operations, in the order of the text -/
def L (P : Program) (n : Nat) (ops : List Oper) (Q : Exit → Fr → World → Prop) (l : List Oper) (f : Fr) (w : World) : Prop :=
  l.all (fitO n) = true → ∀ a, Rep n f a → wpList P ops.toArray (lft n Q) l a w
/-- code -/
def J (P : Program) (n : Nat) (c : Code) (Q : Exit → Fr → World → Prop) (f : Fr) (w : World) : Prop :=
  fitC n c = true → ∀ a, Rep n f a → c.wp P (lft n Q) a w
section
variable {P : Program} {n : Nat} {ops rest : List Oper} {Q : Exit → Fr → World → Prop} {f : Fr} {w w' : World} {o : Oper} {v : Value}
theorem L.nil (h : Q .normal f w) : L P n ops Q [] f w := fun _ _ hr => ⟨f, hr, h⟩
/-- an operation yields a value -/
theorem L.val (hg : wn ops f o.guard = true) (hx : (execOp (ev f) o).run P w = .ok (.value v) w') (h : L P n ops Q rest (putO f o.dst v) w') : L P n ops Q (o :: rest) f w := by
  intro hf a hr
  simp only [List.all_cons, Bool.and_eq_true] at hf
  refine wpList_step fun K hK => ?_
  rw [wanted_eq hr, hg, if_pos rfl]
  unfold Oper.wp
  rw [hr.eval, hx]
  exact hK _ _ (h hf.2 _ (hr.put v hf.1))
theorem L.skip (hg : wn ops f o.guard = true) (hx : (execOp (ev f) o).run P w = .ok .skip w') (h : L P n ops Q rest (putO f o.dst undef) w') : L P n ops Q (o :: rest) f w := by
  intro hf a hr
  simp only [List.all_cons, Bool.and_eq_true] at hf
  refine wpList_step fun K hK => ?_
  rw [wanted_eq hr, hg, if_pos rfl]
  unfold Oper.wp
  rw [hr.eval, hx]
  exact hK _ _ (h hf.2 _ (hr.put undef hf.1))
theorem L.off (hg : wn ops f o.guard = false) (h : L P n ops Q rest (putO f o.dst undef) w) : L P n ops Q (o :: rest) f w := by
  intro hf a hr
  simp only [List.all_cons, Bool.and_eq_true] at hf
  refine wpList_step fun K hK => ?_
  rw [wanted_eq hr, hg]
  exact hK _ _ (h hf.2 _ (hr.put undef hf.1))
/-- a call of a Go function -/
theorem L.enter {fn : FuncId} {args : Array Value} {R : Ending → World → Prop} (hg : wn ops f o.guard = true) (hx : (execOp (ev f) o).run P w = .ok (.enter fn args) w) (hc : Calls P fn args w R)
    (h : ∀ e w', R e w' → ∃ v, e = .returned v ∧ L P n ops Q rest (putO f o.dst v) w') : L P n ops Q (o :: rest) f w := by
  intro hf a hr
  simp only [List.all_cons, Bool.and_eq_true] at hf
  refine wpList_step fun K hK => ?_
  rw [wanted_eq hr, hg, if_pos rfl]
  unfold Oper.wp
  rw [hr.eval, hx]
  refine hc.mono fun e w'' hR => ?_
  obtain ⟨v, rfl, hl⟩ := h e w'' hR
  exact hK _ _ (hl hf.2 _ (hr.put v hf.1))
/-- an operation by any law of the kit's -/
theorem L.law (hg : wn ops f o.guard = true)
    (h : ∀ a, Rep n f a → ∀ K : Act → World → Prop, (∀ v w', L P n ops Q rest (putO f o.dst v) w' → K (a.put o.dst v) w') → o.wp P a w K (lft n Q)) : L P n ops Q (o :: rest) f w := by
  intro hf a hr
  simp only [List.all_cons, Bool.and_eq_true] at hf
  refine wpList_step fun K hK => ?_
  rw [wanted_eq hr, hg, if_pos rfl]
  exact h a hr K fun v w' hl => hK _ _ (hl hf.2 _ (hr.put v hf.1))

/-- the same, the operation written out -/
theorem L.va {k : Nat} {op : Op} {ty : TypeId} {pos : String} {aft : Array Edge} {g : Option (Nat × Bool)} (hg : wn ops f g = true) (hx : (execOp (ev f) ⟨some k, op, ty, pos, aft, g⟩).run P w = .ok (.value v) w') (h : L P n ops Q rest (lk [(k, v)] f) w') : L P n ops Q (⟨some k, op, ty, pos, aft, g⟩ :: rest) f w := L.val hg hx h
theorem L.va0 {op : Op} {ty : TypeId} {pos : String} {aft : Array Edge} {g : Option (Nat × Bool)} (hg : wn ops f g = true) (hx : (execOp (ev f) ⟨none, op, ty, pos, aft, g⟩).run P w = .ok (.value v) w') (h : L P n ops Q rest f w') : L P n ops Q (⟨none, op, ty, pos, aft, g⟩ :: rest) f w := L.val hg hx h
theorem L.no {k : Nat} {op : Op} {ty : TypeId} {pos : String} {aft : Array Edge} {g : Option (Nat × Bool)} (hg : wn ops f g = false) (h : L P n ops Q rest (lk [(k, undef)] f) w) : L P n ops Q (⟨some k, op, ty, pos, aft, g⟩ :: rest) f w := L.off hg h
theorem L.no0 {op : Op} {ty : TypeId} {pos : String} {aft : Array Edge} {g : Option (Nat × Bool)} (hg : wn ops f g = false) (h : L P n ops Q rest f w) : L P n ops Q (⟨none, op, ty, pos, aft, g⟩ :: rest) f w := L.off hg h
theorem putO_some (f : Fr) (k : Nat) (v : Value) : putO f (some k) v = lk [(k, v)] f := rfl
/-- one frame for another that reads alike -/
theorem L.same {f' : Fr} (hf : f' = f) (h : L P n ops Q rest f' w) : L P n ops Q rest f w := by rw [← hf]; exact h
theorem lk_cons (k : Nat) (v : Value) (l : List (Nat × Value)) (b : Fr) : lk [(k, v)] (lk l b) = lk ((k, v) :: l) b := rfl

/-! ### code -/
def thn (K : Fr → World → Prop) (Q : Exit → Fr → World → Prop) : Exit → Fr → World → Prop
  | .normal, f, w => K f w
  | e, f, w => Q e f w
def inB (id : Nat) (Q : Exit → Fr → World → Prop) : Exit → Fr → World → Prop
  | .exit k, f, w => bif Nat.beq k id then Q .normal f w else Q (.exit k) f w
  | e, f, w => Q e f w
variable {x y c : Code}
theorem J.seq (h : J P n x (thn (J P n y Q) Q) f w) : J P n (.seq x y) Q f w := by
  intro hf a hr
  simp only [fitC, Bool.and_eq_true] at hf
  refine wp_seq (wp_mono (h hf.1 a hr) ?_)
  rintro e a' w' ⟨f', hr', hq⟩
  cases e
  case normal => exact hq hf.2 a' hr'
  all_goals exact ⟨f', hr', hq⟩
theorem J.region {id : Nat} {l : List Oper} (h : L P n l Q l f w) : J P n (.region id l.toArray false) Q f w := by
  intro hf a hr
  simp only [fitC] at hf
  exact wp_region_lit (h hf a hr)
theorem J.ite {o : Operand} {b : Bool} (hc : ev f o = .bool b) (ht : b = true → J P n x Q f w) (he : b = false → J P n y Q f w) : J P n (.cond o x y) Q f w := by
  intro hf a hr
  simp only [fitC, Bool.and_eq_true] at hf
  refine wp_cond_split (t := b) (by rw [hr.eval]; exact hc) (fun h => ht h hf.1 a hr) (fun h => he h hf.2 a hr)
theorem J.dec {o : Operand} {p : Prop} [Decidable p] (hc : ev f o = .bool (decide p)) (ht : p → J P n x Q f w) (he : ¬ p → J P n y Q f w) : J P n (.cond o x y) Q f w :=
  J.ite hc (fun h => ht (of_decide_eq_true h)) (fun h => he (of_decide_eq_false h))
theorem J.ndec {o : Operand} {p : Prop} [Decidable p] (hc : ev f o = .bool (!decide p)) (ht : ¬ p → J P n x Q f w) (he : p → J P n y Q f w) : J P n (.cond o x y) Q f w :=
  J.ite hc (fun h => ht (by simpa using h)) (fun h => he (by simpa using h))
theorem J.skip (h : Q .normal f w) : J P n .skip Q f w := fun _ _ hr => wp_skip ⟨f, hr, h⟩
theorem J.ret (h : Q .ret f w) : J P n .ret Q f w := fun _ _ hr => wp_ret ⟨f, hr, h⟩
theorem J.exit {k : Nat} (h : Q (.exit k) f w) : J P n (.exit k) Q f w := fun _ _ hr => wp_exit ⟨f, hr, h⟩
theorem J.block {id : Nat} (h : J P n c (inB id Q) f w) : J P n (.block id c) Q f w := by
  intro hf a hr
  simp only [fitC] at hf
  refine wp_block (wp_mono (h hf a hr) ?_)
  rintro e a' w' ⟨f', hr', hq⟩
  cases e
  case exit k =>
    simp only [inB] at hq
    simp only [Exit.inBlock]
    by_cases hk : k = id
    · subst hk
      rw [show Nat.beq k k = true from Nat.beq_refl k] at hq
      rw [if_pos rfl]
      exact ⟨f', hr', hq⟩
    · have hb : Nat.beq k id = false := by
        cases hbb : Nat.beq k id with
        | false => rfl
        | true => exact absurd (Nat.eq_of_beq_eq_true hbb) hk
      rw [hb] at hq
      rw [if_neg hk]
      exact ⟨f', hr', hq⟩
  all_goals exact ⟨f', hr', hq⟩
theorem J.cong {Q' : Exit → Fr → World → Prop} (h : J P n c Q' f w) (hq : ∀ e f w, Q' e f w → Q e f w) : J P n c Q f w := by
  intro hf a hr
  refine wp_mono (h hf a hr) ?_
  rintro e a' w' ⟨f', hr', hq'⟩
  exact ⟨f', hr', hq _ _ _ hq'⟩
/-- slots hold values -/
def At (f : Fr) : List (Nat × Value) → Prop
  | [] => True
  | (k, v) :: t => f k = v ∧ At f t
/-- two frames agree but for some slots -/
def Agr (M : List Nat) (f' f : Fr) : Prop := ∀ j, M.contains j = false → f' j = f j
theorem Agr.rfl' {M : List Nat} {f : Fr} : Agr M f f := fun _ _ => rfl
theorem Agr.hav {M M' : List Nat} {g f f' : Fr} (hM : (M'.all fun k => M.contains k) = true) (h : Agr M f' f) : Agr M (hav M' g f') f := by
  intro j hj
  rw [← h j hj]
  unfold H.hav
  cases hc : M'.contains j with
  | false => rfl
  | true =>
    have := List.all_eq_true.1 hM j (List.contains_iff_mem.1 hc)
    rw [hj] at this
    cases this
theorem Agr.lk {M : List Nat} {l : List (Nat × Value)} {f f' : Fr} (hl : (l.all fun p => M.contains p.1) = true) (h : Agr M f' f) : Agr M (lk l f') f := by
  induction l with
  | nil => exact h
  | cons p t ih =>
    simp only [List.all_cons, Bool.and_eq_true] at hl
    intro j hj
    obtain ⟨k, v⟩ := p
    show (bif Nat.beq j k then v else H.lk t f' j) = f j
    have hb : Nat.beq j k = false := by
      cases hbb : Nat.beq j k with
      | false => rfl
      | true =>
        have := Nat.eq_of_beq_eq_true hbb
        subst this
        rw [hj] at hl
        cases hl.1
    rw [hb]
    exact ih hl.2 j hj
theorem frame_of {M : List Nat} {S : List (Nat × Value)} {f' f : Fr} (ha : Agr M f' f) (hs : At f' S) : f' = lk S (hav M f' f) := by
  funext j
  induction S with
  | nil =>
    show f' j = bif M.contains j then f' j else f j
    cases hc : M.contains j with
    | false => exact ha j hc
    | true => rfl
  | cons p t ih =>
    obtain ⟨k, v⟩ := p
    obtain ⟨h1, h2⟩ := hs
    show f' j = bif Nat.beq j k then v else lk t (hav M f' f) j
    cases hb : Nat.beq j k with
    | false => exact ih h2
    | true =>
      have := Nat.eq_of_beq_eq_true hb
      subst this
      exact h1
/-- where a loop's head, or a cut, is met: some state x: its slots, and what it says of the world -/
def Met {X : Type} (M : List Nat) (S : X → List (Nat × Value)) (I : X → World → Prop) (f0 : Fr) (f : Fr) (w : World) : Prop :=
  ∃ x, At f (S x) ∧ Agr M f f0 ∧ I x w
theorem J.cut {X : Type} (M : List Nat) (S : X → List (Nat × Value)) (I : X → World → Prop)
    (h1 : J P n x (thn (Met M S I f) Q) f w) (h2 : ∀ (s : X) (g : Fr) (w' : World), I s w' → J P n y Q (lk (S s) (hav M g f)) w') : J P n (.seq x y) Q f w := by
  refine J.seq (J.cong h1 ?_)
  intro e f' w' hq
  cases e
  case normal =>
    obtain ⟨s, hs, ha, hi⟩ := hq
    show J P n y Q f' w'
    rw [frame_of ha hs]
    exact h2 s f' w' hi
  all_goals exact hq
theorem J.loop {X : Type} (M : List Nat) (S : X → List (Nat × Value)) (I : X → World → Prop) (μ : X → Nat) (x0 : X) (h0 : At f (S x0)) (hI : I x0 w)
    (h : ∀ (s : X) (g : Fr) (w' : World), I s w' → J P n c (thn (Met M S (fun s' w'' => I s' w'' ∧ μ s' < μ s) f) Q) (lk (S s) (hav M g f)) w') : J P n (.loop c) Q f w := by
  intro hf a hr
  simp only [fitC] at hf
  have key : ∀ (m : Nat) (s : X) (g : Fr) (a : Act) (w' : World), μ s < m → I s w' → Rep n (lk (S s) (hav M g f)) a → Code.rounds P c (lft n Q) m a w' := by
    intro m
    induction m with
    | zero => intro s g a w' hm; exact absurd hm (Nat.not_lt_zero _)
    | succ m ih =>
      intro s g a w' hm hi hr
      rw [rounds_succ]
      refine wp_mono (h s g w' hi hf a hr) ?_
      rintro e a' w'' ⟨f', hr', hq⟩
      cases e
      case normal =>
        obtain ⟨s', hs, ha, hi', hlt⟩ := hq
        exact ih s' f' a' w'' (by omega) hi' (by rw [← frame_of ha hs]; exact hr')
      all_goals exact ⟨f', hr', hq⟩
  exact wp_loop_rounds (μ x0 + 1) (key _ x0 f a w (Nat.lt_succ_self _) hI (by rw [← frame_of Agr.rfl' h0]; exact hr))
end
/-- facts on types -/
def Scal (P : Program) (t : TypeId) : Prop := ∀ w : World, (isAgg t).run P w = .ok false w
theorem Scal.of {P : Program} {t : TypeId} {d : TypeDesc} (h : P.underlying t = some d) (hd : (match d with | .struct _ | .array _ _ => true | _ => false) = false) : Scal P t := by
  intro w
  simp only [isAgg, Sem.run_bind, run_underlying h, Result.andThen_ok]
  cases d <;> first | rfl | cases hd
def Siz (P : Program) (t : TypeId) (n : Nat) : Prop := ∃ i, P.info? t = some i ∧ i.size = n
theorem Siz.of {P : Program} {t : TypeId} {n : Nat} (h : (P.info? t).map (·.size) = some n) : Siz P t n := by
  cases hi : P.info? t with
  | none => rw [hi] at h; cases h
  | some i => rw [hi] at h; injection h with h; exact ⟨i, hi, h⟩
theorem Siz.run {P : Program} {t : TypeId} {n : Nat} (h : Siz P t n) (w : World) : (sizeOf t).run P w = .ok n w := by
  obtain ⟨i, hi, rfl⟩ := h
  simp [sizeOf, typeInfo, hi]
/-- the place of the j-th cell from an address on -/
def pA (A : Option Addr) (j : Nat) : Value := .pointer (A.map (·.add j))
/-- what lies where a pointer points -/
def Ld (w : World) (p : Value) (v : Value) : Prop := ∃ a, p = .pointer (some a) ∧ w.cell? a = some v
theorem Ld.at_ {w : World} {a : Addr} {v : Value} (h : w.cell? a = some v) : Ld w (.pointer (some a)) v := ⟨a, rfl, h⟩
section
variable {P : Program} {f : Operand → Value} {w : World} {d : Option Tmp} {ty : TypeId} {pos : String} {aft : Array Edge} {g : Option (Nat × Bool)} {x y z : Operand} {v u p : Value} {k kx ky kz : IntKind} {m n : Int} {t tx tz e : TypeId}
theorem str_dec (a b : ByteArray) : (a.toList == b.toList) = decide (a = b) := by
  rw [Bool.eq_iff_iff, beq_iff_eq, decide_eq_true_iff, Lib.toList_data, Lib.toList_data]
  constructor
  · intro h
    cases a; cases b
    simp only at h
    rw [Array.toList_inj.1 h]
  · intro h; rw [h]
theorem X.move (hx : f x = v) : (execOp f ⟨d, .move x, ty, pos, aft, g⟩).run P w = .ok (.value v) w := by
  simp [execOp, hx, go_sem]
theorem X.assign (hx : f x = v) : (execOp f ⟨d, .assign x, ty, pos, aft, g⟩).run P w = .ok (.value v) w := by
  simp [execOp, hx, go_sem]
theorem X.pickT (hc : f z = .bool true) (hx : f x = v) : (execOp f ⟨d, .pick z x y, ty, pos, aft, g⟩).run P w = .ok (.value v) w := by
  simp [execOp, hx, hc, go_sem]
theorem X.pickF (hc : f z = .bool false) (hy : f y = u) : (execOp f ⟨d, .pick z x y, ty, pos, aft, g⟩).run P w = .ok (.value u) w := by
  simp [execOp, hy, hc, go_sem]
theorem X.len {A : Option Addr} {q c : Nat} (hx : f x = .slice A q c) (ht : P.underlying t = some (.slice e)) : (execOp f ⟨d, .call { callee := .builtin .len, args := #[x], argTypes := #[t] }, ty, pos, aft, g⟩).run P w = .ok (.value (.int .i64 (q : Int))) w := by
  simp [execOp, hx, go_sem, Builtin.len_, run_underlying ht]
theorem X.lens {s : ByteArray} (hx : f x = .string s) (ht : P.underlying t = some .string) : (execOp f ⟨d, .call { callee := .builtin .len, args := #[x], argTypes := #[t] }, ty, pos, aft, g⟩).run P w = .ok (.value (.int .i64 (s.size : Int))) w := by
  simp [execOp, hx, go_sem, Builtin.len_, run_underlying ht]
/-- a binary operation, by the law of its own -/
theorem X.bin {op : BinOp} (hx : f x = u) (hy : f y = v) (hg : eqGuard op tx x y u v = pure ()) (h : (binOp op tx u v).run P w = .ok p w) : (execOp f ⟨d, .binOp op tx x y tz, ty, pos, aft, g⟩).run P w = .ok (.value p) w := by
  simp [execOp, hx, hy, hg, h]
theorem X.addw (hx : f x = .int k m) (hy : f y = .int k n) : (execOp f ⟨d, .binOp .add tx x y tz, ty, pos, aft, g⟩).run P w = .ok (.value (.int k (k.wrap (m + n)))) w :=
  X.bin hx hy (by simp [go_sem]) (by simp [binOp, Op.intArith])
theorem X.subw (hx : f x = .int k m) (hy : f y = .int k n) : (execOp f ⟨d, .binOp .sub tx x y tz, ty, pos, aft, g⟩).run P w = .ok (.value (.int k (k.wrap (m - n)))) w :=
  X.bin hx hy (by simp [go_sem]) (by simp [binOp, Op.intArith])
theorem X.mulw (hx : f x = .int k m) (hy : f y = .int k n) : (execOp f ⟨d, .binOp .mul tx x y tz, ty, pos, aft, g⟩).run P w = .ok (.value (.int k (k.wrap (m * n)))) w :=
  X.bin hx hy (by simp [go_sem]) (by simp [binOp, Op.intArith])
theorem w64 {m : Int} (h : -9223372036854775808 ≤ m ∧ m ≤ 9223372036854775807) : IntKind.i64.wrap m = m := IntWalk.i64_in _ h
theorem w32 {m : Int} (h : 0 ≤ m ∧ m ≤ 4294967295) : IntKind.u32.wrap m = m := by simp [IntKind.wrap, IntKind.bits, IntKind.signed]; omega
theorem w8 {m : Int} (h : 0 ≤ m ∧ m ≤ 255) : IntKind.u8.wrap m = m := by simp [IntKind.wrap, IntKind.bits, IntKind.signed]; omega
theorem wu64 {m : Int} (h : 0 ≤ m ∧ m ≤ 18446744073709551615) : IntKind.u64.wrap m = m := by simp [IntKind.wrap, IntKind.bits, IntKind.signed]; omega
theorem X.add (hx : f x = .int .i64 m) (hy : f y = .int .i64 n) (h : -9223372036854775808 ≤ m + n ∧ m + n ≤ 9223372036854775807) : (execOp f ⟨d, .binOp .add tx x y tz, ty, pos, aft, g⟩).run P w = .ok (.value (.int .i64 (m + n))) w := by
  rw [X.addw hx hy, w64 h]
theorem X.sub (hx : f x = .int .i64 m) (hy : f y = .int .i64 n) (h : -9223372036854775808 ≤ m - n ∧ m - n ≤ 9223372036854775807) : (execOp f ⟨d, .binOp .sub tx x y tz, ty, pos, aft, g⟩).run P w = .ok (.value (.int .i64 (m - n))) w := by
  rw [X.subw hx hy, w64 h]
theorem X.mul (hx : f x = .int .i64 m) (hy : f y = .int .i64 n) (h : -9223372036854775808 ≤ m * n ∧ m * n ≤ 9223372036854775807) : (execOp f ⟨d, .binOp .mul tx x y tz, ty, pos, aft, g⟩).run P w = .ok (.value (.int .i64 (m * n))) w := by
  rw [X.mulw hx hy, w64 h]
theorem X.addU (hx : f x = .int .u64 m) (hy : f y = .int .u64 n) (h : 0 ≤ m + n ∧ m + n ≤ 18446744073709551615) : (execOp f ⟨d, .binOp .add tx x y tz, ty, pos, aft, g⟩).run P w = .ok (.value (.int .u64 (m + n))) w := by
  rw [X.addw hx hy, wu64 h]
theorem X.subU (hx : f x = .int .u64 m) (hy : f y = .int .u64 n) (h : 0 ≤ m - n ∧ m - n ≤ 18446744073709551615) : (execOp f ⟨d, .binOp .sub tx x y tz, ty, pos, aft, g⟩).run P w = .ok (.value (.int .u64 (m - n))) w := by
  rw [X.subw hx hy, wu64 h]
theorem X.mulU (hx : f x = .int .u64 m) (hy : f y = .int .u64 n) (h : 0 ≤ m * n ∧ m * n ≤ 18446744073709551615) : (execOp f ⟨d, .binOp .mul tx x y tz, ty, pos, aft, g⟩).run P w = .ok (.value (.int .u64 (m * n))) w := by
  rw [X.mulw hx hy, wu64 h]
theorem X.quow (hx : f x = .int k m) (hy : f y = .int k n) (h : n ≠ 0) : (execOp f ⟨d, .binOp .quo tx x y tz, ty, pos, aft, g⟩).run P w = .ok (.value (.int k (k.wrap (m.tdiv n)))) w :=
  X.bin hx hy (by simp [go_sem]) (by simp [binOp, Op.intDiv, h])
theorem X.remw (hx : f x = .int k m) (hy : f y = .int k n) (h : n ≠ 0) : (execOp f ⟨d, .binOp .rem tx x y tz, ty, pos, aft, g⟩).run P w = .ok (.value (.int k (m.tmod n))) w :=
  X.bin hx hy (by simp [go_sem]) (by simp [binOp, Op.intDiv, h])
theorem X.rem (hx : f x = .int k m) (hy : f y = .int k n) (h : 0 ≤ m ∧ 0 < n) : (execOp f ⟨d, .binOp .rem tx x y tz, ty, pos, aft, g⟩).run P w = .ok (.value (.int k (m % n))) w := by
  rw [X.remw hx hy (by omega), Int.tmod_eq_emod_of_nonneg h.1]
theorem div_le' {m n : Int} (h0 : 0 ≤ m) (h1 : 0 < n) : 0 ≤ m / n ∧ m / n ≤ m := ⟨Int.ediv_nonneg h0 (by omega), Int.ediv_le_self _ h0⟩
theorem X.quo (hx : f x = .int .i64 m) (hy : f y = .int .i64 n) (h : 0 ≤ m ∧ m ≤ 9223372036854775807 ∧ 0 < n) : (execOp f ⟨d, .binOp .quo tx x y tz, ty, pos, aft, g⟩).run P w = .ok (.value (.int .i64 (m / n))) w := by
  have := div_le' h.1 h.2.2
  rw [X.quow hx hy (by omega), Int.tdiv_eq_ediv_of_nonneg h.1, w64 (by omega)]
theorem X.quoU (hx : f x = .int .u64 m) (hy : f y = .int .u64 n) (h : 0 ≤ m ∧ m ≤ 18446744073709551615 ∧ 0 < n) : (execOp f ⟨d, .binOp .quo tx x y tz, ty, pos, aft, g⟩).run P w = .ok (.value (.int .u64 (m / n))) w := by
  have := div_le' h.1 h.2.2
  rw [X.quow hx hy (by omega), Int.tdiv_eq_ediv_of_nonneg h.1, wu64 (by omega)]
theorem X.quo32 (hx : f x = .int .u32 m) (hy : f y = .int .u32 n) (h : 0 ≤ m ∧ m ≤ 4294967295 ∧ 0 < n) : (execOp f ⟨d, .binOp .quo tx x y tz, ty, pos, aft, g⟩).run P w = .ok (.value (.int .u32 (m / n))) w := by
  have := div_le' h.1 h.2.2
  rw [X.quow hx hy (by omega), Int.tdiv_eq_ediv_of_nonneg h.1, w32 (by omega)]
theorem X.and (hx : f x = .int k m) (hy : f y = .int k n) : (execOp f ⟨d, .binOp .and tx x y tz, ty, pos, aft, g⟩).run P w = .ok (.value (.int k (bits .and k m n))) w :=
  X.bin hx hy (by simp [go_sem]) (by rw [binOp_and]; rfl)
theorem X.or (hx : f x = .int k m) (hy : f y = .int k n) : (execOp f ⟨d, .binOp .or tx x y tz, ty, pos, aft, g⟩).run P w = .ok (.value (.int k (bits .or k m n))) w :=
  X.bin hx hy (by simp [go_sem]) (by rw [binOp_or]; rfl)
theorem X.xor (hx : f x = .int k m) (hy : f y = .int k n) : (execOp f ⟨d, .binOp .xor tx x y tz, ty, pos, aft, g⟩).run P w = .ok (.value (.int k (bits .xor k m n))) w :=
  X.bin hx hy (by simp [go_sem]) (by rw [binOp_xor]; rfl)
theorem X.andNot (hx : f x = .int k m) (hy : f y = .int k n) : (execOp f ⟨d, .binOp .andNot tx x y tz, ty, pos, aft, g⟩).run P w = .ok (.value (.int k (bits .andNot k m n))) w :=
  X.bin hx hy (by simp [go_sem]) (by rw [binOp_andNot]; rfl)
theorem X.shl (hx : f x = .int k m) (hy : f y = .int ky n) (h : 0 ≤ n) : (execOp f ⟨d, .binOp .shl tx x y tz, ty, pos, aft, g⟩).run P w = .ok (.value (.int k (k.wrap (m * 2 ^ min n.toNat k.bits)))) w :=
  X.bin hx hy (by simp [go_sem]) (by rw [binOp_shl, shift_shl_any _ _ _ _ h]; rfl)
theorem X.shr (hx : f x = .int k m) (hy : f y = .int ky n) (h : 0 ≤ n) : (execOp f ⟨d, .binOp .shr tx x y tz, ty, pos, aft, g⟩).run P w = .ok (.value (.int k (m / 2 ^ min n.toNat k.bits))) w :=
  X.bin hx hy (by simp [go_sem]) (by rw [binOp_shr, shift_shr_any _ _ _ _ h]; rfl)
theorem X.eql (hx : f x = .int k m) (hy : f y = .int k n) : (execOp f ⟨d, .binOp .eql tx x y tz, ty, pos, aft, g⟩).run P w = .ok (.value (.bool (decide (m = n)))) w :=
  X.bin hx hy (by simp [go_sem]) (by simp [binOp, Op.intCmp]; rfl)
theorem X.neq (hx : f x = .int k m) (hy : f y = .int k n) : (execOp f ⟨d, .binOp .neq tx x y tz, ty, pos, aft, g⟩).run P w = .ok (.value (.bool (!decide (m = n)))) w :=
  X.bin hx hy (by simp [go_sem]) (by simp [binOp, Op.intCmp]; rfl)
theorem X.lss (hx : f x = .int k m) (hy : f y = .int k n) : (execOp f ⟨d, .binOp .lss tx x y tz, ty, pos, aft, g⟩).run P w = .ok (.value (.bool (decide (m < n)))) w :=
  X.bin hx hy (by simp [go_sem]) (by simp [binOp, Op.intCmp])
theorem X.leq (hx : f x = .int k m) (hy : f y = .int k n) : (execOp f ⟨d, .binOp .leq tx x y tz, ty, pos, aft, g⟩).run P w = .ok (.value (.bool (decide (m ≤ n)))) w :=
  X.bin hx hy (by simp [go_sem]) (by simp [binOp, Op.intCmp])
theorem X.gtr (hx : f x = .int k m) (hy : f y = .int k n) : (execOp f ⟨d, .binOp .gtr tx x y tz, ty, pos, aft, g⟩).run P w = .ok (.value (.bool (decide (n < m)))) w :=
  X.bin hx hy (by simp [go_sem]) (by simp [binOp, Op.intCmp])
theorem X.geq (hx : f x = .int k m) (hy : f y = .int k n) : (execOp f ⟨d, .binOp .geq tx x y tz, ty, pos, aft, g⟩).run P w = .ok (.value (.bool (decide (n ≤ m)))) w :=
  X.bin hx hy (by simp [go_sem]) (by simp [binOp, Op.intCmp])
theorem X.eqlS {a b : ByteArray} (hx : f x = .string a) (hy : f y = .string b) : (execOp f ⟨d, .binOp .eql tx x y tz, ty, pos, aft, g⟩).run P w = .ok (.value (.bool (decide (a = b)))) w :=
  X.bin hx hy (by simp [go_sem]) (by simp [binOp, Op.stringOp, str_dec])
theorem X.neqS {a b : ByteArray} (hx : f x = .string a) (hy : f y = .string b) : (execOp f ⟨d, .binOp .neq tx x y tz, ty, pos, aft, g⟩).run P w = .ok (.value (.bool (!decide (a = b)))) w :=
  X.bin hx hy (by simp [go_sem]) (by simp [binOp, Op.stringOp, str_dec])
theorem X.eqlB {a b : Bool} (hx : f x = .bool a) (hy : f y = .bool b) (ht : P.underlying tx = some .bool) : (execOp f ⟨d, .binOp .eql tx x y tz, ty, pos, aft, g⟩).run P w = .ok (.value (.bool (a == b))) w :=
  X.bin hx hy (by simp [go_sem]) (by simp [binOp, run_equal_bool w tx a b ht])
theorem X.not {b : Bool} (hx : f x = .bool b) : (execOp f ⟨d, .unOp .not t x, ty, pos, aft, g⟩).run P w = .ok (.value (.bool (!b))) w := by
  simp [execOp, hx, go_sem]
theorem X.compl (hx : f x = .int k m) : (execOp f ⟨d, .unOp .xor t x, ty, pos, aft, g⟩).run P w = .ok (.value (.int k (bits .xor k (if k.signed then -1 else k.max) m))) w := by
  simp [execOp, hx, go_sem]
theorem X.negw (hx : f x = .int k m) : (execOp f ⟨d, .unOp .neg t x, ty, pos, aft, g⟩).run P w = .ok (.value (.int k (k.wrap (0 - m)))) w := by
  simp [execOp, hx, unary_neg, Op.intArith]
theorem X.convw (hx : f x = .int k m) (hs : (P.underlying t).isSome = true) (hd : P.underlying tz = some (.int ky)) : (execOp f ⟨d, .convert t tz x, ty, pos, aft, g⟩).run P w = .ok (.value (.int ky (ky.wrap m))) w := by
  obtain ⟨ds, hs'⟩ := Option.isSome_iff_exists.mp hs
  simp [execOp, hx, convert, run_underlying hs', run_underlying hd, Conv.intToInt]
theorem X.convI (hx : f x = .int k m) (hs : (P.underlying t).isSome = true) (hd : P.underlying tz = some (.int .i64)) (h : -9223372036854775808 ≤ m ∧ m ≤ 9223372036854775807) : (execOp f ⟨d, .convert t tz x, ty, pos, aft, g⟩).run P w = .ok (.value (.int .i64 m)) w := by
  rw [X.convw hx hs hd, w64 h]
theorem X.convU (hx : f x = .int k m) (hs : (P.underlying t).isSome = true) (hd : P.underlying tz = some (.int .u64)) (h : 0 ≤ m ∧ m ≤ 18446744073709551615) : (execOp f ⟨d, .convert t tz x, ty, pos, aft, g⟩).run P w = .ok (.value (.int .u64 m)) w := by
  rw [X.convw hx hs hd, wu64 h]
theorem X.conv32 (hx : f x = .int k m) (hs : (P.underlying t).isSome = true) (hd : P.underlying tz = some (.int .u32)) (h : 0 ≤ m ∧ m ≤ 4294967295) : (execOp f ⟨d, .convert t tz x, ty, pos, aft, g⟩).run P w = .ok (.value (.int .u32 m)) w := by
  rw [X.convw hx hs hd, w32 h]
theorem X.conv8 (hx : f x = .int k m) (hs : (P.underlying t).isSome = true) (hd : P.underlying tz = some (.int .u8)) (h : 0 ≤ m ∧ m ≤ 255) : (execOp f ⟨d, .convert t tz x, ty, pos, aft, g⟩).run P w = .ok (.value (.int .u8 m)) w := by
  rw [X.convw hx hs hd, w8 h]
/-- a conversion by a law of its own -/
theorem X.conv (hx : f x = u) (h : (convert t tz u).run P w = .ok v w) : (execOp f ⟨d, .convert t tz x, ty, pos, aft, g⟩).run P w = .ok (.value v) w := by
  simp [execOp, hx, h]
theorem X.indexAddr {A : Option Addr} {q c sz : Nat} (hx : f x = .slice A q c) (hy : f y = .int k m) (ht : P.underlying t = some (.slice e)) (hs : Siz P e sz) (hA : A ≠ none) (hj : 0 ≤ m ∧ m < (q : Int)) : (execOp f ⟨d, .indexAddr t x y, ty, pos, aft, g⟩).run P w = .ok (.value (pA A (m.toNat * sz))) w := by
  cases A with
  | none => exact absurd rfl hA
  | some a => simp [execOp, hx, hy, Instr.indexAt, run_underlying ht, asIntOf, hj, hs.run, pA]
theorem X.index1 {A : Option Addr} {q c : Nat} (hx : f x = .slice A q c) (hy : f y = .int k m) (ht : P.underlying t = some (.slice e)) (hs : Siz P e 1) (hA : A ≠ none) (hj : 0 ≤ m ∧ m < (q : Int)) : (execOp f ⟨d, .indexAddr t x y, ty, pos, aft, g⟩).run P w = .ok (.value (pA A m.toNat)) w := by
  have := X.indexAddr (P := P) (w := w) (d := d) (ty := ty) (pos := pos) (aft := aft) (g := g) hx hy ht hs hA hj
  rwa [Nat.mul_one] at this
theorem X.indexAddrn {A : Option Addr} {q c sz j : Nat} (hx : f x = .slice A q c) (hy : f y = .int k (j : Int)) (ht : P.underlying t = some (.slice e)) (hs : Siz P e sz) (hA : A ≠ none) (hj : j < q) : (execOp f ⟨d, .indexAddr t x y, ty, pos, aft, g⟩).run P w = .ok (.value (pA A (j * sz))) w :=
  X.indexAddr hx hy ht hs hA ⟨by omega, by omega⟩
theorem X.index1n {A : Option Addr} {q c j : Nat} (hx : f x = .slice A q c) (hy : f y = .int k (j : Int)) (ht : P.underlying t = some (.slice e)) (hs : Siz P e 1) (hA : A ≠ none) (hj : j < q) : (execOp f ⟨d, .indexAddr t x y, ty, pos, aft, g⟩).run P w = .ok (.value (pA A j)) w :=
  X.index1 hx hy ht hs hA ⟨by omega, by omega⟩
/-- the place of an array's cell -/
theorem X.indexArr {b o sz q : Nat} (hx : f x = .pointer (some ⟨b, o, none⟩)) (hy : f y = .int k m) (ht : P.underlying t = some (.array q e)) (hs : Siz P e sz) (hj : 0 ≤ m ∧ m < (q : Int)) : (execOp f ⟨d, .indexAddr t x y, ty, pos, aft, g⟩).run P w = .ok (.value (pA (some ⟨b, o, none⟩) (m.toNat * sz))) w := by
  simp [execOp, hx, hy, Instr.indexAt, run_underlying ht, asIntOf, hj, hs.run, pA, Instr.sureAddr]
theorem X.indexArrn {b o sz q j : Nat} (hx : f x = .pointer (some ⟨b, o, none⟩)) (hy : f y = .int k (j : Int)) (ht : P.underlying t = some (.array q e)) (hs : Siz P e sz) (hj : j < q) : (execOp f ⟨d, .indexAddr t x y, ty, pos, aft, g⟩).run P w = .ok (.value (pA (some ⟨b, o, none⟩) (j * sz))) w :=
  X.indexArr hx hy ht hs ⟨by omega, by omega⟩
theorem X.indexStr {s : ByteArray} (hx : f x = .string s) (hy : f y = .int k m) (ht : P.underlying t = some .string) (hj : 0 ≤ m ∧ m < (s.size : Int)) : (execOp f ⟨d, .index t x y, ty, pos, aft, g⟩).run P w = .ok (.value (.int .u8 ((s.data.toList.getD m.toNat 0).toNat : Int))) w := by
  have hlt : m.toNat < s.size := by omega
  have hg : s[m.toNat]? = some s[m.toNat] := by simp [hlt]
  have hd : s.data.toList.getD m.toNat 0 = s[m.toNat] := by
    have : m.toNat < s.data.toList.length := by simpa using hlt
    simp only [List.getD, List.getElem?_eq_getElem this, Option.getD_some]
    rfl
  simp only [execOp, hx, hy, Instr.index, Sem.run_bind, run_underlying ht, Result.andThen_ok, asIntOf, Sem.run_pure, if_pos hj.1, hg, hd]
theorem X.load (hx : f x = p) (hs : Scal P t) (hl : Ld w p v) : (execOp f ⟨d, .load t x, ty, pos, aft, g⟩).run P w = .ok (.value v) w := by
  obtain ⟨a, rfl, hc⟩ := hl
  simp [execOp, hx, Instr.loadAt, Instr.sureAddr, loadVar, hs w, go_sem, hc]
theorem X.loadAgg {b o : Nat} {cs : List Value} {ds : TypeDesc} (hx : f x = .pointer (some ⟨b, o, none⟩)) (hc : w.rangeAt b o cs) (hu : P.underlying t = some ds) (hd : ds.isRow = true) (hi : (P.info? t).map (·.size) = some cs.length) : (execOp f ⟨d, .load t x, ty, pos, aft, g⟩).run P w = .ok (.value (.agg cs.toArray)) w := by
  simp [execOp, hx, run_loadAt_mid w b o t cs ds hc hu hd hi]
theorem X.fieldAddr {b o i sz : Nat} {fs : Array Field} {fd : Field} (hx : f x = .pointer (some ⟨b, o, none⟩)) (ht : P.underlying t = some (.struct fs)) (hi : fs[i]? = some fd) (hz : Siz P fd.type sz) (hpos : 0 < sz): (execOp f ⟨d, .fieldAddr t x i, ty, pos, aft, g⟩).run P w = .ok (.value (.pointer (some ⟨b, o + fd.offset, none⟩))) w := by
  simp only [execOp, hx, Instr.fieldAt, Sem.run_bind, run_underlying ht, Result.andThen_ok, hi, Instr.sureAddr, Sem.run_pure, fieldPlace, hz.run]
  rw [if_neg (by omega)]
  simp only [Sem.run_pure, Result.andThen_ok, Addr.add_mid]
theorem X.nilCheck {a : Addr} (hx : f x = .pointer (some a)) : (execOp f ⟨d, .nilCheck x, ty, pos, aft, g⟩).run P w = .ok (.value (.pointer (some a))) w := by
  simp [execOp, hx]
theorem X.extract {vs : Array Value} {i : Nat} (hx : f x = .tuple vs) (hv : vs[i]? = some v) : (execOp f ⟨d, .extract x i, ty, pos, aft, g⟩).run P w = .ok (.value v) w := by
  simp [execOp, hx, Instr.extract, hv]
/-- a function that has a body -/
def Ent (P : Program) (c : FuncId) : Prop := (match P.funcs[c]? with
  | some fn => !(fn.name == "runtime.NumGoroutine") && fn.body.isSome
  | none => false) = true
theorem Ent.run {c : FuncId} (h : Ent P c) (args : Array Value) (w : World) : (callFunc c args).run P w = .ok (.enter c args) w := by
  unfold Ent at h
  unfold callFunc
  simp only [Sem.run_bind, run_program, Result.andThen_ok]
  cases hf : P.funcs[c]? with
  | none => rw [hf] at h; cases h
  | some fn =>
    rw [hf] at h
    simp only [Bool.and_eq_true, Bool.not_eq_true'] at h
    simp only [h.1]
    have hn : fn.body.isNone = false := by
      cases hb : fn.body with
      | none => rw [hb] at h; cases h.2
      | some _ => rfl
    simp [hn]
theorem X.enter {c : FuncId} {l : List Operand} {ts : Array TypeId} {vs : List Value} (he : Ent P c) (hfn : f (.func c) = .func (.func c) #[] #[]) (hv : l.map f = vs) : (execOp f ⟨d, .call { callee := .value (.func c), args := l.toArray, argTypes := ts }, ty, pos, aft, g⟩).run P w = .ok (.enter c vs.toArray) w := by
  subst hv
  simp only [execOp, resolve, hfn, Deferred.ofValue, Sem.run_bind, Sem.run_pure, Result.andThen_ok, invoke, List.map_toArray, Array.append_empty, Array.empty_append, he.run]
end
end Go.Proofs.Ytlipeplfjkgamaa.H
/-
  The logic's second part: what makes or writes memory, the way in and out of a function, regions that draw their order.
-/
namespace Go.Proofs.Ytlipeplfjkgamaa.H
open Go.RowKit Go.Proofs.Ytlipeplfjkgamaa
set_option linter.unusedSimpArgs false
set_option linter.unusedVariables false
/-! ### what becomes of the world -/
/-- nothing that was there has changed -/
def Ext (w w' : World) : Prop := Below w.heap.size w w'
theorem Ext.refl (w : World) : Ext w w := Below.refl _ _
theorem Ext.trans {a b c : World} (h : Ext a b) (k : Ext b c) : Ext a c := Below.trans h (k.mono (Below.size h))
theorem Ext.ext {a b c : World} (h : Ext a b) (k : Ext b c) : Ext a c := h.trans k
theorem Ext.le {a b : World} (h : Ext a b) : a.heap.size ≤ b.heap.size := Below.size h
theorem Ext.alloc (w : World) (o : Obj) : Ext w (w.alloc o) := (Below.refl _ _).alloc (Nat.le_refl _) o
theorem Ext.drew (w : World) : Ext w w.drew := (Below.refl _ _).drew
theorem Ext.low {a b c : World} {B : Nat} (h : Ext a b) (k : Below B b c) (hB : a.heap.size ≤ B) : Ext a c := Below.trans h (k.mono hB)
theorem Ext.grw {a b c : World} {r : Option Nat} (h : Ext a b) (k : b.grownBy c r) (hr : ∀ g, r = some g → a.heap.size ≤ g) : Ext a c := Below.grown h k (Below.size h) hr
section
variable {w w' : World} {B size n : Nat} {A : Option Addr} {xs : List Value} {g : Nat} {t : TypeId} {cs : Array Value}
theorem Reads.keep' (h : Reads w B size A n xs) (hk : ∀ b, b < w.heap.size → b < B → w'.heap[b]? = w.heap[b]?) : Reads w' B size A n xs :=
  ⟨h.1, fun hn => by
    obtain ⟨ad, e, hb, hc⟩ := h.2 hn
    refine ⟨ad, e, hb, fun j u hu => ?_⟩
    have h1 := hc j u hu
    rw [← h1]
    refine World.cell?_of_block (hk _ ?_ (by rw [block_of_add]; exact hb))
    rcases Nat.lt_or_ge (ad.add j).block w.heap.size with h2 | h2
    · exact h2
    · simp [World.cell?, Array.getElem?_eq_none h2] at h1⟩
theorem _root_.Go.Proofs.Ytlipeplfjkgamaa.Reads.ext (h : Reads w B size A n xs) (he : Ext w w') : Reads w' B size A n xs := Reads.keep' h fun b hb _ => Below.block he b hb
theorem _root_.Go.Proofs.Ytlipeplfjkgamaa.Reads.low {B' : Nat} (h : Reads w B size A n xs) (hb : Below B' w w') (hB : B ≤ B') : Reads w' B size A n xs := Reads.keep' h fun b _ hb' => hb.block b (by omega)
theorem _root_.Go.Proofs.Ytlipeplfjkgamaa.Reads.grw {r : Option Nat} (h : Reads w B size A n xs) (hg : w.grownBy w' r) (hr : ∀ g, r = some g → B ≤ g) : Reads w' B size A n xs :=
  Reads.keep' h fun b hb hB => hg.block b hb (fun e => by have := hr b e.symm; omega)
theorem _root_.Go.Proofs.Ytlipeplfjkgamaa.Blk.ext (h : Blk w g t cs) (he : Ext w w') : Blk w' g t cs := h.below he h.lt
theorem _root_.Go.World.ownsRow.ext {base : Nat} {e : TypeId} {v : Value} (h : w.ownsRow base e size v n xs) (he : Ext w w') : w'.ownsRow base e size v n xs :=
  h.kept (row := none) ⟨Below.os he, Below.tape he, Below.output he, Below.size he, fun k hk _ => Below.block he k hk⟩ (by cases hv : v.ownBlock with | none => exact .inl rfl | some b => exact .inr (by simp))
/-- the bound of a reading may be set anew -/
theorem _root_.Go.Proofs.Ytlipeplfjkgamaa.Reads.here (h : Reads w B size A n xs) (hs : 0 < size) : Reads w w.heap.size size A n xs :=
  ⟨h.1, fun hn => by
    obtain ⟨ad, e, hb, hc⟩ := h.2 hn
    refine ⟨ad, e, ?_, hc⟩
    have hl : 0 < xs.length := by rw [h.1]; exact Nat.mul_pos hn hs
    have h1 := hc 0 _ (List.getElem?_eq_getElem hl)
    rcases Nat.lt_or_ge ad.block w.heap.size with h2 | h2
    · exact h2
    · have e0 : w.heap[ad.block]? = none := Array.getElem?_eq_none h2
      simp [World.cell?, block_of_add, e0] at h1⟩
/-! ### what lies where -/
theorem Ld.rd (h : Reads w B size A n xs) {j : Nat} (hj : j < n * size) : Ld w (pA A j) (xs.getD j undef) := by
  have hn : 0 < n := Nat.pos_of_ne_zero (fun h0 => by subst h0; simp at hj)
  obtain ⟨ad, rfl, _, hc⟩ := h.2 hn
  have hl : j < xs.length := by rw [h.1]; exact hj
  refine ⟨ad.add j, rfl, ?_⟩
  rw [hc j _ (List.getElem?_eq_getElem hl)]
  simp [List.getD, hl]
theorem Ld.num {k : IntKind} {zs : List Int} (h : Reads w B 1 A n (nums k zs)) {j : Nat} (hj : j < n) : Ld w (pA A j) (.int k (zs.getD j 0)) := by
  have h1 := Ld.rd h (j := j) (by omega)
  have hl : j < zs.length := by have := h.1; rw [nums_length] at this; omega
  have : (nums k zs).getD j undef = .int k (zs.getD j 0) := by simp [nums, List.getD, hl]
  rwa [this] at h1
theorem Ld.blk (h : Blk w g t cs) {i : Nat} {v : Value} (hv : cs[i]? = some v) : Ld w (.pointer (some ⟨g, i, none⟩)) v := ⟨_, rfl, (h.cell i).trans hv⟩
theorem Ld.own {base : Nat} {e : TypeId} {c : Nat} {k : IntKind} {zs : List Int} (h : w.ownsRow base e 1 (.slice A n c) n (nums k zs)) {j : Nat} (hj : j < n) : Ld w (pA A j) (.int k (zs.getD j 0)) :=
  Ld.num (own_reads h) hj
theorem _root_.Go.Proofs.Ytlipeplfjkgamaa.Reads.some_ (h : Reads w B size A n xs) (hn : 0 < n) : A ≠ none := by
  obtain ⟨ad, rfl, _⟩ := h.2 hn
  simp
theorem range_blk (h : Blk w g t cs) : w.rangeAt g 0 cs.toList := by
  intro j v hv
  rw [Nat.zero_add, h.cell]
  simpa using hv
/-! ### effects -/
def Zer (P : Program) (t : TypeId) (l : List Value) : Prop := ∃ i z, P.info? t = some i ∧ i.zero = some z ∧ z.cells = l.toArray
theorem Zer.of {P : Program} {t : TypeId} {l : List Value} (h : ((P.info? t).bind (·.zero)).map (·.cells.toList) = some l) : Zer P t l := by
  cases hi : P.info? t with
  | none => rw [hi] at h; cases h
  | some i =>
    rw [hi] at h
    cases hz : i.zero with
    | none => simp [hz] at h
    | some z =>
      simp [hz] at h
      exact ⟨i, z, hi, hz, by rw [← h]⟩
theorem Zer.run {P : Program} {t : TypeId} {l : List Value} (h : Zer P t l) (w : World) : ∃ z, z.cells = l.toArray ∧ (zeroValue t).run P w = .ok z w := by
  obtain ⟨i, z, hi, hz, hc⟩ := h
  refine ⟨z, hc, ?_⟩
  simp [zeroValue, typeInfo, hi, hz]
end
section
variable {P : Program} {n : Nat} {ops rest : List Oper} {Q : Exit → Fr → World → Prop} {f : Fr} {w w' : World} {d : Option Tmp} {ty : TypeId} {pos : String} {aft : Array Edge} {g : Option (Nat × Bool)} {x y z : Operand} {v u p : Value} {t e tx tz : TypeId}
/-- a call of a Go function -/
theorem L.call {c : FuncId} {l : List Operand} {vs : List Value} {ts : Array TypeId} {R : Ending → World → Prop} (hg : wn ops f g = true) (he : Ent P c) (hv : l.map (ev f) = vs) (hc : Calls P c vs.toArray w R)
    (h : ∀ e w', R e w' → ∃ v, e = .returned v ∧ L P n ops Q rest (putO f d v) w') : L P n ops Q (⟨d, .call { callee := .value (.func c), args := l.toArray, argTypes := ts }, ty, pos, aft, g⟩ :: rest) f w :=
  L.enter hg (X.enter he rfl hv) hc h
theorem L.alloc {l : List Value} (hg : wn ops f g = true) (hz : Zer P t l) (h : ∀ b w', b = w.heap.size → w'.heap.size = w.heap.size + 1 → Blk w' b t l.toArray → Ext w w' → L P n ops Q rest (putO f d (.pointer (some ⟨b, 0, none⟩))) w') :
    L P n ops Q (⟨d, .alloc t, ty, pos, aft, g⟩ :: rest) f w := by
  obtain ⟨z, hc, hr⟩ := hz.run w
  refine L.val hg ?_ (h w.heap.size (w.alloc (.cells l.toArray t)) rfl (by simp) (Blk.new _ _ _) (Ext.alloc _ _))
  simp [execOp, Instr.alloc, hr, newVar, newRow, newObj, hc]
  rfl
theorem L.box (hg : wn ops f g = true) (hx : ev f x = v) (h : ∀ b w', b = w.heap.size → w'.heap.size = w.heap.size + 1 → Blk w' b t v.cells → Ext w w' → L P n ops Q rest (putO f d (.pointer (some ⟨b, 0, none⟩))) w') :
    L P n ops Q (⟨d, .box t x, ty, pos, aft, g⟩ :: rest) f w := by
  refine L.val hg ?_ (h w.heap.size (w.alloc (.cells v.cells t)) rfl (by simp) (Blk.new _ _ _) (Ext.alloc _ _))
  simp [execOp, Instr.box, newVar, newRow, newObj, hx]
  rfl
theorem only_setRow (w : World) (b : Nat) (cs : Array Value) : w.grownBy (w.setRow b cs) (some b) :=
  ⟨rfl, rfl, rfl, by simp, fun k _ hk => setRow_other w b k cs (fun e => hk (by rw [e]))⟩
/-- a store into a block that is known whole -/
theorem run_store_blk {b o : Nat} {tb : TypeId} {cs : Array Value} {vs : List Value} (hc : v.cells = vs.toArray) (h1 : (vs.all (·.oneCell')) = true) (hz : Siz P t vs.length) (hb : Blk w b tb cs) (hi : o + vs.length ≤ cs.size) :
    (Instr.storeAt t (.pointer (some ⟨b, o, none⟩)) v).run P w = .ok () (w.setRow b (cs.toList.take o ++ vs ++ cs.toList.drop (o + vs.length)).toArray) := by
  have := run_storeCells_at (P := P) b o tb vs 0 cs w hb (by omega) (fun u hu => List.all_eq_true.1 h1 u hu)
  simp only [Nat.add_zero] at this
  simp only [Instr.storeAt, Instr.sureAddr, storeVar, Sem.run_bind, Sem.run_pure, Result.andThen_ok, hz.run, hc]
  simp [this]
theorem L.storeC {b o : Nat} {tb : TypeId} {cs : Array Value} {vs : List Value} (hg : wn ops f g = true) (hx : ev f x = .pointer (some ⟨b, o, none⟩)) (hy : ev f y = v) (hc : v.cells = vs.toArray) (h1 : (vs.all (·.oneCell')) = true) (hz : Siz P t vs.length) (hb : Blk w b tb cs) (hi : o + vs.length ≤ cs.size)
    (h : ∀ w', Blk w' b tb (cs.toList.take o ++ vs ++ cs.toList.drop (o + vs.length)).toArray → w.grownBy w' (some b) → w'.heap.size = w.heap.size → L P n ops Q rest (putO f d undef) w') : L P n ops Q (⟨d, .store t x y, ty, pos, aft, g⟩ :: rest) f w := by
  refine L.skip hg ?_ (h (w.setRow b (cs.toList.take o ++ vs ++ cs.toList.drop (o + vs.length)).toArray) (setRow_heap w b _ _ _ _ hb) (only_setRow _ _ _) (by simp))
  simp only [execOp, hx, hy]
  rw [Sem.run_bind, run_store_blk hc h1 hz hb hi]
  rfl
theorem L.store {b i : Nat} {tb : TypeId} {cs : Array Value} (hg : wn ops f g = true) (hx : ev f x = .pointer (some ⟨b, i, none⟩)) (hy : ev f y = v) (h1 : v.oneCell' = true) (hz : Siz P t 1) (hb : Blk w b tb cs) (hi : i < cs.size)
    (h : ∀ w', Blk w' b tb (cs.setIfInBounds i v) → w.grownBy w' (some b) → w'.heap.size = w.heap.size → L P n ops Q rest (putO f d undef) w') : L P n ops Q (⟨d, .store t x y, ty, pos, aft, g⟩ :: rest) f w := by
  refine L.storeC (vs := [v]) hg hx hy (by cases v <;> first | rfl | cases h1) (by simp [h1]) hz hb (show i + [v].length ≤ cs.size from hi) ?_
  have e : (cs.toList.take i ++ [v] ++ cs.toList.drop (i + [v].length)).toArray = cs.setIfInBounds i v := by
    apply Array.ext'
    simp only [Array.toList_setIfInBounds]
    rw [List.set_eq_take_append_cons_drop, if_pos (by simpa using hi)]
    simp
  rw [e]
  exact h
/-- a store of a whole struct into a block that is one -/
theorem L.storeAgg {b : Nat} {tb : TypeId} {cs : Array Value} {vs : List Value} (hg : wn ops f g = true) (hx : ev f x = .pointer (some ⟨b, 0, none⟩)) (hy : ev f y = .agg vs.toArray) (h1 : (vs.all (·.oneCell')) = true) (hz : Siz P t vs.length) (hb : Blk w b tb cs) (hi : cs.size = vs.length)
    (h : ∀ w', Blk w' b tb vs.toArray → w.grownBy w' (some b) → w'.heap.size = w.heap.size → L P n ops Q rest (putO f d undef) w') : L P n ops Q (⟨d, .store t x y, ty, pos, aft, g⟩ :: rest) f w := by
  refine L.storeC (vs := vs) hg hx hy rfl h1 hz hb (by omega) ?_
  have e : (cs.toList.take 0 ++ vs ++ cs.toList.drop (0 + vs.length)).toArray = vs.toArray := by simp [← hi]
  rw [e]
  exact h
/-! ### slices -/
theorem X.slice {A : Option Addr} {q c sz : Nat} {k kx : IntKind} {m m' : Int} (hx : ev f x = .slice A q c) (hy : ev f y = .int k m) (hz : ev f z = .int kx m') (ht : P.underlying t = some (.slice e)) (hs : Siz P e sz) (hij : 0 ≤ m ∧ m ≤ m' ∧ m' ≤ (c : Int)) :
    (execOp (ev f) ⟨d, .slice t x (some y) (some z) none, ty, pos, aft, g⟩).run P w = .ok (.value (.slice (if c = m.toNat then A else A.map (·.add (m.toNat * sz))) (m'.toNat - m.toNat) (c - m.toNat))) w := by
  simp only [execOp, Instr.sliceAt, Instr.slice, Instr.sliceBounds, Instr.sliceBound, Option.map_some, Option.map_none, hx, hy, hz, Sem.run_bind, run_underlying ht, Result.andThen_ok, asIntOf, Sem.run_pure, hs.run]
  have h1 : 0 ≤ m' ∧ m' ≤ (c : Int) := ⟨by omega, hij.2.2⟩
  have h2 : 0 ≤ m ∧ m ≤ ((m'.toNat : Nat) : Int) := ⟨hij.1, by omega⟩
  simp [h1, h2, hs.run]
  intro hlt
  omega
theorem X.sliceTo {A : Option Addr} {q c sz : Nat} {kx : IntKind} {m' : Int} (hx : ev f x = .slice A q c) (hz : ev f z = .int kx m') (ht : P.underlying t = some (.slice e)) (hs : Siz P e sz) (hij : 0 ≤ m' ∧ m' ≤ (c : Int)) :
    (execOp (ev f) ⟨d, .slice t x none (some z) none, ty, pos, aft, g⟩).run P w = .ok (.value (.slice A m'.toNat c)) w := by
  simp only [execOp, Instr.sliceAt, Instr.slice, Instr.sliceBounds, Instr.sliceBound, Option.map_some, Option.map_none, hx, hz, Sem.run_bind, run_underlying ht, Result.andThen_ok, asIntOf, Sem.run_pure, hs.run]
  simp [hij, hs.run]
  cases A <;> simp [Addr.add_zero']
theorem X.sliceFrom {A : Option Addr} {q c sz : Nat} {k : IntKind} {m : Int} (hx : ev f x = .slice A q c) (hy : ev f y = .int k m) (ht : P.underlying t = some (.slice e)) (hs : Siz P e sz) (hij : 0 ≤ m ∧ m ≤ (q : Int)) :
    (execOp (ev f) ⟨d, .slice t x (some y) none none, ty, pos, aft, g⟩).run P w = .ok (.value (.slice (if c = m.toNat then A else A.map (·.add (m.toNat * sz))) (q - m.toNat) (c - m.toNat))) w := by
  simp only [execOp, Instr.sliceAt, Instr.slice, Instr.sliceBounds, Instr.sliceBound, Option.map_some, Option.map_none, hx, hy, Sem.run_bind, run_underlying ht, Result.andThen_ok, asIntOf, Sem.run_pure, hs.run]
  simp [hij, hs.run]
theorem X.slicen {A : Option Addr} {q c i j sz : Nat} {k kx : IntKind} (hx : ev f x = .slice A q c) (hy : ev f y = .int k (i : Int)) (hz : ev f z = .int kx (j : Int)) (ht : P.underlying t = some (.slice e)) (hs : Siz P e sz) (hij : i ≤ j ∧ j ≤ c) :
    (execOp (ev f) ⟨d, .slice t x (some y) (some z) none, ty, pos, aft, g⟩).run P w = .ok (.value (.slice (if c = i then A else A.map (·.add (i * sz))) (j - i) (c - i))) w :=
  X.slice hx hy hz ht hs ⟨by omega, by omega, by omega⟩
theorem X.sliceTon {A : Option Addr} {q c j sz : Nat} {kx : IntKind} (hx : ev f x = .slice A q c) (hz : ev f z = .int kx (j : Int)) (ht : P.underlying t = some (.slice e)) (hs : Siz P e sz) (hij : j ≤ c) :
    (execOp (ev f) ⟨d, .slice t x none (some z) none, ty, pos, aft, g⟩).run P w = .ok (.value (.slice A j c)) w :=
  X.sliceTo hx hz ht hs ⟨by omega, by omega⟩
theorem X.sliceFromn {A : Option Addr} {q c i sz : Nat} {k : IntKind} (hx : ev f x = .slice A q c) (hy : ev f y = .int k (i : Int)) (ht : P.underlying t = some (.slice e)) (hs : Siz P e sz) (hij : i ≤ q) :
    (execOp (ev f) ⟨d, .slice t x (some y) none none, ty, pos, aft, g⟩).run P w = .ok (.value (.slice (if c = i then A else A.map (·.add (i * sz))) (q - i) (c - i))) w :=
  X.sliceFrom hx hy ht hs ⟨by omega, by omega⟩
/-- structs and arrays by value -/
def Evs (f : Fr) : List (Nat × Operand) → List (Nat × Value) → Prop
  | [], [] => True
  | (i, x) :: ps, (j, v) :: qs => i = j ∧ ev f x = v ∧ Evs f ps qs
  | _, _ => False
theorem Evs.nil : Evs f [] [] := trivial
theorem Evs.cons {i : Nat} {ps : List (Nat × Operand)} {qs : List (Nat × Value)} (h : ev f x = v) (t : Evs f ps qs) : Evs f ((i, x) :: ps) ((i, v) :: qs) := ⟨rfl, h, t⟩
theorem Evs.map : ∀ {ps : List (Nat × Operand)} {qs : List (Nat × Value)}, Evs f ps qs → ps.map (fun p => (p.1, ev f p.2)) = qs
  | [], [], _ => rfl
  | (i, x) :: ps, (j, v) :: qs, ⟨h1, h2, h3⟩ => by simp only [List.map_cons, h1, h2, Evs.map h3]
  | [], _ :: _, h => h.elim
  | _ :: _, [], h => h.elim
theorem X.build {ps : List (Nat × Operand)} {qs : List (Nat × Value)} {l : List Value} (hq : Evs f ps qs) (h : (Instr.build t qs.toArray).run P w = .ok (.agg l.toArray) w) : (execOp (ev f) ⟨d, .build t ps.toArray, ty, pos, aft, g⟩).run P w = .ok (.value (.agg l.toArray)) w := by
  simp only [execOp, List.map_toArray, Sem.run_bind, hq.map]
  rw [h]
  rfl
theorem part_reads {B sz q c i j : Nat} {A : Option Addr} {xs : List Value} (h : Reads w B sz A q xs) (hij : i ≤ j) (hj : j ≤ q) (hq : q ≤ c) : Reads w B sz (if c = i then A else A.map (·.add (i * sz))) (j - i) ((xs.drop (i * sz)).take ((j - i) * sz)) :=
  (h.cut (by omega) hq).first (by omega)
theorem part_nums {B q c i j : Nat} {A : Option Addr} {k : IntKind} {zs : List Int} (h : Reads w B 1 A q (nums k zs)) (hij : i ≤ j) (hj : j ≤ q) (hq : q ≤ c) : Reads w B 1 (if c = i then A else A.map (·.add (i * 1))) (j - i) (nums k ((zs.drop i).take (j - i))) := by
  have := part_reads h hij hj hq
  simpa [nums] using this
/-- a new slice of numbers, texts, bools, pointers .. -/
theorem fill_ones : ∀ (l : List Value) (i : Nat) (cells : Array Value), (∀ v ∈ l, v.oneCell' = true) → i + l.length ≤ cells.size →
    Instr.fill (fun i => some (i * 1, 1)) cells ((List.range' i l.length).zip l) = some (cells.toList.take i ++ l ++ cells.toList.drop (i + l.length)).toArray
  | [], i, cells, _, _ => by simp [Instr.fill]
  | v :: l, i, cells, h1, hl => by
    have hv : v.cells = #[v] := by
      have := h1 v (by simp)
      cases v <;> first | rfl | cases this
    simp only [List.length_cons] at hl
    have hlt : i < cells.toList.length := by simp; omega
    simp only [List.length_cons, List.range'_succ, List.zip_cons_cons, Instr.fill, hv, Nat.mul_one]
    rw [if_neg (by simp; omega)]
    have e : (#[v].zipIdx.foldl (fun cs x => cs.setIfInBounds (i + x.2) x.1) cells) = cells.setIfInBounds i v := by simp
    have ih := fill_ones l (i + 1) (cells.setIfInBounds i v) (fun u hu => h1 u (by simp [hu])) (by simp; omega)
    have e2 : (List.foldl (fun cs x => cs.setIfInBounds (i + x.2) x.1) cells #[v].zipIdx.toList) = cells.setIfInBounds i v := by simp
    simp only [Nat.mul_one] at ih
    first
      | (rw [e, ih])
      | (simp only [← Array.foldl_toList]; rw [e2, ih])
    congr 1
    apply Array.ext'
    simp only [Array.toList_setIfInBounds]
    rw [List.set_eq_take_append_cons_drop, if_pos hlt]
    simp only [List.take_append, List.length_take, List.drop_append]
    rw [Nat.min_eq_left (by omega)]
    simp
    rw [List.take_of_length_le (show (cells.toList.take i).length ≤ i + 1 by simp; omega), List.drop_of_length_le (show (cells.toList.take i).length ≤ i + 1 + l.length by simp; omega), show i + 1 + l.length - i = l.length + 1 by omega, List.drop_succ_cons, List.drop_drop]
    rw [show i + 1 + l.length = i + (l.length + 1) by omega]
    rfl
theorem L.bslice {ps : List (Nat × Operand)} {vs zs : List Value} {q : Nat} {qs : List (Nat × Value)} (hg : wn ops f g = true) (hv0 : Evs f ps qs) (hv1 : qs.map (·.2) = vs) (hi : ps.map (·.1) = List.range' 0 q) (hq : vs.length = q) (h1 : (vs.all (·.oneCell')) = true) (ht : P.underlying t = some (.slice e)) (hs : Siz P e 1) (hzr : Zer P e zs) (hq2 : q ≤ 16777216)
    (h : ∀ b w', b = w.heap.size → w'.heap.size = w.heap.size + 1 → Blk w' b e vs.toArray → Ext w w' → L P n ops Q rest (putO f d (.slice (some ⟨b, 0, none⟩) q q)) w') : L P n ops Q (⟨d, .buildSlice t q ps.toArray, ty, pos, aft, g⟩ :: rest) f w := by
  refine L.val hg ?_ (h w.heap.size (w.alloc (.cells vs.toArray e)) rfl (by simp) (Blk.new _ _ _) (Ext.alloc _ _))
  obtain ⟨z, hzc, hzr⟩ := hzr.run w
  have hv : ps.map (fun p => ev f p.2) = vs := by rw [← hv1, ← hv0.map]; simp
  have hps : ps.map (fun p => (p.1, ev f p.2)) = (List.range' 0 vs.length).zip vs := by
    rw [hq, ← hi, ← hv, List.zip_map', ]
  have hall : ∀ v ∈ vs, v.oneCell' = true := fun v hv => List.all_eq_true.1 h1 v hv
  have key : ∀ z : Array Value, Instr.fill (fun i => some (i * 1, 1)) ((Array.range (q * 1)).map (z[· % z.size]!)) (ps.map (fun p => (p.1, ev f p.2))) = some vs.toArray := by
    intro z
    rw [hps, fill_ones vs 0 _ hall (by simp; omega)]
    simp [hq]
  simp only [execOp, Instr.buildSlice, Sem.run_bind, run_underlying ht, Result.andThen_ok, hs.run, List.map_toArray]
  rw [if_neg (by omega)]
  by_cases h0 : q * 1 = 0
  · simp only [if_pos h0, Sem.run_pure, Result.andThen_ok, key, newRow, newObj]
    rfl
  · simp only [if_neg h0, Sem.run_bind, hzr, Sem.run_pure, Result.andThen_ok, key, newRow, newObj]
    rfl
end
end Go.Proofs.Ytlipeplfjkgamaa.H
/-
  The logic's third part: append and make, texts, regions that draw their order, the way in and out of a function.
-/
namespace Go.Proofs.Ytlipeplfjkgamaa.H
open Go.RowKit Go.Proofs.Ytlipeplfjkgamaa
set_option linter.unusedSimpArgs false
set_option linter.unusedVariables false
section
variable {P : Program} {n : Nat} {ops rest : List Oper} {Q : Exit → Fr → World → Prop} {f : Fr} {w w' : World} {d : Option Tmp} {ty : TypeId} {pos : String} {aft : Array Edge} {g : Option (Nat × Bool)} {x y z : Operand} {v u p : Value} {t e tx tz : TypeId}
/-- what append asks of the elements' type -/
def Elm (P : Program) (e : TypeId) (z : Value) (size bytes : Nat) : Prop := (P.info? e).map (fun i => (i.zero, i.size, i.bytes)) = some (some z, size, bytes) ∧ z.cells.size = size ∧ 0 < size
theorem Elm.of {e : TypeId} {z : Value} {size bytes : Nat} (h : (P.info? e).map (fun i => (i.zero, i.size, i.bytes)) = some (some z, size, bytes)) (h1 : z.cells.size = size) (h2 : 0 < size) : Elm P e z size bytes := ⟨h, h1, h2⟩
/-- append onto a row of the call's own -/
theorem L.append {base n' m c B size bytes : Nat} {A : Option Addr} {xs news : List Value} {z : Value} (hg : wn ops f g = true) (hs : ev f x = v) (hx : ev f y = .slice A m c) (ht : P.underlying t = some (.slice e)) (he : Elm P e z size bytes)
    (hown : w.ownsRow base e size v n' xs) (hr : Reads w B size A m news) (h1 : (news.all (·.oneCell')) = true) (hlen : n' + m ≤ maxLen ∧ (n' + m) * bytes ≤ 140737488355328) (hbase : base ≤ w.heap.size)
    (h : ∀ A' c' w', w'.ownsRow base e size (.slice A' (n' + m) c') (n' + m) (xs ++ news) → w.grownBy w' v.ownBlock → Below base w w' → (Value.ownBlock (.slice A' (n' + m) c') = v.ownBlock ∨ Value.ownBlock (.slice A' (n' + m) c') = some w.heap.size) → L P n ops Q rest (putO f d (.slice A' (n' + m) c')) w') :
    L P n ops Q (⟨d, .call { callee := .builtin .append, args := #[x, y], argTypes := #[t, t] }, ty, pos, aft, g⟩ :: rest) f w := by
  refine L.law hg fun a hr' K hK => ?_
  obtain ⟨i, hi0, hz, hs1, hb1⟩ := info_parts he.1
  refine wp_append_any w x y t rfl base e i z size bytes ht hi0 hz hs1 hb1 he.2.1 he.2.2 v n' xs (by rw [hr'.eval]; exact hs) hown B A m c news (by rw [hr'.eval]; exact hx) hr (fun u hu => List.all_eq_true.1 h1 u hu) hlen.1 hlen.2 hbase ?_
  intro v' w' h2 h3 h4
  obtain ⟨A', c', rfl⟩ := ownsRow_slice h2
  exact hK _ _ (h A' c' w' h2 h3 (below_grown hown h3 hbase) h4)
theorem nums_ones (k : IntKind) (zs : List Int) : ((nums k zs).all (·.oneCell')) = true := by
  rw [List.all_eq_true]
  exact nums_one k zs
/-- append of numbers -/
theorem L.appendN {base n' m c B bytes : Nat} {k : IntKind} {A : Option Addr} {xs zs : List Int} {z : Value} (hg : wn ops f g = true) (hs : ev f x = v) (hx : ev f y = .slice A m c) (ht : P.underlying t = some (.slice e)) (he : Elm P e z 1 bytes)
    (hown : w.ownsRow base e 1 v n' (nums k xs)) (hr : Reads w B 1 A m (nums k zs)) (hlen : n' + m ≤ maxLen ∧ (n' + m) * bytes ≤ 140737488355328) (hbase : base ≤ w.heap.size)
    (h : ∀ A' c' w', w'.ownsRow base e 1 (.slice A' (n' + m) c') (n' + m) (nums k (xs ++ zs)) → w.grownBy w' v.ownBlock → Below base w w' → (Value.ownBlock (.slice A' (n' + m) c') = v.ownBlock ∨ Value.ownBlock (.slice A' (n' + m) c') = some w.heap.size) → L P n ops Q rest (putO f d (.slice A' (n' + m) c')) w') :
    L P n ops Q (⟨d, .call { callee := .builtin .append, args := #[x, y], argTypes := #[t, t] }, ty, pos, aft, g⟩ :: rest) f w := by
  refine L.append hg hs hx ht he hown hr (nums_ones _ _) hlen hbase ?_
  rw [nums_append]
  exact h
/-- the same, the length and the numbers by names of one's own -/
theorem L.appendQ {base n' m c B bytes q : Nat} {k : IntKind} {A : Option Addr} {xs zs ys : List Int} {z : Value} (hg : wn ops f g = true) (hs : ev f x = v) (hx : ev f y = .slice A m c) (ht : P.underlying t = some (.slice e)) (he : Elm P e z 1 bytes)
    (hown : w.ownsRow base e 1 v n' (nums k xs)) (hr : Reads w B 1 A m (nums k zs)) (hq : n' + m = q) (hy : xs ++ zs = ys) (hlen : q ≤ maxLen ∧ q * bytes ≤ 140737488355328) (hbase : base ≤ w.heap.size)
    (h : ∀ A' c' w', w'.ownsRow base e 1 (.slice A' q c') q (nums k ys) → w.grownBy w' v.ownBlock → Below base w w' → (Value.ownBlock (.slice A' q c') = v.ownBlock ∨ Value.ownBlock (.slice A' q c') = some w.heap.size) → L P n ops Q rest (putO f d (.slice A' q c')) w') :
    L P n ops Q (⟨d, .call { callee := .builtin .append, args := #[x, y], argTypes := #[t, t] }, ty, pos, aft, g⟩ :: rest) f w := by
  subst hq hy
  exact L.appendN hg hs hx ht he hown hr hlen hbase h
theorem L.appendV {base n' m c B size bytes q : Nat} {A : Option Addr} {xs news ys : List Value} {z : Value} (hg : wn ops f g = true) (hs : ev f x = v) (hx : ev f y = .slice A m c) (ht : P.underlying t = some (.slice e)) (he : Elm P e z size bytes)
    (hown : w.ownsRow base e size v n' xs) (hr : Reads w B size A m news) (h1 : (news.all (·.oneCell')) = true) (hq : n' + m = q) (hy : xs ++ news = ys) (hlen : q ≤ maxLen ∧ q * bytes ≤ 140737488355328) (hbase : base ≤ w.heap.size)
    (h : ∀ A' c' w', w'.ownsRow base e size (.slice A' q c') q ys → w.grownBy w' v.ownBlock → Below base w w' → (Value.ownBlock (.slice A' q c') = v.ownBlock ∨ Value.ownBlock (.slice A' q c') = some w.heap.size) → L P n ops Q rest (putO f d (.slice A' q c')) w') :
    L P n ops Q (⟨d, .call { callee := .builtin .append, args := #[x, y], argTypes := #[t, t] }, ty, pos, aft, g⟩ :: rest) f w := by
  subst hq hy
  exact L.append hg hs hx ht he hown hr h1 hlen hbase h
theorem own_nil (w : World) (base : Nat) (e : TypeId) (size : Nat) : w.ownsRow base e size (.slice none 0 0) 0 [] := World.ownsRow_nil _ _ _ _
/-- a new block of cells is a row of the call's own -/
theorem blk_own {base b q c size : Nat} {l : List Value} (h : Blk w b e l.toArray) (hb : base ≤ b) (hq : q ≤ c) (hm : c ≤ maxLen) (hl : l.length = c * size) : w.ownsRow base e size (.slice (some ⟨b, 0, none⟩) q c) q (l.take (q * size)) := by
  refine ⟨by rw [List.length_take, hl]; exact Nat.min_eq_left (Nat.mul_le_mul_right _ hq), .inr ⟨b, c, l.toArray, rfl, hb, h, hq, hm, by simpa using hl, by simp⟩⟩
theorem blk_own1 {base b q : Nat} {l : List Value} (h : Blk w b e l.toArray) (hb : base ≤ b) (hm : q ≤ maxLen) (hl : l.length = q) : w.ownsRow base e 1 (.slice (some ⟨b, 0, none⟩) q q) q l := by
  have := blk_own (size := 1) h hb (Nat.le_refl _) hm (by omega)
  rwa [List.take_of_length_le (by omega)] at this
theorem blk_reads {b q B : Nat} {l : List Value} (h : Blk w b t l.toArray) (hb : b < B) (hl : l.length = q) : Reads w B 1 (some ⟨b, 0, none⟩) q l := by
  refine ⟨by omega, fun _ => ⟨_, rfl, hb, fun j u hu => ?_⟩⟩
  rw [Addr.add_mid, Nat.zero_add, h.cell]
  simpa using hu
/-- make -/
theorem L.make {size bytes : Nat} {z : Value} {q c : Nat} {k kx : IntKind} (hg : wn ops f g = true) (hx : ev f x = .int k (q : Int)) (hy : ev f y = .int kx (c : Int)) (ht : P.underlying t = some (.slice e)) (he : Elm P e z size bytes) (hq : q ≤ c ∧ bytes * c ≤ 281474976710656 ∧ c ≤ 9223372036854775807)
    (h : ∀ b w', b = w.heap.size → w'.heap.size = w.heap.size + 1 → Blk w' b e (madeCells z.cells (c * size)) → Ext w w' → L P n ops Q rest (putO f d (.slice (some ⟨b, 0, none⟩) q c)) w') :
    L P n ops Q (⟨d, .makeSlice t x y, ty, pos, aft, g⟩ :: rest) f w := by
  obtain ⟨i, hi0, hz, hs1, hb1⟩ := info_parts he.1
  have := run_make_rowN (P := P) t e i z ht hi0 hz k kx q c hq.1 (by rw [hb1]; exact hq.2.1) hq.2.2 w
  rw [hs1] at this
  refine L.val hg ?_ (h w.heap.size _ rfl (by simp) (Blk.new _ _ _) (Ext.alloc _ _))
  simp only [execOp, hx, hy, Sem.run_bind, this]
  rfl
theorem made_one {z : Value} {c : Nat} (hz : z.cells = #[z]) : madeCells z.cells (c * 1) = (List.replicate c z).toArray := by
  apply Array.ext'
  rw [hz, Nat.mul_one, toList_madeCells_one]
/-! ### regions that draw their order -/
/-- whatever order is picked; S holds behind each operation but one, that comes last -/
def wpAnyL (P : Program) (ops : Array Oper) (Q : Exit → Act → World → Prop) (S : World → Prop) (ℓ : Nat) : Nat → Array Bool → Act → World → Prop
  | 0, listed, a, w => Region.ready .any ops listed = [] ∧ Q .normal a w
  | fuel + 1, listed, a, w =>
    (Region.ready .any ops listed = [] → Q .normal a w) ∧
    ∀ i ∈ Region.ready .any ops listed, wpOp P ops Q i (fun a' w' => (i ≠ ℓ → S w') ∧ wpAnyL P ops Q S ℓ fuel (listed.setIfInBounds i true) a' w') a w
theorem wpAny_of_L {P : Program} {ops : Array Oper} {Q : Exit → Act → World → Prop} {S : World → Prop} {ℓ : Nat} : ∀ (fuel : Nat) (listed : Array Bool) (a : Act) (w : World), wpAnyL P ops Q S ℓ fuel listed a w → wpAny P .any ops Q fuel listed a w
  | 0, _, _, _, h => h
  | fuel + 1, _, _, _, h => ⟨h.1, fun i hi => wpOp_mono (fun a' w' h' => wpAny_of_L fuel _ a' w' h'.2) (h.2 i hi)⟩
/-- those that wait for one -/
def waiters (ops : Array Oper) (i : Nat) : List Nat :=
  (List.range ops.size).foldl (fun W j => match ops[j]? with
    | some o => if o.after.any (fun e => Region.binds .any e && (e.on == i || W.contains e.on)) then j :: W else W
    | none => W) []
/-- number ℓ comes later than number i, or there is no such number -/
def late (ops : Array Oper) (listed : Array Bool) (i ℓ : Nat) : Bool :=
  Nat.ble ops.size ℓ || ((waiters ops i).contains ℓ && (waiters ops i).all fun j => !listed.getD j true && (match ops[j]? with
    | some o => o.after.any (fun e => Region.binds .any e && (e.on == i || (waiters ops i).contains e.on))
    | none => false))
theorem wpAnyL_gen {P : Program} {ops : Array Oper} {Q : Exit → Act → World → Prop} {S : World → Prop} {ℓ i : Nat} {oi : Oper} {v : Value} {Y : Act → Prop} (hi : ops[i]? = some oi)
    (hop : ∀ {K : Act → World → Prop} {a : Act} {w : World}, Y a → S w → K (a.put oi.dst v) w → wpOp P ops Q i K a w)
    (hpast : ∀ {j : Nat} {oj : Oper} {K : Act → World → Prop} {a : Act} {w : World}, ops[j]? = some oj → oi.apart ops oj = true → Y a → wpOp P ops Q j K (a.put oi.dst v) w → wpOp P ops Q j (fun a' w' => Y a' ∧ K (a'.put oi.dst v) w') a w)
    (W : List Nat) (hW : ∀ j ∈ W, ∃ oj, ops[j]? = some oj ∧ ∃ e ∈ oj.after, Region.binds .any e = true ∧ (e.on = i ∨ e.on ∈ W)) (hℓ : ℓ ∈ W ∨ ops.size ≤ ℓ) :
    ∀ (fuel : Nat) (listed : Array Bool) (a : Act) (w : World),
      (∀ j oj, ops[j]? = some oj → j ≠ i → listed.getD j true = false → (∀ e ∈ oj.after, Region.binds .any e = true → e.on ≠ i) → oi.apart ops oj = true) →
      (∀ j ∈ W, listed.getD j true = false) →
      i ∈ Region.ready .any ops listed → Y a → S w →
      wpAnyL P ops Q S ℓ fuel (listed.setIfInBounds i true) (a.put oi.dst v) w → wpAnyL P ops Q S ℓ (fuel + 1) listed a w := by
  intro fuel
  induction fuel with
  | zero =>
    intro listed a w _ _ hr hy hS H
    refine ⟨fun h => (by rw [h] at hr; cases hr), fun j hj => ?_⟩
    by_cases hji : j = i
    · subst hji; exact hop hy hS ⟨fun _ => hS, H⟩
    · have := ready_mono hj hji
      rw [H.1] at this
      cases this
  | succ fuel ih =>
    intro listed a w hfree hWl hr hy hS H
    refine ⟨fun h => (by rw [h] at hr; cases hr), fun j hj => ?_⟩
    by_cases hji : j = i
    · subst hji; exact hop hy hS ⟨fun _ => hS, H⟩
    · have h1 := H.2 j (ready_mono hj hji)
      obtain ⟨hjun, oj, hoj, hall⟩ := mem_ready.1 hj
      have hiun := (mem_ready.1 hr).1
      have clash : ∀ k, listed.getD k false = true → listed.getD k true = false → False := fun k h1 h0 => by
        rcases Nat.lt_or_ge k listed.size with h' | h'
        · simp [h'] at h0 h1; rw [h0] at h1; cases h1
        · simp [Array.getElem?_eq_none h'] at h1
      have hnot : ∀ e ∈ oj.after, Region.binds .any e = true → e.on ≠ i := fun e he hb heq => by
        have h1 := hall e he hb
        rw [heq] at h1
        exact clash i h1 hiun
      have hjW : j ∉ W := fun hjW => by
        obtain ⟨oj', hoj', e, he, hb, hon⟩ := hW j hjW
        rw [hoj] at hoj'
        obtain rfl : oj = oj' := by injection hoj'
        have h1 := hall e he hb
        rcases hon with hon | hon
        · rw [hon] at h1; exact clash i h1 hiun
        · exact clash e.on h1 (hWl e.on hon)
      have hjℓ : j ≠ ℓ := fun h => by
        subst h
        rcases hℓ with h | h
        · exact hjW h
        · rw [Array.getElem?_eq_none h] at hoj; cases hoj
      have h2 := hpast hoj (hfree j oj hoj hji hjun hnot) hy h1
      have hfree' : ∀ k ok, ops[k]? = some ok → k ≠ i → (listed.setIfInBounds j true).getD k true = false →
          (∀ e ∈ ok.after, Region.binds .any e = true → e.on ≠ i) → oi.apart ops ok = true := fun k ok hk hki hun hno => by
        refine hfree k ok hk hki ?_ hno
        by_cases hjk : j = k
        · subst hjk; exact hjun
        · rw [getD_set_ne true hjk] at hun; exact hun
      have hWl' : ∀ k ∈ W, (listed.setIfInBounds j true).getD k true = false := fun k hk => by
        rw [getD_set_ne true (show j ≠ k from fun h => by subst h; exact hjW hk)]; exact hWl k hk
      refine wpOp_mono (fun a' w' h3 => ⟨h3.2.1, ih (listed.setIfInBounds j true) a' w' hfree' hWl' (ready_mono hr (Ne.symm hji)) h3.1 (h3.2.1 hjℓ) ?_⟩) h2
      rw [Array.setIfInBounds_comm _ _ hji]
      exact h3.2.2
theorem late_spec {ops : Array Oper} {listed : Array Bool} {i ℓ : Nat} (h : late ops listed i ℓ = true) :
    ∃ W : List Nat, (∀ j ∈ W, ∃ oj, ops[j]? = some oj ∧ ∃ e ∈ oj.after, Region.binds .any e = true ∧ (e.on = i ∨ e.on ∈ W)) ∧ (ℓ ∈ W ∨ ops.size ≤ ℓ) ∧ ∀ j ∈ W, listed.getD j true = false := by
  unfold late at h
  rw [Bool.or_eq_true, Bool.and_eq_true] at h
  rcases h with h | ⟨h1, h2⟩
  · exact ⟨[], fun j hj => (List.not_mem_nil hj).elim, Or.inr (Nat.le_of_ble_eq_true h), fun j hj => (List.not_mem_nil hj).elim⟩
  · refine ⟨waiters ops i, fun j hj => ?_, .inl (by simpa using h1), fun j hj => ?_⟩
    · have h3 := List.all_eq_true.1 h2 j hj
      rw [Bool.and_eq_true] at h3
      have h4 := h3.2
      cases ho : ops[j]? with
      | none => rw [ho] at h4; cases h4
      | some o =>
        rw [ho] at h4
        simp only [Array.any_eq_true'] at h4
        obtain ⟨e, he, hb⟩ := h4
        refine ⟨o, rfl, e, he, ?_⟩
        simpa using hb
    · have h3 := List.all_eq_true.1 h2 j hj
      rw [Bool.and_eq_true] at h3
      simpa using h3.1
theorem wpAnyL_take {P : Program} {ops : Array Oper} {Q : Exit → Act → World → Prop} {S : World → Prop} {ℓ i : Nat} {oi : Oper} {v : Value} {fuel : Nat} {listed : Array Bool} {a : Act} {w : World} (hi : ops[i]? = some oi)
    (hs : Region.noSelect ops = true) (hf : Region.free .any ops listed i = true) (hr : (Region.ready .any ops listed).contains i = true) (hl : late ops listed i ℓ = true)
    (hQ : ∀ c a w, Q (.panic c) (a.put oi.dst v) w → Q (.panic c) a w) (hy : YieldsIf P ops S oi v a) (hS : S w)
    (h : wpAnyL P ops Q S ℓ fuel (listed.setIfInBounds i true) (a.put oi.dst v) w) : wpAnyL P ops Q S ℓ (fuel + 1) listed a w := by
  obtain ⟨W, h1, h2, h3⟩ := late_spec hl
  have hsel := Region.noSelect_spec hs
  exact wpAnyL_gen hi (fun hy hS h => hy.wpOp hi hS h) (fun {j oj K a w} hj hap hy h => wpOp_putIf hj hap (fun cs b => hsel i oi cs b hi) (fun cs b => hsel j oj cs b hj) hQ hy h) W h1 h2 fuel listed a w (Region.free_spec hi hf) h3 (by simpa using hr) hy hS h
theorem wpAnyL_all {P : Program} {ops : Array Oper} {Q : Exit → Act → World → Prop} {S : World → Prop} {ℓ : Nat} {rs : List Nat} {fuel : Nat} {listed : Array Bool} {a : Act} {w : World} (hr : Region.ready .any ops listed = rs) (hne : rs ≠ [])
    (h : ∀ i ∈ rs, wpOp P ops Q i (fun a' w' => (i ≠ ℓ → S w') ∧ wpAnyL P ops Q S ℓ fuel (listed.setIfInBounds i true) a' w') a w) : wpAnyL P ops Q S ℓ (fuel + 1) listed a w :=
  ⟨fun h0 => absurd (hr ▸ h0) hne, hr ▸ h⟩
theorem wpAnyL_done {P : Program} {ops : Array Oper} {Q : Exit → Act → World → Prop} {S : World → Prop} {ℓ : Nat} {listed : Array Bool} {a : Act} {w : World} (hr : Region.ready .any ops listed = []) (h : Q .normal a w) :
    ∀ fuel, wpAnyL P ops Q S ℓ fuel listed a w
  | 0 => ⟨hr, h⟩
  | _ + 1 => ⟨fun _ => h, by rw [hr]; simp⟩
/-- a world that meets S is kept; some operations have come up -/
def D (P : Program) (n : Nat) (ops : List Oper) (S : World → Prop) (ℓ : Nat) (Q : Exit → Fr → World → Prop) (fuel : Nat) (listed : Array Bool) (f : Fr) (w : World) : Prop :=
  ops.all (fitO n) = true → ∀ a, Rep n f a → wpAnyL P ops.toArray (lft n Q) S ℓ fuel listed a w
theorem J.draw {id : Nat} {l : List Oper} {S : World → Prop} {ℓ : Nat} (hm : P.follows .mixedOrders = true) (h : ∀ w1, Ext w w1 → w1.heap = w.heap → D P n l S ℓ Q l.length (Array.replicate l.length false) f w1) : J P n (.region id l.toArray true) Q f w := by
  intro hf a hr
  simp only [fitC] at hf
  refine wp_region_any hm (wpAny_of_L (S := S) (ℓ := ℓ) _ _ _ _ ?_)
  have := h w.drew (Ext.drew w) rfl hf a hr
  simpa using this
theorem D.done {S : World → Prop} {ℓ : Nat} {fuel : Nat} {listed : Array Bool} (hr : Region.ready .any ops.toArray listed = []) (h : Q .normal f w) : D P n ops S ℓ Q fuel listed f w :=
  fun _ _ hr' => wpAnyL_done hr ⟨f, hr', h⟩ fuel
/-- an operation that yields one value in every world that meets S, ahead of all others -/
theorem D.take {S : World → Prop} {ℓ : Nat} {fuel : Nat} {listed : Array Bool} (i : Nat) {o : Oper} (ho : ops[i]? = some o)
    (hb : (Region.noSelect ops.toArray && Region.free .any ops.toArray listed i && (Region.ready .any ops.toArray listed).contains i && late ops.toArray listed i ℓ) = true) (hQ : ∀ c f w, Q (.panic c) f w → False)
    (hg : wn ops f o.guard = true) (hx : ∀ w', S w' → (execOp (ev f) o).run P w' = .ok (.value v) w') (hS : S w) (h : D P n ops S ℓ Q fuel (listed.setIfInBounds i true) (putO f o.dst v) w) : D P n ops S ℓ Q (fuel + 1) listed f w := by
  intro hf a hr
  simp only [Bool.and_eq_true] at hb
  refine wpAnyL_take (i := i) (oi := o) (v := v) (by simpa using ho) hb.1.1.1 hb.1.1.2 hb.1.2 hb.2 ?_ (.inl ⟨by rw [wanted_eq hr]; exact hg, fun w' hw' => by rw [hr.eval]; exact hx w' hw'⟩) hS ?_
  · rintro c a w ⟨f', _, hq⟩
    exact absurd hq (hQ c f' w)
  · exact h hf _ (hr.put v (List.all_eq_true.1 hf o (List.mem_of_getElem? ho)))
theorem D.off {S : World → Prop} {ℓ : Nat} {fuel : Nat} {listed : Array Bool} (i : Nat) {o : Oper} (ho : ops[i]? = some o)
    (hb : (Region.noSelect ops.toArray && Region.free .any ops.toArray listed i && (Region.ready .any ops.toArray listed).contains i && late ops.toArray listed i ℓ) = true) (hQ : ∀ c f w, Q (.panic c) f w → False)
    (hg : wn ops f o.guard = false) (hS : S w) (h : D P n ops S ℓ Q fuel (listed.setIfInBounds i true) (putO f o.dst undef) w) : D P n ops S ℓ Q (fuel + 1) listed f w := by
  intro hf a hr
  simp only [Bool.and_eq_true] at hb
  refine wpAnyL_take (i := i) (oi := o) (v := undef) (by simpa using ho) hb.1.1.1 hb.1.1.2 hb.1.2 hb.2 ?_ (.inr ⟨by rw [wanted_eq hr]; exact hg, rfl⟩) hS ?_
  · rintro c a w ⟨f', _, hq⟩
    exact absurd hq (hQ c f' w)
  · exact h hf _ (hr.put undef (List.all_eq_true.1 hf o (List.mem_of_getElem? ho)))
theorem wp_mono2 {o : Oper} {a : Act} {w : World} {K K' : Act → World → Prop} {Q1 Q2 : Exit → Act → World → Prop} (hK : ∀ a w, K a w → K' a w) (hQ : ∀ e a w, e ≠ .normal → Q1 e a w → Q2 e a w) (h : o.wp P a w K Q1) : o.wp P a w K' Q2 := by
  unfold Oper.wp at *
  generalize (execOp a.eval o).run P w = r at *
  cases r with
  | ok n w' =>
    cases n <;> simp only [Oper.upon] at h ⊢ <;>
      first
        | exact hK _ _ h
        | exact Calls.mono h (fun e w'' he => by
            cases e
            case returned => exact hK _ _ he
            case panicked => exact hQ _ _ _ (by simp) he
            case outgrown => obtain ⟨a2, w2, h2⟩ := he; exact ⟨a2, w2, hQ _ _ _ (by simp) h2⟩)
        | exact Rows.mono h (fun _ _ he => hK _ _ he)
  | halt x w' => cases x <;> simp only [Oper.upon] at h ⊢ <;> first | exact hQ _ _ _ (by simp) h | exact h
/-- the same, the operation written out -/
theorem D.va {S : World → Prop} {ℓ : Nat} {fuel : Nat} {listed : Array Bool} (i : Nat) {k : Nat} {op : Op} (ho : ops[i]? = some ⟨some k, op, ty, pos, aft, g⟩)
    (hb : (Region.noSelect ops.toArray && Region.free .any ops.toArray listed i && (Region.ready .any ops.toArray listed).contains i && late ops.toArray listed i ℓ) = true) (hQ : ∀ c f w, Q (.panic c) f w → False)
    (hg : wn ops f g = true) (hx : ∀ w', S w' → (execOp (ev f) ⟨some k, op, ty, pos, aft, g⟩).run P w' = .ok (.value v) w') (hS : S w) (h : D P n ops S ℓ Q fuel (listed.setIfInBounds i true) (lk [(k, v)] f) w) : D P n ops S ℓ Q (fuel + 1) listed f w := D.take i ho hb hQ hg hx hS h
theorem D.no {S : World → Prop} {ℓ : Nat} {fuel : Nat} {listed : Array Bool} (i : Nat) {k : Nat} {op : Op} (ho : ops[i]? = some ⟨some k, op, ty, pos, aft, g⟩)
    (hb : (Region.noSelect ops.toArray && Region.free .any ops.toArray listed i && (Region.ready .any ops.toArray listed).contains i && late ops.toArray listed i ℓ) = true) (hQ : ∀ c f w, Q (.panic c) f w → False)
    (hg : wn ops f g = false) (hS : S w) (h : D P n ops S ℓ Q fuel (listed.setIfInBounds i true) (lk [(k, undef)] f) w) : D P n ops S ℓ Q (fuel + 1) listed f w := D.off i ho hb hQ hg hS h
/-- whichever of those that may come up -/
theorem D.all {S : World → Prop} {ℓ : Nat} {fuel : Nat} {listed : Array Bool} {rs : List Nat} (hr : Region.ready .any ops.toArray listed = rs) (hne : rs ≠ [])
    (h : ∀ i ∈ rs, ∃ o, ops[i]? = some o ∧ L P n ops (thn (fun f' w' => (i ≠ ℓ → S w') ∧ D P n ops S ℓ Q fuel (listed.setIfInBounds i true) f' w') Q) [o] f w) : D P n ops S ℓ Q (fuel + 1) listed f w := by
  intro hf a hr'
  refine wpAnyL_all hr hne fun i hi => ?_
  obtain ⟨o, ho, hl⟩ := h i hi
  have h1 := hl (by simp only [List.all_cons, List.all_nil, Bool.and_true]; exact List.all_eq_true.1 hf o (List.mem_of_getElem? ho)) a hr'
  unfold wpOp
  rw [show ops.toArray[i]? = some o by simpa using ho]
  simp only
  have mono : ∀ a' w', lft n (thn (fun f' w' => (i ≠ ℓ → S w') ∧ D P n ops S ℓ Q fuel (listed.setIfInBounds i true) f' w') Q) .normal a' w' → (i ≠ ℓ → S w') ∧ wpAnyL P ops.toArray (lft n Q) S ℓ fuel (listed.setIfInBounds i true) a' w' := by
    rintro a' w' ⟨f', hr2, hs, hd⟩
    exact ⟨hs, hd hf a' hr2⟩
  have monoQ : ∀ e a' w', e ≠ .normal → lft n (thn (fun f' w' => (i ≠ ℓ → S w') ∧ D P n ops S ℓ Q fuel (listed.setIfInBounds i true) f' w') Q) e a' w' → lft n Q e a' w' := by
    rintro e a' w' hne ⟨f', hr2, hq⟩
    refine ⟨f', hr2, ?_⟩
    cases e
    case normal => exact absurd rfl hne
    all_goals exact hq
  unfold wpList at h1
  by_cases hw : Region.wanted o (yielded ops.toArray a.tmps) = true
  · rw [if_pos hw] at h1 ⊢
    rcases h1 with h1 | ⟨h1, a2, w2, h2⟩
    · exact .inl (wp_mono2 mono monoQ h1)
    · exact .inr ⟨h1, a2, w2, monoQ _ _ _ (by simp) h2⟩
  · rw [if_neg hw] at h1 ⊢
    exact mono _ _ h1
theorem D.one {S : World → Prop} {ℓ : Nat} {fuel : Nat} {listed : Array Bool} (i : Nat) {o : Oper} (hr : Region.ready .any ops.toArray listed = [i]) (ho : ops[i]? = some o)
    (h : L P n ops (thn (fun f' w' => (i ≠ ℓ → S w') ∧ D P n ops S ℓ Q fuel (listed.setIfInBounds i true) f' w') Q) [o] f w) : D P n ops S ℓ Q (fuel + 1) listed f w :=
  D.all hr (by simp) (fun j hj => by
    obtain rfl : j = i := by simpa using hj
    exact ⟨o, ho, h⟩)
theorem D.two {S : World → Prop} {ℓ : Nat} {fuel : Nat} {listed : Array Bool} (i j : Nat) {o o' : Oper} (hr : Region.ready .any ops.toArray listed = [i, j]) (ho : ops[i]? = some o) (ho' : ops[j]? = some o')
    (h : L P n ops (thn (fun f' w' => (i ≠ ℓ → S w') ∧ D P n ops S ℓ Q fuel (listed.setIfInBounds i true) f' w') Q) [o] f w)
    (h' : L P n ops (thn (fun f' w' => (j ≠ ℓ → S w') ∧ D P n ops S ℓ Q fuel (listed.setIfInBounds j true) f' w') Q) [o'] f w) : D P n ops S ℓ Q (fuel + 1) listed f w :=
  D.all hr (by simp) (fun k hk => by
    have : k = i ∨ k = j := by simpa using hk
    rcases this with rfl | rfl
    · exact ⟨o, ho, h⟩
    · exact ⟨o', ho', h'⟩)
theorem D.three {S : World → Prop} {ℓ : Nat} {fuel : Nat} {listed : Array Bool} (i j k : Nat) {o o' o'' : Oper} (hr : Region.ready .any ops.toArray listed = [i, j, k]) (ho : ops[i]? = some o) (ho' : ops[j]? = some o') (ho'' : ops[k]? = some o'')
    (h : L P n ops (thn (fun f' w' => (i ≠ ℓ → S w') ∧ D P n ops S ℓ Q fuel (listed.setIfInBounds i true) f' w') Q) [o] f w)
    (h' : L P n ops (thn (fun f' w' => (j ≠ ℓ → S w') ∧ D P n ops S ℓ Q fuel (listed.setIfInBounds j true) f' w') Q) [o'] f w)
    (h'' : L P n ops (thn (fun f' w' => (k ≠ ℓ → S w') ∧ D P n ops S ℓ Q fuel (listed.setIfInBounds k true) f' w') Q) [o''] f w) : D P n ops S ℓ Q (fuel + 1) listed f w :=
  D.all hr (by simp) (fun q hq => by
    have : q = i ∨ q = j ∨ q = k := by simpa using hq
    rcases this with rfl | rfl | rfl
    · exact ⟨o, ho, h⟩
    · exact ⟨o', ho', h'⟩
    · exact ⟨o'', ho'', h''⟩)
/-! ### the way in and out -/
def args (l : List Value) : Nat → List (Nat × Value) := fun i => (List.range' i l.length).zip l
def resF (rs : Array ResultVar) (f : Fr) : Sem Value := do
  let vs ← rs.mapM fun
    | .tmp t => pure (f t)
    | .cell a t => do loadVar t (← asAddr (f a))
  pure (if h : vs.size = 1 then vs[0] else .tuple vs)
theorem results_eq {fn : Func} {a : Act} (hr : Rep n f a) : results fn a.tmps = resF fn.results f := by
  unfold results resF
  have : (fun t => a.tmps.getD t undef) = f := funext hr.get
  congr 1
  congr 1
  funext r
  cases r with
  | tmp t => simp only [hr.get]
  | cell c t => simp only [hr.get]
/-- how a function's body ends -/
def fin (P : Program) (rs : Array ResultVar) (R : Ending → World → Prop) : Exit → Fr → World → Prop
  | .normal, f, w => ∃ v, (resF rs f).run P w = .ok v w ∧ R (.returned v) w
  | .ret, f, w => ∃ v, (resF rs f).run P w = .ok v w ∧ R (.returned v) w
  | _, _, _ => False
theorem enter {id : FuncId} {fn : Func} {c : Code} {l : List Value} {R : Ending → World → Prop} (hf : P.funcs[id]? = some fn) (hb : fn.body = some c) (hk : (fitC fn.ntmps c && Nat.ble l.length fn.ntmps) = true)
    (h : J P fn.ntmps c (fin P fn.results R) (lk (args l 0) fun _ => undef) w) : Calls P id l.toArray w R := by
  simp only [Bool.and_eq_true] at hk
  have hle : l.length ≤ fn.ntmps := by simpa using hk.2
  refine calls_of_wp hf hb (wp_mono (h hk.1 _ ⟨by simp; omega, rfl, ?_⟩) ?_)
  · intro j
    have key : ∀ (l : List Value) (i j : Nat), lk ((List.range' i l.length).zip l) (fun _ => undef) j = if i ≤ j then l.getD (j - i) undef else undef := by
      intro l
      induction l with
      | nil => intro i j; simp [lk]
      | cons a l ih =>
        intro i j
        simp only [List.length_cons, List.range'_succ, List.zip_cons_cons, lk]
        rw [ih (i + 1) j]
        cases hb : Nat.beq j i with
        | true =>
          have := Nat.eq_of_beq_eq_true hb
          subst this
          simp
        | false =>
          have hne : j ≠ i := fun e => by subst e; rw [Nat.beq_refl] at hb; cases hb
          by_cases hij : i + 1 ≤ j
          · rw [if_pos hij, if_pos (by omega), show j - i = (j - (i + 1)) + 1 by omega]
            simp
          · rw [if_neg hij, if_neg (by omega)]
            rfl
    show (l.toArray ++ Array.replicate (fn.ntmps - l.toArray.size) undef).getD j undef = _
    unfold args
    rw [key l 0 j, if_pos (Nat.zero_le _), Nat.sub_zero, Array.getD_eq_getD_getElem?, Array.getElem?_append]
    by_cases hj : j < l.length
    · simp [hj, List.getD]
    · simp only [List.size_toArray, hj, if_false, List.getD, List.getElem?_eq_none (Nat.le_of_not_lt hj)]
      rw [Array.getElem?_replicate]
      split <;> rfl
  · rintro e a' w' ⟨f', hr, hq⟩
    cases e <;> simp only [fin] at hq <;> first
      | (obtain ⟨v, hv, hR⟩ := hq
         exact ⟨hr.defers, v, by rw [results_eq hr]; exact hv, hR⟩)
      | exact hq.elim
theorem thn_ret {K : Fr → World → Prop} (h : Q .ret f w) : thn K Q .ret f w := h
theorem inB_ret {id : Nat} (h : Q .ret f w) : inB id Q .ret f w := h
theorem fin1 {R : Ending → World → Prop} {k : Tmp} (h : R (.returned (f k)) w) : fin P #[.tmp k] R .ret f w := ⟨f k, by simp [resF], h⟩
theorem fin2 {R : Ending → World → Prop} {k1 k2 : Tmp} (h : R (.returned (.tuple #[f k1, f k2])) w) : fin P #[.tmp k1, .tmp k2] R .ret f w := ⟨_, by simp [resF], h⟩
theorem fin3 {R : Ending → World → Prop} {k1 k2 k3 : Tmp} (h : R (.returned (.tuple #[f k1, f k2, f k3])) w) : fin P #[.tmp k1, .tmp k2, .tmp k3] R .ret f w := ⟨_, by simp [resF], h⟩
theorem fin0 {R : Ending → World → Prop} {e : Exit} (he : e = .ret ∨ e = .normal) (h : R (.returned (.tuple #[])) w) : fin P #[] R e f w := by
  rcases he with rfl | rfl <;> exact ⟨_, by simp [resF], h⟩
end
end Go.Proofs.Ytlipeplfjkgamaa.H
/-
  The logic's fourth part: tests that are decided, a guard's two ways, elements and structs, heads.
-/
namespace Go.Proofs.Ytlipeplfjkgamaa.H
open Go.RowKit Go.Proofs.Ytlipeplfjkgamaa
set_option linter.unusedSimpArgs false
set_option linter.unusedVariables false
section
variable {P : Program} {n : Nat} {ops rest l : List Oper} {Q : Exit → Fr → World → Prop} {f : Fr} {w w' : World} {d : Option Tmp} {ty : TypeId} {pos : String} {aft : Array Edge} {g : Option (Nat × Bool)} {x y z o : Operand} {v u p : Value} {t e tx tz : TypeId} {c1 c2 : Code}
theorem J.iteT (hc : ev f o = .bool true) (h : J P n c1 Q f w) : J P n (.cond o c1 c2) Q f w := J.ite hc (fun _ => h) (fun h' => by cases h')
theorem J.iteF (hc : ev f o = .bool false) (h : J P n c2 Q f w) : J P n (.cond o c1 c2) Q f w := J.ite hc (fun h' => by cases h') (fun _ => h)
theorem J.decT {p : Prop} [Decidable p] (hc : ev f o = .bool (decide p)) (hp : p) (h : J P n c1 Q f w) : J P n (.cond o c1 c2) Q f w := J.dec hc (fun _ => h) (fun h' => absurd hp h')
theorem J.decF {p : Prop} [Decidable p] (hc : ev f o = .bool (decide p)) (hp : ¬ p) (h : J P n c2 Q f w) : J P n (.cond o c1 c2) Q f w := J.dec hc (fun h' => absurd h' hp) (fun _ => h)
theorem J.ndecT {p : Prop} [Decidable p] (hc : ev f o = .bool (!decide p)) (hp : ¬ p) (h : J P n c1 Q f w) : J P n (.cond o c1 c2) Q f w := J.ndec hc (fun _ => h) (fun h' => absurd h' hp)
theorem J.ndecF {p : Prop} [Decidable p] (hc : ev f o = .bool (!decide p)) (hp : p) (h : J P n c2 Q f w) : J P n (.cond o c1 c2) Q f w := J.ndec hc (fun h' => absurd hp h') (fun _ => h)
theorem lk_self (k : Nat) (v : Value) (h : f k = v) : lk [(k, v)] f = f := by
  funext j
  show (bif Nat.beq j k then v else f j) = f j
  cases hb : Nat.beq j k with
  | false => rfl
  | true =>
    have := Nat.eq_of_beq_eq_true hb
    subst this
    exact h.symm
theorem caseB_ {C : Fr → Prop} {k : Nat} {b : Bool} (hk : f k = .bool b) (h1 : b = true → C (lk [(k, .bool true)] f)) (h2 : b = false → C (lk [(k, .bool false)] f)) : C f := by
  cases b
  · have := h2 rfl; rwa [lk_self k _ hk] at this
  · have := h1 rfl; rwa [lk_self k _ hk] at this
theorem caseDec_ {C : Fr → Prop} {k : Nat} {p : Prop} [Decidable p] (hk : f k = .bool (decide p)) (h1 : p → C (lk [(k, .bool true)] f)) (h2 : ¬ p → C (lk [(k, .bool false)] f)) : C f :=
  caseB_ hk (fun h => h1 (of_decide_eq_true h)) (fun h => h2 (of_decide_eq_false h))
theorem caseNdec_ {C : Fr → Prop} {k : Nat} {p : Prop} [Decidable p] (hk : f k = .bool (!decide p)) (h1 : ¬ p → C (lk [(k, .bool true)] f)) (h2 : p → C (lk [(k, .bool false)] f)) : C f :=
  caseB_ hk (fun h => h1 (by simpa using h)) (fun h => h2 (by simpa using h))
theorem L.caseB {k : Nat} {b : Bool} (hk : f k = .bool b) (h1 : b = true → L P n ops Q rest (lk [(k, .bool true)] f) w) (h2 : b = false → L P n ops Q rest (lk [(k, .bool false)] f) w) : L P n ops Q rest f w := caseB_ (C := fun f => L P n ops Q rest f w) hk h1 h2
theorem L.caseDec {k : Nat} {p : Prop} [Decidable p] (hk : f k = .bool (decide p)) (h1 : p → L P n ops Q rest (lk [(k, .bool true)] f) w) (h2 : ¬ p → L P n ops Q rest (lk [(k, .bool false)] f) w) : L P n ops Q rest f w := caseDec_ (C := fun f => L P n ops Q rest f w) hk h1 h2
theorem L.caseNdec {k : Nat} {p : Prop} [Decidable p] (hk : f k = .bool (!decide p)) (h1 : ¬ p → L P n ops Q rest (lk [(k, .bool true)] f) w) (h2 : p → L P n ops Q rest (lk [(k, .bool false)] f) w) : L P n ops Q rest f w := caseNdec_ (C := fun f => L P n ops Q rest f w) hk h1 h2
theorem L.caseDecT {k : Nat} {p : Prop} [Decidable p] (hk : f k = .bool (decide p)) (hp : p) (h1 : L P n ops Q rest (lk [(k, .bool true)] f) w) : L P n ops Q rest f w := L.caseDec hk (fun _ => h1) (fun h => absurd hp h)
theorem L.caseDecF {k : Nat} {p : Prop} [Decidable p] (hk : f k = .bool (decide p)) (hp : ¬ p) (h1 : L P n ops Q rest (lk [(k, .bool false)] f) w) : L P n ops Q rest f w := L.caseDec hk (fun h => absurd h hp) (fun _ => h1)
theorem L.caseNdecT {k : Nat} {p : Prop} [Decidable p] (hk : f k = .bool (!decide p)) (hp : ¬ p) (h1 : L P n ops Q rest (lk [(k, .bool true)] f) w) : L P n ops Q rest f w := L.caseNdec hk (fun _ => h1) (fun h => absurd h hp)
theorem L.caseNdecF {k : Nat} {p : Prop} [Decidable p] (hk : f k = .bool (!decide p)) (hp : p) (h1 : L P n ops Q rest (lk [(k, .bool false)] f) w) : L P n ops Q rest f w := L.caseNdec hk (fun h => absurd hp h) (fun _ => h1)
theorem L.caseBT {k : Nat} {b : Bool} (hk : f k = .bool b) (hp : b = true) (h1 : L P n ops Q rest (lk [(k, .bool true)] f) w) : L P n ops Q rest f w := L.caseB hk (fun _ => h1) (fun h => by rw [hp] at h; cases h)
theorem L.caseBF {k : Nat} {b : Bool} (hk : f k = .bool b) (hp : b = false) (h1 : L P n ops Q rest (lk [(k, .bool false)] f) w) : L P n ops Q rest f w := L.caseB hk (fun h => by rw [hp] at h; cases h) (fun _ => h1)
section
variable {S : World → Prop} {ℓ : Nat} {fuel : Nat} {listed : Array Bool}
theorem D.caseB {k : Nat} {b : Bool} (hk : f k = .bool b) (h1 : b = true → D P n ops S ℓ Q fuel listed (lk [(k, .bool true)] f) w) (h2 : b = false → D P n ops S ℓ Q fuel listed (lk [(k, .bool false)] f) w) : D P n ops S ℓ Q fuel listed f w := caseB_ (C := fun f => D P n ops S ℓ Q fuel listed f w) hk h1 h2
theorem D.caseDec {k : Nat} {p : Prop} [Decidable p] (hk : f k = .bool (decide p)) (h1 : p → D P n ops S ℓ Q fuel listed (lk [(k, .bool true)] f) w) (h2 : ¬ p → D P n ops S ℓ Q fuel listed (lk [(k, .bool false)] f) w) : D P n ops S ℓ Q fuel listed f w := caseDec_ (C := fun f => D P n ops S ℓ Q fuel listed f w) hk h1 h2
theorem D.caseNdec {k : Nat} {p : Prop} [Decidable p] (hk : f k = .bool (!decide p)) (h1 : ¬ p → D P n ops S ℓ Q fuel listed (lk [(k, .bool true)] f) w) (h2 : p → D P n ops S ℓ Q fuel listed (lk [(k, .bool false)] f) w) : D P n ops S ℓ Q fuel listed f w := caseNdec_ (C := fun f => D P n ops S ℓ Q fuel listed f w) hk h1 h2
theorem D.caseDecT {k : Nat} {p : Prop} [Decidable p] (hk : f k = .bool (decide p)) (hp : p) (h1 : D P n ops S ℓ Q fuel listed (lk [(k, .bool true)] f) w) : D P n ops S ℓ Q fuel listed f w := D.caseDec hk (fun _ => h1) (fun h => absurd hp h)
theorem D.caseDecF {k : Nat} {p : Prop} [Decidable p] (hk : f k = .bool (decide p)) (hp : ¬ p) (h1 : D P n ops S ℓ Q fuel listed (lk [(k, .bool false)] f) w) : D P n ops S ℓ Q fuel listed f w := D.caseDec hk (fun h => absurd h hp) (fun _ => h1)
theorem D.caseNdecT {k : Nat} {p : Prop} [Decidable p] (hk : f k = .bool (!decide p)) (hp : ¬ p) (h1 : D P n ops S ℓ Q fuel listed (lk [(k, .bool true)] f) w) : D P n ops S ℓ Q fuel listed f w := D.caseNdec hk (fun _ => h1) (fun h => absurd h hp)
theorem D.caseNdecF {k : Nat} {p : Prop} [Decidable p] (hk : f k = .bool (!decide p)) (hp : p) (h1 : D P n ops S ℓ Q fuel listed (lk [(k, .bool false)] f) w) : D P n ops S ℓ Q fuel listed f w := D.caseNdec hk (fun h => absurd hp h) (fun _ => h1)
theorem D.caseBT {k : Nat} {b : Bool} (hk : f k = .bool b) (hp : b = true) (h1 : D P n ops S ℓ Q fuel listed (lk [(k, .bool true)] f) w) : D P n ops S ℓ Q fuel listed f w := D.caseB hk (fun _ => h1) (fun h => by rw [hp] at h; cases h)
theorem D.caseBF {k : Nat} {b : Bool} (hk : f k = .bool b) (hp : b = false) (h1 : D P n ops S ℓ Q fuel listed (lk [(k, .bool false)] f) w) : D P n ops S ℓ Q fuel listed f w := D.caseB hk (fun h => by rw [hp] at h; cases h) (fun _ => h1)
end
theorem at_int {k : Nat} {kd : IntKind} {m m' : Int} (h : f k = .int kd m) (e : m = m') : f k = .int kd m' := by rw [h, e]
theorem at_slice {k : Nat} {A : Option Addr} {m m' c : Nat} (h : f k = .slice A m c) (e : m = m') : f k = .slice A m' c := by rw [h, e]
theorem At1 {k1 : Nat} {v1 : Value} (h1 : f k1 = v1) : At f [(k1, v1)] := ⟨h1, trivial⟩
theorem At2 {k1 k2 : Nat} {v1 v2 : Value} (h1 : f k1 = v1) (h2 : f k2 = v2) : At f [(k1, v1), (k2, v2)] := ⟨h1, h2, trivial⟩
theorem At3 {k1 k2 k3 : Nat} {v1 v2 v3 : Value} (h1 : f k1 = v1) (h2 : f k2 = v2) (h3 : f k3 = v3) : At f [(k1, v1), (k2, v2), (k3, v3)] := ⟨h1, h2, h3, trivial⟩
theorem At4 {k1 k2 k3 k4 : Nat} {v1 v2 v3 v4 : Value} (h1 : f k1 = v1) (h2 : f k2 = v2) (h3 : f k3 = v3) (h4 : f k4 = v4) : At f [(k1, v1), (k2, v2), (k3, v3), (k4, v4)] := ⟨h1, h2, h3, h4, trivial⟩
theorem At5 {k1 k2 k3 k4 k5 : Nat} {v1 v2 v3 v4 v5 : Value} (h1 : f k1 = v1) (h2 : f k2 = v2) (h3 : f k3 = v3) (h4 : f k4 = v4) (h5 : f k5 = v5) : At f [(k1, v1), (k2, v2), (k3, v3), (k4, v4), (k5, v5)] := ⟨h1, h2, h3, h4, h5, trivial⟩
theorem At6 {k1 k2 k3 k4 k5 k6 : Nat} {v1 v2 v3 v4 v5 v6 : Value} (h1 : f k1 = v1) (h2 : f k2 = v2) (h3 : f k3 = v3) (h4 : f k4 = v4) (h5 : f k5 = v5) (h6 : f k6 = v6) : At f [(k1, v1), (k2, v2), (k3, v3), (k4, v4), (k5, v5), (k6, v6)] := ⟨h1, h2, h3, h4, h5, h6, trivial⟩
theorem At0 : At f [] := trivial
theorem own_ne {base size n' c : Nat} {A : Option Addr} {xs : List Value} (h : w.ownsRow base e size (.slice A n' c) n' xs) (hn : 0 < n') : A ≠ none := by
  obtain ⟨b, cap, hA, _, _⟩ := h.form hn
  injection hA with hA
  rw [hA]; simp
theorem X.fieldP {ρ : Operand → Value} {A : Option Addr} {i j sz : Nat} {fs : Array Field} {fd : Field} (hx : ρ x = pA A j) (ht : P.underlying t = some (.struct fs)) (hi : fs[i]? = some fd) (hz : Siz P fd.type sz) (hpos : 0 < sz) (hA : A ≠ none) :
    (execOp ρ ⟨d, .fieldAddr t x i, ty, pos, aft, g⟩).run P w = .ok (.value (pA A (j + fd.offset))) w := by
  cases A with
  | none => exact absurd rfl hA
  | some a =>
    simp only [pA, Option.map_some] at hx
    simp only [execOp, hx, Instr.fieldAt, Sem.run_bind, run_underlying ht, Result.andThen_ok, hi, Instr.sureAddr, Sem.run_pure, fieldPlace, hz.run]
    rw [if_neg (by omega)]
    simp only [Sem.run_pure, Result.andThen_ok, pA, Option.map_some, add_of_add]
/-- structs by value -/
def Plc (P : Program) (fs : Array Field) (ps : List (Nat × Nat)) : Prop := ∀ w : World, (fs.mapM fun f => (do pure (f.offset, ← sizeOf f.type) : Sem (Nat × Nat))).run P w = .ok ps.toArray w
theorem bld_run {fs : Array Field} {ps : List (Nat × Nat)} {zs l : List Value} {qs : List (Nat × Value)} (ht : P.underlying t = some (.struct fs)) (hp : Plc P fs ps) (hz : Zer P t zs) (h : Instr.fill (fun i => ps.toArray[i]?) zs.toArray qs = some l.toArray) :
    (Instr.build t qs.toArray).run P w = .ok (.agg l.toArray) w := by
  obtain ⟨z, hc, hr⟩ := hz.run w
  have hp' := hp w
  simp only [Instr.build, Sem.run_bind, hr, Result.andThen_ok, run_underlying ht, hc]
  rw [hp']
  simp only [Result.andThen_ok, h]
  rfl
theorem set_all : ∀ (l : List Value) (k : Nat) (init : Array Value), k + l.length ≤ init.size → (l.zipIdx k).foldl (fun cs x => cs.setIfInBounds x.2 x.1) init = (init.toList.take k ++ l ++ init.toList.drop (k + l.length)).toArray
  | [], k, init, _ => by simp
  | a :: l, k, init, h => by
    simp only [List.length_cons] at h
    have hlt : k < init.toList.length := by simp; omega
    simp only [List.zipIdx_cons, List.foldl_cons]
    rw [set_all l (k + 1) _ (by simp; omega)]
    apply Array.ext'
    simp only [Array.toList_setIfInBounds]
    rw [List.set_eq_take_append_cons_drop, if_pos hlt]
    simp only [List.take_append, List.length_take, List.drop_append]
    rw [Nat.min_eq_left (by omega)]
    simp only [List.length_cons, List.append_assoc]
    rw [List.take_of_length_le (show (init.toList.take k).length ≤ k + 1 by simp; omega), List.drop_of_length_le (show (init.toList.take k).length ≤ k + 1 + l.length by simp; omega), show k + 1 + l.length - k = l.length + 1 by omega, List.drop_succ_cons, List.drop_drop]
    rw [show k + 1 + l.length = k + (l.length + 1) by omega]
    simp
/-- a new slice of one struct -/
theorem L.bslice1 {zs l : List Value} {sz : Nat} (hg : wn ops f g = true) (hx : ev f x = .agg l.toArray) (hsl : sz = l.length) (ht : P.underlying t = some (.slice e)) (hs : Siz P e sz) (hz : Zer P e zs) (hsz : Nat.ble sz 1000 = true)
    (h : ∀ b w', b = w.heap.size → w'.heap.size = w.heap.size + 1 → Blk w' b e l.toArray → Ext w w' → L P n ops Q rest (putO f d (.slice (some ⟨b, 0, none⟩) 1 1)) w') : L P n ops Q (⟨d, .buildSlice t 1 #[(0, x)], ty, pos, aft, g⟩ :: rest) f w := by
  refine L.val hg ?_ (h w.heap.size (w.alloc (.cells l.toArray e)) rfl (by simp) (Blk.new _ _ _) (Ext.alloc _ _))
  obtain ⟨z, hzc, hzr⟩ := hz.run w
  have hle : sz ≤ 1000 := Nat.le_of_ble_eq_true hsz
  subst hsl
  have key : ∀ z : Array Value, Instr.fill (fun i => some (i * l.length, l.length)) ((Array.range (1 * l.length)).map (z[· % z.size]!)) [(0, Value.agg l.toArray)] = some l.toArray := by
    intro z
    simp only [Instr.fill]
    rw [if_neg (by simp [Value.cells])]
    have h1 := set_all l 0 ((Array.range (1 * l.length)).map (z[· % z.size]!)) (by simp)
    congr 1
    have h2 : (Value.agg l.toArray).cells.zipIdx.toList = l.zipIdx 0 := by simp [Value.cells]
    rw [← Array.foldl_toList, h2]
    simp only [Nat.zero_mul, Nat.zero_add]
    refine Eq.trans ?_ (h1.trans ?_)
    · rfl
    · simp
  simp only [execOp, Instr.buildSlice, Sem.run_bind, run_underlying ht, Result.andThen_ok, hs.run, List.map_toArray, List.map_cons, List.map_nil, hx]
  rw [if_neg (by omega)]
  by_cases h0 : 1 * l.length = 0
  · simp only [if_pos h0, Sem.run_pure, Result.andThen_ok, key, newRow, newObj]
    rfl
  · simp only [if_neg h0, Sem.run_bind, hzr, Sem.run_pure, Result.andThen_ok, key, newRow, newObj]
    rfl
end
end Go.Proofs.Ytlipeplfjkgamaa.H
/-
  The logic's fifth part: regions all of whose values are settled; calls that change nothing, taken ahead of others.
-/
namespace Go.Proofs.Ytlipeplfjkgamaa.H
open Go.RowKit Go.Proofs.Ytlipeplfjkgamaa
set_option linter.unusedSimpArgs false
set_option linter.unusedVariables false
section
variable {P : Program} {n : Nat} {ops rest l : List Oper} {f : Fr} {w w' : World} {d : Option Tmp} {ty : TypeId} {pos : String} {aft : Array Edge} {g : Option (Nat × Bool)} {x y z o : Operand} {v u p : Value} {t e tx tz : TypeId}
/-- a region that draws its order, all of whose operations yield one value in every world of a class -/
def Qt (P : Program) (n : Nat) (ops : List Oper) (C : World → Prop) (Q : Fr → Prop) (l : List Oper) (f : Fr) : Prop :=
  l.all (fitO n) = true → ∀ a, Rep n f a → wpQuiet P ops.toArray C (fun a' => ∃ f', Rep n f' a' ∧ Q f') l a
variable {C : World → Prop} {Q : Fr → Prop}
theorem J.quiet {id : Nat} {Q : Exit → Fr → World → Prop} (hm : P.follows .mixedOrders = true) (hB : Region.lexB .any l.toArray = true) (h : Qt P n l (Ext w) (fun f' => ∀ w', Ext w w' → Q .normal f' w') l f) : J P n (.region id l.toArray true) Q f w := by
  intro hf a hr
  simp only [fitC] at hf
  refine wp_region_quiet (C := Ext w) hm hB (Ext.drew w) ?_
  have := h hf a hr
  refine wpQuiet_mono ?_ this
  rintro a' ⟨f', hr', hq⟩ w' hw'
  exact ⟨f', hr', hq w' hw'⟩
theorem Qt.nil (h : Q f) : Qt P n ops C Q [] f := fun _ _ hr => ⟨f, hr, h⟩
theorem Qt.va {k : Nat} {op : Op} (hg : wn ops f g = true) (hx : ∀ w', C w' → (execOp (ev f) ⟨some k, op, ty, pos, aft, g⟩).run P w' = .ok (.value v) w') (h : Qt P n ops C Q rest (lk [(k, v)] f)) : Qt P n ops C Q (⟨some k, op, ty, pos, aft, g⟩ :: rest) f := by
  intro hf a hr
  simp only [List.all_cons, Bool.and_eq_true] at hf
  unfold wpQuiet
  rw [wanted_eq hr, if_pos hg]
  refine ⟨v, fun w' hw' => ?_, h hf.2 _ (hr.put (d := some k) v hf.1)⟩
  unfold Oper.quietAt
  rw [hr.eval, hx w' hw']
  exact ⟨rfl, rfl⟩
theorem Qt.no {k : Nat} {op : Op} (hg : wn ops f g = false) (h : Qt P n ops C Q rest (lk [(k, undef)] f)) : Qt P n ops C Q (⟨some k, op, ty, pos, aft, g⟩ :: rest) f := by
  intro hf a hr
  simp only [List.all_cons, Bool.and_eq_true] at hf
  unfold wpQuiet
  rw [wanted_eq hr, if_neg (by rw [hg]; simp)]
  exact h hf.2 _ (hr.put (d := some k) undef hf.1)
theorem Qt.call {k : Nat} {c : FuncId} {l : List Operand} {vs : List Value} {ts : Array TypeId} (hg : wn ops f g = true) (he : Ent P c) (hv : l.map (ev f) = vs) (hc : ∀ w', C w' → Calls P c vs.toArray w' fun e w'' => e = .returned v ∧ C w'') (h : Qt P n ops C Q rest (lk [(k, v)] f)) :
    Qt P n ops C Q (⟨some k, .call { callee := .value (.func c), args := l.toArray, argTypes := ts }, ty, pos, aft, g⟩ :: rest) f := by
  intro hf a hr
  simp only [List.all_cons, Bool.and_eq_true] at hf
  unfold wpQuiet
  rw [wanted_eq hr, if_pos hg]
  refine ⟨v, fun w' hw' => ?_, h hf.2 _ (hr.put (d := some k) v hf.1)⟩
  unfold Oper.quietAt
  rw [hr.eval, X.enter he rfl hv]
  exact ⟨rfl, hc w' hw'⟩
theorem Qt.caseB {k : Nat} {b : Bool} (hk : f k = .bool b) (h1 : b = true → Qt P n ops C Q rest (lk [(k, .bool true)] f)) (h2 : b = false → Qt P n ops C Q rest (lk [(k, .bool false)] f)) : Qt P n ops C Q rest f := caseB_ (C := fun f => Qt P n ops C Q rest f) hk h1 h2
theorem Qt.caseDec {k : Nat} {p : Prop} [Decidable p] (hk : f k = .bool (decide p)) (h1 : p → Qt P n ops C Q rest (lk [(k, .bool true)] f)) (h2 : ¬ p → Qt P n ops C Q rest (lk [(k, .bool false)] f)) : Qt P n ops C Q rest f := caseDec_ (C := fun f => Qt P n ops C Q rest f) hk h1 h2
theorem Qt.caseNdec {k : Nat} {p : Prop} [Decidable p] (hk : f k = .bool (!decide p)) (h1 : ¬ p → Qt P n ops C Q rest (lk [(k, .bool true)] f)) (h2 : p → Qt P n ops C Q rest (lk [(k, .bool false)] f)) : Qt P n ops C Q rest f := caseNdec_ (C := fun f => Qt P n ops C Q rest f) hk h1 h2
theorem Qt.caseDecT {k : Nat} {p : Prop} [Decidable p] (hk : f k = .bool (decide p)) (hp : p) (h1 : Qt P n ops C Q rest (lk [(k, .bool true)] f)) : Qt P n ops C Q rest f := Qt.caseDec hk (fun _ => h1) (fun h => absurd hp h)
theorem Qt.caseDecF {k : Nat} {p : Prop} [Decidable p] (hk : f k = .bool (decide p)) (hp : ¬ p) (h1 : Qt P n ops C Q rest (lk [(k, .bool false)] f)) : Qt P n ops C Q rest f := Qt.caseDec hk (fun h => absurd h hp) (fun _ => h1)
theorem Qt.caseNdecT {k : Nat} {p : Prop} [Decidable p] (hk : f k = .bool (!decide p)) (hp : ¬ p) (h1 : Qt P n ops C Q rest (lk [(k, .bool true)] f)) : Qt P n ops C Q rest f := Qt.caseNdec hk (fun _ => h1) (fun h => absurd h hp)
theorem Qt.caseNdecF {k : Nat} {p : Prop} [Decidable p] (hk : f k = .bool (!decide p)) (hp : p) (h1 : Qt P n ops C Q rest (lk [(k, .bool false)] f)) : Qt P n ops C Q rest f := Qt.caseNdec hk (fun h => absurd hp h) (fun _ => h1)
theorem Qt.caseBT {k : Nat} {b : Bool} (hk : f k = .bool b) (hp : b = true) (h1 : Qt P n ops C Q rest (lk [(k, .bool true)] f)) : Qt P n ops C Q rest f := Qt.caseB hk (fun _ => h1) (fun h => by rw [hp] at h; cases h)
theorem Qt.caseBF {k : Nat} {b : Bool} (hk : f k = .bool b) (hp : b = false) (h1 : Qt P n ops C Q rest (lk [(k, .bool false)] f)) : Qt P n ops C Q rest f := Qt.caseB hk (fun h => by rw [hp] at h; cases h) (fun _ => h1)
/-- a contract, seen from an elder world -/
theorem calls_ext {c : FuncId} {vs : Array Value} {w0 : World} (hw : Ext w0 w) (h : Calls P c vs w fun e w' => e = .returned v ∧ Ext w w') : Calls P c vs w fun e w' => e = .returned v ∧ Ext w0 w' :=
  h.mono fun _ _ ⟨he, hx⟩ => ⟨he, hw.trans hx⟩
theorem calls_same {c : FuncId} {vs : Array Value} {w0 : World} (hw : Ext w0 w) (h : Calls P c vs w fun e w' => e = .returned v ∧ w = w') : Calls P c vs w fun e w' => e = .returned v ∧ Ext w0 w' :=
  h.mono fun _ _ ⟨he, hx⟩ => ⟨he, hx ▸ hw⟩

/-! ### an operation, or a call, that changes nothing may be taken ahead of others -/
def Acts (P : Program) (ops : Array Oper) (S : World → Prop) (o : Oper) (v : Value) (a : Act) : Prop :=
  (Region.wanted o (yielded ops a.tmps) = true ∧ ∀ w, S w → o.quietAt P a (fun w'' => w'' = w) w v) ∨ (Region.wanted o (yielded ops a.tmps) = false ∧ v = undef)
section
variable {ops : Array Oper} {S : World → Prop} {md : Region.Mode} {Q : Exit → Act → World → Prop}
theorem Acts.wpOp {i : Nat} {o : Oper} {v : Value} {a : Act} (hi : ops[i]? = some o) (hy : Acts P ops S o v a) {K : Act → World → Prop} {w : World} (hS : S w) (h : K (a.put o.dst v) w) : wpOp P ops Q i K a w := by
  unfold Go.wpOp
  simp only [hi]
  rcases hy with ⟨hw, hv⟩ | ⟨hw, rfl⟩
  · simp only [hw, if_true]
    refine .inl ?_
    have h3 := hv w hS
    unfold Oper.quietAt at h3
    unfold Oper.wp
    generalize (execOp a.eval o).run P w = r at *
    cases r with
    | ok n w' =>
      cases n <;> simp only [Oper.quietUpon] at h3 <;> simp only [Oper.upon]
      case value u => obtain ⟨rfl, rfl⟩ := h3; exact h
      case skip => obtain ⟨rfl, rfl⟩ := h3; exact h
      case enter f args =>
        obtain ⟨rfl, hc⟩ := h3
        exact hc.mono fun e w'' ⟨he, hw''⟩ => by subst he; subst hw''; exact h
    | halt x w' => simp only [Oper.quietUpon] at h3
  · simp only [hw, Bool.false_eq_true, if_false]; exact h
theorem Acts.of_same {o : Oper} {v : Value} {a a' : Act} (hy : Acts P ops S o v a) (he : execOp a'.eval o = execOp a.eval o) (hw : Region.wanted o (yielded ops a'.tmps) = Region.wanted o (yielded ops a.tmps)) : Acts P ops S o v a' := by
  unfold Acts Oper.quietAt at *
  rw [he, hw]
  exact hy
theorem acts_past {j : Nat} {oi oj : Oper} {v : Value} (hj : ops[j]? = some oj) (hap : oi.apart ops oj = true) (hsi : ∀ cs b, oi.op ≠ .select cs b) (hsj : ∀ cs b, oj.op ≠ .select cs b)
    (hQ : ∀ c a w, Q (.panic c) (a.put oi.dst v) w → Q (.panic c) a w) {K : Act → World → Prop} {a : Act} {w : World}
    (hy : Acts P ops S oi v a) (h : wpOp P ops Q j K (a.put oi.dst v) w) : wpOp P ops Q j (fun a' w' => Acts P ops S oi v a' ∧ K (a'.put oi.dst v) w') a w := by
  obtain ⟨h1, h2, h3⟩ := Oper.apart_spec hap
  have keep : ∀ (a : Act), Acts P ops S oi v a → ∀ u, Acts P ops S oi v (a.put oj.dst u) := fun a hy u => hy.of_same (execOp_put oi hsi a oj.dst u h3) (wanted_put oi a oj.dst u h3)
  have keepD : ∀ d, Acts P ops S oi v { a with defers := d :: a.defers } := fun d => hy.of_same rfl rfl
  unfold wpOp at *
  simp only [hj] at *
  rw [wanted_put oj a oi.dst v h1] at h
  split
  · rename_i hw
    simp only [hw, if_true] at h
    rcases h with h | ⟨hasks, hlets⟩
    case inr => exact .inr ⟨by unfold Oper.asks at *; rw [execOp_put oj hsj a oi.dst v h1] at hasks; exact hasks, hlets⟩
    refine .inl ?_
    unfold Oper.wp at *
    rw [execOp_put oj hsj a oi.dst v h1] at h
    generalize (execOp a.eval oj).run P w = r at *
    cases r with
    | ok n w' =>
      cases n <;> simp only [Oper.upon] at h ⊢
      case value u => exact ⟨keep a hy u, by rw [← Act.put_comm a v u h2]; exact h⟩
      case skip => exact ⟨keep a hy _, by rw [← Act.put_comm a v undef h2]; exact h⟩
      case defer d =>
        refine ⟨keep _ (keepD d) _, ?_⟩
        rw [← Act.put_comm _ v undef h2, ← Act.put_defers]
        exact h
      case enter f args =>
        refine Calls.mono h fun e w'' he => ?_
        cases e with
        | returned u => exact ⟨keep a hy u, by rw [← Act.put_comm a v u h2]; exact he⟩
        | panicked c => exact hQ _ _ _ he
        | outgrown => exact he
      case row row args => exact Rows.mono h fun u w'' he => ⟨keep a hy u, by rw [← Act.put_comm a v u h2]; exact he⟩
    | halt x w' =>
      cases x <;> simp only [Oper.upon] at h ⊢
      case panic u => exact hQ _ _ _ h
  · rename_i hw
    simp only [hw] at h
    exact ⟨keep a hy _, by rw [← Act.put_comm a v undef h2]; exact h⟩
theorem acts_first {i ℓ : Nat} {oi : Oper} {v : Value} {fuel : Nat} {listed : Array Bool} {a : Act} {w : World} (hi : ops[i]? = some oi)
    (hs : Region.noSelect ops = true) (hf : Region.free .any ops listed i = true) (hr : (Region.ready .any ops listed).contains i = true) (hl : late ops listed i ℓ = true)
    (hQ : ∀ c a w, Q (.panic c) (a.put oi.dst v) w → Q (.panic c) a w) (hy : Acts P ops S oi v a) (hS : S w)
    (h : wpAnyL P ops Q S ℓ fuel (listed.setIfInBounds i true) (a.put oi.dst v) w) : wpAnyL P ops Q S ℓ (fuel + 1) listed a w := by
  obtain ⟨W, h1, h2, h3⟩ := late_spec hl
  have hsel := Region.noSelect_spec hs
  exact wpAnyL_gen hi (fun hy hS h => hy.wpOp hi hS h) (fun {j oj K a w} hj hap hy h => acts_past hj hap (fun cs b => hsel i oi cs b hi) (fun cs b => hsel j oj cs b hj) hQ hy h) W h1 h2 fuel listed a w (Region.free_spec hi hf) h3 (by simpa using hr) hy hS h
end
/-- a call that changes nothing, ahead of all others -/
theorem D.call {Q : Exit → Fr → World → Prop} {S : World → Prop} {ℓ : Nat} {fuel : Nat} {listed : Array Bool} (i : Nat) {k : Nat} {c : FuncId} {l : List Operand} {vs : List Value} {ts : Array TypeId} (ho : ops[i]? = some ⟨some k, .call { callee := .value (.func c), args := l.toArray, argTypes := ts }, ty, pos, aft, g⟩)
    (hb : (Region.noSelect ops.toArray && Region.free .any ops.toArray listed i && (Region.ready .any ops.toArray listed).contains i && late ops.toArray listed i ℓ) = true) (hQ : ∀ c f w, Q (.panic c) f w → False)
    (hg : wn ops f g = true) (he : Ent P c) (hv : l.map (ev f) = vs) (hc : ∀ w', S w' → Calls P c vs.toArray w' fun e w'' => e = .returned v ∧ w' = w'') (hS : S w) (h : D P n ops S ℓ Q fuel (listed.setIfInBounds i true) (lk [(k, v)] f) w) : D P n ops S ℓ Q (fuel + 1) listed f w := by
  intro hf a hr
  simp only [Bool.and_eq_true] at hb
  refine acts_first (i := i) (v := v) (by simpa using ho) hb.1.1.1 hb.1.1.2 hb.1.2 hb.2 ?_ (.inl ⟨by rw [wanted_eq hr]; exact hg, fun w' hw' => ?_⟩) hS ?_
  · rintro c a w ⟨f', _, hq⟩
    exact absurd hq (hQ c f' w)
  · unfold Oper.quietAt
    rw [hr.eval, X.enter he rfl hv]
    exact ⟨rfl, (hc w' hw').mono fun _ _ ⟨h1, h2⟩ => ⟨h1, h2.symm⟩⟩
  · exact h hf _ (hr.put v (List.all_eq_true.1 hf _ (List.mem_of_getElem? ho)))
/-! ### results that lie in memory -/
theorem run_cell {b : Nat} {tb : TypeId} {l : List Value} {ds : TypeDesc} (hb : Blk w b tb l.toArray) (hu : P.underlying t = some ds) (hd : ds.isRow = true) (hi : (P.info? t).map (·.size) = some l.length) : (loadVar t ⟨b, 0, none⟩).run P w = .ok (.agg l.toArray) w :=
  run_loadVar_mid w b 0 t l ds (by have := range_blk hb; simpa using this) hu hd hi
theorem run_cell1 {b : Nat} {tb : TypeId} (hb : Blk w b tb #[v]) (hs : Scal P t) : (loadVar t ⟨b, 0, none⟩).run P w = .ok v w := by
  have hc : w.cell? ⟨b, 0, none⟩ = some v := by rw [hb.cell]; rfl
  simp [loadVar, hs w, go_sem, hc]
theorem finC {R : Ending → World → Prop} {a b : Nat} {u : Value} (hp : f a = .pointer (some ⟨b, 0, none⟩)) (hl : (loadVar t ⟨b, 0, none⟩).run P w = .ok u w) (h : R (.returned u) w) : fin P #[.cell a t] R .ret f w :=
  ⟨u, by simp [resF, hp, asAddr, hl], h⟩
theorem finCTT {R : Ending → World → Prop} {a b k m : Nat} {u : Value} (hp : f a = .pointer (some ⟨b, 0, none⟩)) (hl : (loadVar t ⟨b, 0, none⟩).run P w = .ok u w) (h : R (.returned (.tuple #[u, f k, f m])) w) : fin P #[.cell a t, .tmp k, .tmp m] R .ret f w :=
  ⟨.tuple #[u, f k, f m], by simp [resF, hp, asAddr, hl], h⟩
theorem finCT {R : Ending → World → Prop} {a b k : Nat} {u : Value} (hp : f a = .pointer (some ⟨b, 0, none⟩)) (hl : (loadVar t ⟨b, 0, none⟩).run P w = .ok u w) (h : R (.returned (.tuple #[u, f k])) w) : fin P #[.cell a t, .tmp k] R .ret f w :=
  ⟨.tuple #[u, f k], by simp [resF, hp, asAddr, hl], h⟩
/-! ### rows of the call's own -/
theorem own_cut {base size k c : Nat} {n' : Nat} {A : Option Addr} {xs : List Value} (h : w.ownsRow base e size (.slice A n' c) n' xs) (hk : k ≤ n') : w.ownsRow base e size (.slice A k c) k (xs.take (k * size)) := by
  refine ⟨by rw [List.length_take, h.1]; exact Nat.min_eq_left (Nat.mul_le_mul_right _ hk), ?_⟩
  rcases h.2 with ⟨h1, rfl⟩ | ⟨b, cap, cur, h1, hb, hh, h2, h3, h4, rfl⟩
  · injection h1 with h1 _ h3
    subst h1 h3
    have : k = 0 := by omega
    subst this
    exact .inl ⟨rfl, rfl⟩
  · injection h1 with h1 _ h5
    subst h1 h5
    refine .inr ⟨b, c, cur, rfl, hb, hh, by omega, h3, h4, ?_⟩
    rw [List.take_take, Nat.min_eq_left (Nat.mul_le_mul_right _ hk)]
theorem own_cutN {base k c : Nat} {n' : Nat} {A : Option Addr} {kd : IntKind} {zs : List Int} (h : w.ownsRow base e 1 (.slice A n' c) n' (nums kd zs)) (hk : k ≤ n') : w.ownsRow base e 1 (.slice A k c) k (nums kd (zs.take k)) := by
  have := own_cut h hk
  simpa [nums] using this
theorem wrap8 (m : Int) : 0 ≤ IntKind.u8.wrap m ∧ IntKind.u8.wrap m < 256 := by simp [IntKind.wrap, IntKind.bits, IntKind.signed]; omega
theorem ext_below (h : Ext w w') : Below w.heap.size w w' := h
theorem _root_.Go.Below.ext_ {a b c : World} {B : Nat} (h : Below B a b) (k : Ext b c) (hB : B ≤ b.heap.size) : Below B a c := h.trans (Below.mono k hB)
theorem range_l {b : Nat} {l : List Value} (h : Blk w b t l.toArray) : w.rangeAt b 0 l := by have := range_blk h; simpa using this
theorem L.boxA {n : Nat} {Q : Exit → Fr → World → Prop} {l : List Value} (hg : wn ops f g = true) (hx : ev f x = .agg l.toArray) (h : ∀ b w', b = w.heap.size → w'.heap.size = w.heap.size + 1 → Blk w' b t l.toArray → Ext w w' → L P n ops Q rest (putO f d (.pointer (some ⟨b, 0, none⟩))) w') :
    L P n ops Q (⟨d, .box t x, ty, pos, aft, g⟩ :: rest) f w := L.box hg hx h
theorem _root_.Go.Proofs.Ytlipeplfjkgamaa.Blk.low {b B : Nat} {cs : Array Value} (h : Blk w b t cs) (hb : Below B w w') (hg : b < B) : Blk w' b t cs := h.below hb hg
end
end Go.Proofs.Ytlipeplfjkgamaa.H
/-
  The logic's sixth part: stores into rows of the call's own; arrays.
-/
namespace Go.Proofs.Ytlipeplfjkgamaa.H
open Go.RowKit Go.Proofs.Ytlipeplfjkgamaa
set_option linter.unusedSimpArgs false
set_option linter.unusedVariables false
section
variable {P : Program} {n : Nat} {ops rest : List Oper} {Q : Exit → Fr → World → Prop} {f : Fr} {w w' : World} {d : Option Tmp} {ty : TypeId} {pos : String} {aft : Array Edge} {g : Option (Nat × Bool)} {x y z o : Operand} {v u p : Value} {t e tx tz : TypeId}
theorem X.indexArr1n {ρ : Operand → Value} {b o q j : Nat} {k : IntKind} (hx : ρ x = .pointer (some ⟨b, o, none⟩)) (hy : ρ y = .int k (j : Int)) (ht : P.underlying t = some (.array q e)) (hs : Siz P e 1) (hj : j < q) : (execOp ρ ⟨d, .indexAddr t x y, ty, pos, aft, g⟩).run P w = .ok (.value (pA (some ⟨b, o, none⟩) j)) w := by
  have := X.indexArrn (P := P) (w := w) (d := d) (ty := ty) (pos := pos) (aft := aft) (g := g) hx hy ht hs hj
  rwa [Nat.mul_one] at this
/-- a store of one cell into a row of the call's own -/
theorem L.storeO {A : Option Addr} {n' c j base size : Nat} {xs : List Value} (hg : wn ops f g = true) (hx : ev f x = pA A j) (hy : ev f y = v) (h1 : v.oneCell' = true) (hz : Siz P t 1) (hown : w.ownsRow base e size (.slice A n' c) n' xs) (hj : j < n' * size)
    (h : ∀ w', w'.ownsRow base e size (.slice A n' c) n' (xs.set j v) → w.grownBy w' (Value.ownBlock (.slice A n' c)) → Below base w w' → w'.heap.size = w.heap.size → L P n ops Q rest (putO f d undef) w') : L P n ops Q (⟨d, .store t x y, ty, pos, aft, g⟩ :: rest) f w := by
  have hn : 0 < n' := Nat.pos_of_ne_zero (fun h0 => by subst h0; simp at hj)
  obtain ⟨b, cap, hA, hb, hlt⟩ := hown.form hn
  injection hA with hA _ hc
  subst hA hc
  obtain ⟨s1, s2⟩ := hown.stored j v
  have hcell : (w.cell? ⟨b, j, none⟩).isSome = true := by
    rw [hown.cellAt j hj, List.getElem?_eq_getElem (by rw [hown.1]; exact hj)]; rfl
  refine L.skip hg ?_ (h (w.setCell ⟨b, j, none⟩ v) s1 s2 ((Below.refl _ _).setCell hb _) (by simp [World.setCell]))
  have hcs : v.cells = #[v] := by cases v <;> first | rfl | cases h1
  have hth : w.there b j #[v].size := fun i hi => by
    have : i = 0 := by simpa using hi
    subst this
    exact ⟨hcell, hown.frozenAt j⟩
  obtain ⟨inf, hinf, hsz⟩ := hz
  have hrun := run_storeVar_mid (P := P) w b j t #[v] hth (by rw [hinf]; simp [hsz]) (by simp [h1])
  have e1 : (storeVar t ⟨b, j, none⟩ v).run P w = (storeVar t ⟨b, j, none⟩ (.agg #[v])).run P w := by
    unfold storeVar
    rw [hcs, show (Value.agg #[v]).cells = #[v] from rfl]
  have hx' : ev f x = .pointer (some ⟨b, j, none⟩) := by rw [hx]; simp [pA, Addr.add_mid]
  simp only [execOp, Instr.storeAt, hx', hy, Instr.sureAddr, Sem.run_bind, Sem.run_pure, Result.andThen_ok]
  rw [e1, hrun]
  rfl
theorem at_bool {k : Nat} {a b : Bool} (h : f k = .bool a) (e : a = b) : f k = .bool b := by rw [h, e]
theorem nums_set' (k : IntKind) (zs : List Int) (i : Nat) (z : Int) : (nums k zs).set i (.int k z) = nums k (zs.set i z) := by
  unfold nums
  rw [List.map_set]
/-- the same of a number -/
theorem L.storeON {A : Option Addr} {n' c j base : Nat} {k : IntKind} {zs : List Int} {m : Int} (hg : wn ops f g = true) (hx : ev f x = pA A j) (hy : ev f y = .int k m) (hz : Siz P t 1) (hown : w.ownsRow base e 1 (.slice A n' c) n' (nums k zs)) (hj : j < n')
    (h : ∀ w', w'.ownsRow base e 1 (.slice A n' c) n' (nums k (zs.set j m)) → w.grownBy w' (Value.ownBlock (.slice A n' c)) → Below base w w' → w'.heap.size = w.heap.size → L P n ops Q rest (putO f d undef) w') : L P n ops Q (⟨d, .store t x y, ty, pos, aft, g⟩ :: rest) f w := by
  refine L.storeO hg hx hy rfl hz hown (by omega) ?_
  rw [nums_set']
  exact h
end
end Go.Proofs.Ytlipeplfjkgamaa.H
/-
  The logic's seventh part: new slices of several structs.
-/
namespace Go.Proofs.Ytlipeplfjkgamaa.H
open Go.RowKit Go.Proofs.Ytlipeplfjkgamaa
set_option linter.unusedSimpArgs false
set_option linter.unusedVariables false
section
variable {P : Program} {n : Nat} {ops rest l : List Oper} {Q : Exit → Fr → World → Prop} {f : Fr} {w w' : World} {d : Option Tmp} {ty : TypeId} {pos : String} {aft : Array Edge} {g : Option (Nat × Bool)} {x y z o : Operand} {v u p : Value} {t e tx tz : TypeId}
theorem zip_off (off : Nat) : ∀ (l : List Value) (a : Nat) (init : Array Value), (l.zipIdx a).foldl (fun cs x => cs.setIfInBounds (off + x.2) x.1) init = (l.zipIdx (off + a)).foldl (fun cs x => cs.setIfInBounds x.2 x.1) init
  | [], _, _ => rfl
  | x :: l, a, init => by
    simp only [List.zipIdx_cons, List.foldl_cons]
    rw [zip_off off l (a + 1)]
    rfl
theorem fill_rows (sz : Nat) : ∀ (ls : List (List Value)) (k : Nat) (init : Array Value), (∀ l ∈ ls, l.length = sz) → init.size = (k + ls.length) * sz →
    Instr.fill (fun i => some (i * sz, sz)) init ((List.range' k ls.length).zip (ls.map fun l => Value.agg l.toArray)) = some (init.toList.take (k * sz) ++ ls.flatten).toArray
  | [], k, init, _, hs => by
    simp only [List.length_nil, Nat.add_zero] at hs
    simp only [List.length_nil, List.range'_zero, List.map_nil, List.zip_nil_left, Instr.fill, List.flatten_nil, List.append_nil]
    rw [List.take_of_length_le (by simp [hs])]
  | l :: ls, k, init, hl, hs => by
    have h0 : l.length = sz := hl l (by simp)
    have h2 : (k + 1) * sz = k * sz + sz := Nat.succ_mul k sz
    have h1 : k * sz + sz ≤ init.size := by
      rw [hs, ← h2]
      exact Nat.mul_le_mul_right _ (by simp only [List.length_cons]; omega)
    have e1 : (Value.agg l.toArray).cells = l.toArray := rfl
    have e2 : (l.toArray.zipIdx.foldl (fun cs x => cs.setIfInBounds (k * sz + x.2) x.1) init) = (init.toList.take (k * sz) ++ l ++ init.toList.drop (k * sz + sz)).toArray := by
      rw [← Array.foldl_toList]
      have e3 : l.toArray.zipIdx.toList = l.zipIdx 0 := by simp
      rw [e3, zip_off, Nat.add_zero, set_all l (k * sz) init (by omega), h0]
    have hlen : (init.toList.take (k * sz) ++ l).length = k * sz + sz := by rw [List.length_append, List.length_take, h0, Array.length_toList]; omega
    simp only [List.length_cons, List.range'_succ, List.map_cons, List.zip_cons_cons, Instr.fill, e1, List.size_toArray, h0]
    rw [if_neg (by simp; omega), e2, fill_rows sz ls (k + 1) _ (fun x hx => hl x (by simp [hx])) (by
      simp only [List.size_toArray, List.length_append, List.length_take, List.length_drop, h0, Array.length_toList]
      rw [hs]
      have e4 : (k + 1 + ls.length) * sz = (k + (l :: ls).length) * sz := by simp only [List.length_cons]; congr 1; omega
      rw [e4, ← hs]
      omega)]
    rw [h2, List.take_append_of_le_length (Nat.le_of_eq hlen.symm), List.take_of_length_le (Nat.le_of_eq hlen)]
    simp
theorem L.bsliceR {ps : List (Nat × Operand)} {ls : List (List Value)} {zs : List Value} {q sz : Nat} {qs : List (Nat × Value)} (hg : wn ops f g = true) (hv0 : Evs f ps qs) (hv1 : qs.map (·.2) = ls.map fun l => Value.agg l.toArray) (hi : ps.map (·.1) = List.range' 0 q) (hq : ls.length = q) (h1 : ls.all (fun l => Nat.beq l.length sz) = true) (ht : P.underlying t = some (.slice e)) (hs : Siz P e sz) (hzr : Zer P e zs) (hq2 : q * sz ≤ 16777216)
    (h : ∀ b w', b = w.heap.size → w'.heap.size = w.heap.size + 1 → Blk w' b e ls.flatten.toArray → Ext w w' → L P n ops Q rest (putO f d (.slice (some ⟨b, 0, none⟩) q q)) w') : L P n ops Q (⟨d, .buildSlice t q ps.toArray, ty, pos, aft, g⟩ :: rest) f w := by
  refine L.val hg ?_ (h w.heap.size (w.alloc (.cells ls.flatten.toArray e)) rfl (by simp) (Blk.new _ _ _) (Ext.alloc _ _))
  obtain ⟨z, hzc, hzr⟩ := hzr.run w
  have hv : ps.map (fun p => ev f p.2) = ls.map fun l => Value.agg l.toArray := by rw [← hv1, ← hv0.map]; simp
  have hps : ps.map (fun p => (p.1, ev f p.2)) = (List.range' 0 ls.length).zip (ls.map fun l => Value.agg l.toArray) := by
    rw [hq, ← hi, ← hv, List.zip_map', ]
  have hall : ∀ l ∈ ls, l.length = sz := fun l hl => Nat.eq_of_beq_eq_true (List.all_eq_true.1 h1 l hl)
  have key : ∀ z : Array Value, Instr.fill (fun i => some (i * sz, sz)) ((Array.range (q * sz)).map (z[· % z.size]!)) (ps.map (fun p => (p.1, ev f p.2))) = some ls.flatten.toArray := by
    intro z
    rw [hps, fill_rows sz ls 0 _ hall (by simp [hq])]
    simp
  simp only [execOp, Instr.buildSlice, Sem.run_bind, run_underlying ht, Result.andThen_ok, hs.run, List.map_toArray]
  rw [if_neg (by omega)]
  by_cases h0 : q * sz = 0
  · simp only [if_pos h0, Sem.run_pure, Result.andThen_ok, key, newRow, newObj]
    rfl
  · simp only [if_neg h0, Sem.run_bind, hzr, Sem.run_pure, Result.andThen_ok, key, newRow, newObj]
    rfl
/-! ### pointers and nil; two bools; the greater of two -/
theorem X.eqlPn {q : Option Addr} (hx : ev f x = .pointer q) (hy : ev f y = .pointer none) (ht : P.underlying tx = some (.pointer (P.pointee tx))) : (execOp (ev f) ⟨d, .binOp .eql tx x y tz, ty, pos, aft, g⟩).run P w = .ok (.value (.bool q.isNone)) w :=
  X.bin hx hy (by simp [go_sem]) (by simp [binOp, run_equal_pointer_nil w tx q ht])
theorem X.neqPn {q : Option Addr} (hx : ev f x = .pointer q) (hy : ev f y = .pointer none) (ht : P.underlying tx = some (.pointer (P.pointee tx))) : (execOp (ev f) ⟨d, .binOp .neq tx x y tz, ty, pos, aft, g⟩).run P w = .ok (.value (.bool (!q.isNone))) w :=
  X.bin hx hy (by simp [go_sem]) (by simp [binOp, run_equal_pointer_nil w tx q ht])
theorem X.neqB {a b : Bool} (hx : ev f x = .bool a) (hy : ev f y = .bool b) (ht : P.underlying tx = some .bool) : (execOp (ev f) ⟨d, .binOp .neq tx x y tz, ty, pos, aft, g⟩).run P w = .ok (.value (.bool (!(a == b)))) w :=
  X.bin hx hy (by simp [go_sem]) (by simp [binOp, run_equal_bool w tx a b ht])
theorem X.max2 {k : IntKind} {m n' : Int} (hx : ev f x = .int k m) (hy : ev f y = .int k n') :
    (execOp (ev f) ⟨d, .call { callee := .builtin .max, args := #[x, y], argTypes := #[t, t] }, ty, pos, aft, g⟩).run P w = .ok (.value (.int k (max m n'))) w := by
  have h : (max m n' : Int) = if m < n' then n' else m := by rw [Int.max_def]; split <;> split <;> omega
  rw [h]
  simp [hx, hy, go_sem, Builtin.max_, Builtin.max2]
end
end Go.Proofs.Ytlipeplfjkgamaa.H
/-
  The logic's eighth part: calls of a function value, of an interface's method; interface values made and asserted.
-/
namespace Go.Proofs.Ytlipeplfjkgamaa.H
open Go.RowKit Go.Proofs.Ytlipeplfjkgamaa
set_option linter.unusedSimpArgs false
set_option linter.unusedVariables false
section
variable {P : Program} {n : Nat} {ops rest l : List Oper} {Q : Exit → Fr → World → Prop} {f : Fr} {w w' : World} {d : Option Tmp} {ty : TypeId} {pos : String} {aft : Array Edge} {g : Option (Nat × Bool)} {x y z o : Operand} {v u p rv : Value} {t e tx tz : TypeId} {name : String}
/-- a call of a function value -/
theorem X.enterV {ρ : Operand → Value} {c : FuncId} {l : List Operand} {ts : Array TypeId} {vs : List Value} (he : Ent P c) (hfn : ρ o = .func (.func c) #[] #[]) (hv : l.map ρ = vs) : (execOp ρ ⟨d, .call { callee := .value o, args := l.toArray, argTypes := ts }, ty, pos, aft, g⟩).run P w = .ok (.enter c vs.toArray) w := by
  subst hv
  simp only [execOp, resolve, hfn, Deferred.ofValue, Sem.run_bind, Sem.run_pure, Result.andThen_ok, invoke, List.map_toArray, Array.append_empty, Array.empty_append, he.run]
theorem L.callV {c : FuncId} {l : List Operand} {vs : List Value} {ts : Array TypeId} {R : Ending → World → Prop} (hg : wn ops f g = true) (he : Ent P c) (hfn : ev f o = .func (.func c) #[] #[]) (hv : l.map (ev f) = vs) (hc : Calls P c vs.toArray w R)
    (h : ∀ e w', R e w' → ∃ v, e = .returned v ∧ L P n ops Q rest (putO f d v) w') : L P n ops Q (⟨d, .call { callee := .value o, args := l.toArray, argTypes := ts }, ty, pos, aft, g⟩ :: rest) f w :=
  L.enter hg (X.enterV he hfn hv) hc h
theorem Qt.callV {C : World → Prop} {Q : Fr → Prop} {k : Nat} {c : FuncId} {l : List Operand} {vs : List Value} {ts : Array TypeId} (hg : wn ops f g = true) (he : Ent P c) (hfn : ev f o = .func (.func c) #[] #[]) (hv : l.map (ev f) = vs) (hc : ∀ w', C w' → Calls P c vs.toArray w' fun e w'' => e = .returned v ∧ C w'') (h : Qt P n ops C Q rest (lk [(k, v)] f)) :
    Qt P n ops C Q (⟨some k, .call { callee := .value o, args := l.toArray, argTypes := ts }, ty, pos, aft, g⟩ :: rest) f := by
  intro hf a hr
  simp only [List.all_cons, Bool.and_eq_true] at hf
  unfold wpQuiet
  rw [wanted_eq hr, if_pos hg]
  refine ⟨v, fun w' hw' => ?_, h hf.2 _ (hr.put (d := some k) v hf.1)⟩
  unfold Oper.quietAt
  rw [hr.eval, X.enterV he hfn hv]
  exact ⟨rfl, hc w' hw'⟩
/-- how a method is reached -/
def Mtd (P : Program) (t : TypeId) (v rv : Value) (name : String) (c : FuncId) (w : World) : Prop := ∀ args, (callMethod (.iface t v) name args).run P w = .ok (.enter c (#[rv] ++ args)) w
theorem X.invoke {ρ : Operand → Value} {c : FuncId} {l : List Operand} {ts : Array TypeId} {vs : List Value} (hx : ρ x = .iface t v) (hm : Mtd P t v rv name c w) (hv : l.map ρ = vs) : (execOp ρ ⟨d, .call { callee := .invoke x name, args := l.toArray, argTypes := ts }, ty, pos, aft, g⟩).run P w = .ok (.enter c (rv :: vs).toArray) w := by
  subst hv
  have e : ((#[Value.iface t v] ++ (l.map ρ).toArray).extract 1 (#[Value.iface t v] ++ (l.map ρ).toArray).size) = (l.map ρ).toArray := by
    apply Array.ext'
    simp [List.take_of_length_le]
  have e2 : (#[rv] ++ (l.map ρ).toArray) = (rv :: l.map ρ).toArray := by
    apply Array.ext'
    simp
  have h0 : (#[Value.iface t v] ++ (l.map ρ).toArray)[0]? = some (Value.iface t v) := by simp
  simp only [execOp, resolve, hx, Sem.run_bind, Sem.run_pure, Result.andThen_ok, Go.invoke, List.map_toArray, h0, e]
  rw [hm, e2]
theorem L.invoke {c : FuncId} {l : List Operand} {vs : List Value} {ts : Array TypeId} {R : Ending → World → Prop} (hg : wn ops f g = true) (hx : ev f x = .iface t v) (hm : Mtd P t v rv name c w) (hv : l.map (ev f) = vs) (hc : Calls P c (rv :: vs).toArray w R)
    (h : ∀ e w', R e w' → ∃ v, e = .returned v ∧ L P n ops Q rest (putO f d v) w') : L P n ops Q (⟨d, .call { callee := .invoke x name, args := l.toArray, argTypes := ts }, ty, pos, aft, g⟩ :: rest) f w :=
  L.enter hg (X.invoke hx hm hv) hc h
/-- a type's method, as its table has it -/
def Has (P : Program) (t : TypeId) (name : String) (c : FuncId) (ptr : Bool) : Prop := ((P.info? t).bind fun i => (i.methods.find? fun m => m.name == name).map fun m => (m.path.toList, m.func)) = some ([], some (c, ptr))
theorem Has.run {c : FuncId} {b : Bool} (h : Has P t name c b) : ∃ i m, P.info? t = some i ∧ i.methods.find? (fun m => m.name == name) = some m ∧ m.path = #[] ∧ m.func = some (c, b) := by
  unfold Has at h
  cases hi : P.info? t with
  | none => rw [hi] at h; cases h
  | some i =>
    rw [hi] at h
    simp only [Option.bind_some] at h
    cases hm : i.methods.find? (fun m => m.name == name) with
    | none => rw [hm] at h; cases h
    | some m =>
      rw [hm] at h
      simp only [Option.map_some, Option.some.injEq, Prod.mk.injEq] at h
      exact ⟨i, m, rfl, hm, by apply Array.ext'; rw [h.1], h.2⟩
/-- a pointer's method with a value for its receiver -/
theorem mtd_val {a : Addr} {c : FuncId} {tp : TypeId} (h : Has P t name c false) (hu : P.underlying t = some (.pointer tp)) (hl : (loadVar tp a).run P w = .ok u w) (hE : Ent P c) : Mtd P t (.pointer (some a)) u name c w := by
  obtain ⟨i, m, h1, h2, h3, h4⟩ := h.run
  intro args
  simp only [callMethod, Sem.run_bind]
  have hp : (program : Sem Program).run P w = .ok P w := rfl
  simp only [hp, Result.andThen_ok]
  have hmt : (method (P.types.size + Made.depth) t (.pointer (some a)) name).run P w = .ok (c, u) w := by
    have hd : P.types.size + Made.depth = (P.types.size + 99) + 1 := by simp [Made.depth]
    rw [hd]
    generalize P.types.size + 99 = k
    simp only [method, Sem.run_bind, typeInfo, hp, Result.andThen_ok, h1, Sem.run_pure, h2, h3, h4, follow, receiverAt, run_underlying hu, Place.get]
    have hw : ∀ nm, (Builtin.ssaWrapNilChk_ #[t] t #[.pointer (some a), strVal "", strVal nm]).run P w = .ok (.pointer (some a)) w := fun nm => rfl
    simp [hw, asAddr, hl]
  rw [hmt]
  simp only [Result.andThen_ok]
  exact hE.run _ _
/-- a pointer's method with a pointer for its receiver -/
theorem mtd_ptr {c : FuncId} {tp : TypeId} {q : Option Addr} (h : Has P t name c true) (hu : P.underlying t = some (.pointer tp)) (hE : Ent P c) : Mtd P t (.pointer q) (.pointer q) name c w := by
  obtain ⟨i, m, h1, h2, h3, h4⟩ := h.run
  intro args
  simp only [callMethod, Sem.run_bind]
  have hp : (program : Sem Program).run P w = .ok P w := rfl
  simp only [hp, Result.andThen_ok]
  have hmt : (method (P.types.size + Made.depth) t (.pointer q) name).run P w = .ok (c, .pointer q) w := by
    have hd : P.types.size + Made.depth = (P.types.size + 99) + 1 := by simp [Made.depth]
    rw [hd]
    generalize P.types.size + 99 = k
    simp only [method, Sem.run_bind, typeInfo, hp, Result.andThen_ok, h1, Sem.run_pure, h2, h3, h4, follow, receiverAt, run_underlying hu, Place.get]
  rw [hmt]
  simp only [Result.andThen_ok]
  exact hE.run _ _
theorem X.mkI {ρ : Operand → Value} {ds : TypeDesc} (hx : ρ x = v) (hu : P.underlying t = some ds) (hd : (match ds with | .interface _ => true | _ => false) = false) : (execOp ρ ⟨d, .makeInterface t x, ty, pos, aft, g⟩).run P w = .ok (.value (.iface t v)) w := by
  simp only [execOp, hx, Instr.makeInterface, Sem.run_bind, run_underlying hu, Result.andThen_ok]
  cases ds <;> first | rfl | cases hd
theorem X.assert {ρ : Operand → Value} {ds : TypeDesc} (hx : ρ x = .iface t v) (hu : P.underlying t = some ds) (hd : (match ds with | .interface _ => true | _ => false) = false) : (execOp ρ ⟨d, .typeAssert x tx t false, ty, pos, aft, g⟩).run P w = .ok (.value v) w := by
  simp only [execOp, hx, Instr.typeAssert, Sem.run_bind, run_underlying hu, Result.andThen_ok]
  cases ds <;> first | (cases hd; done) | simp
theorem thn_exit {K : Fr → World → Prop} {k : Nat} (h : Q (.exit k) f w) : thn K Q (.exit k) f w := h
theorem inB_ne {k id : Nat} (hk : Nat.beq k id = false) (h : Q (.exit k) f w) : inB id Q (.exit k) f w := by
  show (bif Nat.beq k id then Q .normal f w else Q (.exit k) f w)
  rw [hk]
  exact h
theorem inB_eq {k : Nat} (h : Q .normal f w) : inB k Q (.exit k) f w := by
  show (bif Nat.beq k k then Q .normal f w else Q (.exit k) f w)
  rw [show Nat.beq k k = true from Nat.beq_refl k]
  exact h
/-- a field of a block, as a variable of its own -/
theorem run_field {b i : Nat} {tb : TypeId} {cs : Array Value} (hb : Blk w b tb cs) (hs : Scal P t) (hi : cs[i]? = some v) : (loadVar t ⟨b, i, none⟩).run P w = .ok v w := by
  have hc : w.cell? ⟨b, i, none⟩ = some v := by rw [hb.cell]; exact hi
  simp [loadVar, hs w, go_sem, hc]
end
end Go.Proofs.Ytlipeplfjkgamaa.H
/-
  What is changed but some blocks.
-/
namespace Go.Proofs.Ytlipeplfjkgamaa
open Go.RowKit H
set_option linter.unusedVariables false
/-- nothing is changed but some blocks, and new ones -/
structure Chg (S : Nat → Prop) (w w' : World) : Prop where
  os : w'.os = w.os
  tape : w'.tape = w.tape
  output : w'.output = w.output
  size : w.heap.size ≤ w'.heap.size
  block : ∀ g, g < w.heap.size → ¬ S g → w'.heap[g]? = w.heap[g]?
theorem Chg.of_ext {S : Nat → Prop} {w w' : World} (h : Ext w w') : Chg S w w' := ⟨Below.os h, Below.tape h, Below.output h, Ext.le h, fun g hg _ => Below.block h g hg⟩
theorem Chg.of_grown {S : Nat → Prop} {w w' : World} {r : Option Nat} (h : w.grownBy w' r) (hr : ∀ g, r = some g → S g) : Chg S w w' :=
  ⟨h.os, h.tape, h.output, h.size, fun g hg hS => h.block g hg (fun e => hS (hr g e.symm))⟩
theorem Chg.trans {S S' : Nat → Prop} {a b c : World} (h : Chg S a b) (k : Chg S' b c) (hs : ∀ g, g < a.heap.size → S' g → S g) : Chg S a c :=
  ⟨k.os.trans h.os, k.tape.trans h.tape, k.output.trans h.output, Nat.le_trans h.size k.size, fun g hg hS => (k.block g (Nat.lt_of_lt_of_le hg h.size) (fun hh => hS (hs g hg hh))).trans (h.block g hg hS)⟩
theorem Chg.mono {S S' : Nat → Prop} {a b : World} (h : Chg S a b) (hs : ∀ g, S g → S' g) : Chg S' a b := ⟨h.os, h.tape, h.output, h.size, fun g hg hS => h.block g hg (fun hh => hS (hs g hh))⟩
theorem Chg.below {S : Nat → Prop} {w w' : World} {B : Nat} (h : Chg S w w') (hB : B ≤ w.heap.size) (hs : ∀ g, S g → B ≤ g) : Below B w w' :=
  ⟨h.os, h.tape, h.output, h.size, fun g hg => h.block g (by omega) (fun hh => by have := hs g hh; omega)⟩
theorem Chg.blk {S : Nat → Prop} {w w' : World} {g t : Nat} {cs : Array Value} (h : Chg S w w') (hb : Blk w g t cs) (hg : ¬ S g) : Blk w' g t cs := by
  have := h.block g hb.lt hg
  exact this.trans hb
theorem Chg.own {S : Nat → Prop} {w w' : World} {N e sz n : Nat} {x : Value} {xs : List Value} (h : Chg S w w') (ho : w.ownsRow N e sz x n xs) (hg : ∀ g, x.ownBlock = some g → ¬ S g) : w'.ownsRow N e sz x n xs := by
  refine ⟨ho.1, ?_⟩
  rcases ho.2 with h1 | ⟨b, cap, cur, rfl, hb, hh, h4⟩
  · exact .inl h1
  · exact .inr ⟨b, cap, cur, rfl, hb, (h.blk (t := e) (cs := cur) hh (hg b rfl)), h4⟩
theorem own_le' {w : World} {base e sz n n' c : Nat} {A : Option Addr} {xs : List Value} (h : w.ownsRow base e sz (.slice A n c) n' xs) : n' ≤ c := by
  rcases h.2 with ⟨h1, rfl⟩ | ⟨b, cap, cur, h1, _, _, h2, _⟩
  · omega
  · injection h1 with _ _ h3
    subst h3
    exact h2
end Go.Proofs.Ytlipeplfjkgamaa
/-
  The logic's ninth part: function values that hold variables; a field of a struct's value.
-/
namespace Go.Proofs.Ytlipeplfjkgamaa.H
open Go.RowKit Go.Proofs.Ytlipeplfjkgamaa
set_option linter.unusedSimpArgs false
set_option linter.unusedVariables false
section
variable {P : Program} {n : Nat} {ops rest l : List Oper} {Q : Exit → Fr → World → Prop} {f : Fr} {w w' : World} {d : Option Tmp} {ty : TypeId} {pos : String} {aft : Array Edge} {g : Option (Nat × Bool)} {x y z o : Operand} {v u p rv : Value} {t e tx tz : TypeId} {name : String}
theorem X.makeFn {ρ : Operand → Value} {fn : Fn} {l : List Operand} {cs : List Value} (hv : l.map ρ = cs) : (execOp ρ ⟨d, .makeFunc fn #[] l.toArray, ty, pos, aft, g⟩).run P w = .ok (.value (.func fn #[] cs.toArray)) w := by
  subst hv
  simp [execOp, Instr.makeFunc]
theorem X.enterC {ρ : Operand → Value} {c : FuncId} {l : List Operand} {ts : Array TypeId} {vs cs : List Value} (he : Ent P c) (hfn : ρ o = .func (.func c) #[] cs.toArray) (hv : l.map ρ = vs) : (execOp ρ ⟨d, .call { callee := .value o, args := l.toArray, argTypes := ts }, ty, pos, aft, g⟩).run P w = .ok (.enter c (vs ++ cs).toArray) w := by
  subst hv
  have e : (List.map ρ l).toArray ++ cs.toArray = (List.map ρ l ++ cs).toArray := by simp
  simp only [execOp, resolve, hfn, Deferred.ofValue, Sem.run_bind, Sem.run_pure, Result.andThen_ok, List.map_toArray, Array.append_empty, Array.empty_append]
  simp only [Go.invoke, e, Sem.run_bind, he.run]
theorem L.callC {c : FuncId} {l : List Operand} {vs cs : List Value} {ts : Array TypeId} {R : Ending → World → Prop} (hg : wn ops f g = true) (he : Ent P c) (hfn : ev f o = .func (.func c) #[] cs.toArray) (hv : l.map (ev f) = vs) (hc : Calls P c (vs ++ cs).toArray w R)
    (h : ∀ e w', R e w' → ∃ v, e = .returned v ∧ L P n ops Q rest (putO f d v) w') : L P n ops Q (⟨d, .call { callee := .value o, args := l.toArray, argTypes := ts }, ty, pos, aft, g⟩ :: rest) f w :=
  L.enter hg (X.enterC he hfn hv) hc h
theorem X.fieldV {ρ : Operand → Value} {cs : List Value} {i : Nat} {fs : Array Field} {fd : Field} (hx : ρ x = .agg cs.toArray) (ht : P.underlying t = some (.struct fs)) (hi : fs[i]? = some fd) (hs : Scal P fd.type) (hv : cs[fd.offset]? = some v) : (execOp ρ ⟨d, .field t x i, ty, pos, aft, g⟩).run P w = .ok (.value v) w := by
  have hc : (cs.toArray)[fd.offset]? = some v := by simpa using hv
  simp only [execOp, hx, Instr.field, Sem.run_bind, run_underlying ht, Result.andThen_ok, hi, asAgg, Sem.run_pure, part, hs w]
  simp [hc]
end
end Go.Proofs.Ytlipeplfjkgamaa.H
