/-
  The logic's fifth part: regions all of whose values are settled; calls that change nothing, taken ahead of others.
-/
import Derived.Test.YtdmfikedojgjbaaHoaD
import Derived.BigQuiet
namespace Go.Proofs.Ytdmfikedojgjbaa.H
open Go.RowKit Go.Proofs.Ytdmfikedojgjbaa
set_option linter.unusedSimpArgs false
set_option linter.unusedVariables false
section
variable {P : Program} {n : Nat} {ops rest l : List Oper} {f : Fr} {w w' : World} {d : Option Tmp} {ty : TypeId} {pos : String} {aft : Array Edge} {g : Option (Nat × Bool)} {x y z o : Operand} {v u p : Value} {t e tx tz : TypeId}
/-- a region that draws its order, all of whose operations yield one value in every world of a class -/
def Qt (P : Program) (n : Nat) (ops : List Oper) (C : World → Prop) (Q : Fr → Prop) (l : List Oper) (f : Fr) : Prop :=
  l.all (fitO n) = true → ∀ a, Rep n f a → wpQuiet P ops.toArray C (fun a' => ∃ f', Rep n f' a' ∧ Q f') l a
variable {C : World → Prop} {Q : Fr → Prop}
theorem J.quiet {id : Nat} {Q : Exit → Fr → World → Prop} (hm : P.follows .mixedOrders = true) (hB : Region.lexB .any l.toArray = true) (h : Qt P n l (Ext w) (fun f' => ∀ w', Ext w w' → Q .normal f' w') l f) : J P n (.region id l.toArray true) Q f w := by
  intro hf a hr
  simp only [fitC] at hf
  refine wp_region_quiet (C := Ext w) hm hB (Ext.drew w) ?_
  have := h hf a hr
  refine wpQuiet_mono ?_ this
  rintro a' ⟨f', hr', hq⟩ w' hw'
  exact ⟨f', hr', hq w' hw'⟩
theorem Qt.nil (h : Q f) : Qt P n ops C Q [] f := fun _ _ hr => ⟨f, hr, h⟩
theorem Qt.va {k : Nat} {op : Op} (hg : wn ops f g = true) (hx : ∀ w', C w' → (execOp (ev f) ⟨some k, op, ty, pos, aft, g⟩).run P w' = .ok (.value v) w') (h : Qt P n ops C Q rest (lk [(k, v)] f)) : Qt P n ops C Q (⟨some k, op, ty, pos, aft, g⟩ :: rest) f := by
  intro hf a hr
  simp only [List.all_cons, Bool.and_eq_true] at hf
  unfold wpQuiet
  rw [wanted_eq hr, if_pos hg]
  refine ⟨v, fun w' hw' => ?_, h hf.2 _ (hr.put (d := some k) v hf.1)⟩
  unfold Oper.quietAt
  rw [hr.eval, hx w' hw']
  exact ⟨rfl, rfl⟩
theorem Qt.no {k : Nat} {op : Op} (hg : wn ops f g = false) (h : Qt P n ops C Q rest (lk [(k, undef)] f)) : Qt P n ops C Q (⟨some k, op, ty, pos, aft, g⟩ :: rest) f := by
  intro hf a hr
  simp only [List.all_cons, Bool.and_eq_true] at hf
  unfold wpQuiet
  rw [wanted_eq hr, if_neg (by rw [hg]; simp)]
  exact h hf.2 _ (hr.put (d := some k) undef hf.1)
theorem Qt.call {k : Nat} {c : FuncId} {l : List Operand} {vs : List Value} {ts : Array TypeId} (hg : wn ops f g = true) (he : Ent P c) (hv : l.map (ev f) = vs) (hc : ∀ w', C w' → Calls P c vs.toArray w' fun e w'' => e = .returned v ∧ C w'') (h : Qt P n ops C Q rest (lk [(k, v)] f)) :
    Qt P n ops C Q (⟨some k, .call { callee := .value (.func c), args := l.toArray, argTypes := ts }, ty, pos, aft, g⟩ :: rest) f := by
  intro hf a hr
  simp only [List.all_cons, Bool.and_eq_true] at hf
  unfold wpQuiet
  rw [wanted_eq hr, if_pos hg]
  refine ⟨v, fun w' hw' => ?_, h hf.2 _ (hr.put (d := some k) v hf.1)⟩
  unfold Oper.quietAt
  rw [hr.eval, X.enter he rfl hv]
  exact ⟨rfl, hc w' hw'⟩
theorem Qt.caseB {k : Nat} {b : Bool} (hk : f k = .bool b) (h1 : b = true → Qt P n ops C Q rest (lk [(k, .bool true)] f)) (h2 : b = false → Qt P n ops C Q rest (lk [(k, .bool false)] f)) : Qt P n ops C Q rest f := caseB_ (C := fun f => Qt P n ops C Q rest f) hk h1 h2
theorem Qt.caseDec {k : Nat} {p : Prop} [Decidable p] (hk : f k = .bool (decide p)) (h1 : p → Qt P n ops C Q rest (lk [(k, .bool true)] f)) (h2 : ¬ p → Qt P n ops C Q rest (lk [(k, .bool false)] f)) : Qt P n ops C Q rest f := caseDec_ (C := fun f => Qt P n ops C Q rest f) hk h1 h2
theorem Qt.caseNdec {k : Nat} {p : Prop} [Decidable p] (hk : f k = .bool (!decide p)) (h1 : ¬ p → Qt P n ops C Q rest (lk [(k, .bool true)] f)) (h2 : p → Qt P n ops C Q rest (lk [(k, .bool false)] f)) : Qt P n ops C Q rest f := caseNdec_ (C := fun f => Qt P n ops C Q rest f) hk h1 h2
theorem Qt.caseDecT {k : Nat} {p : Prop} [Decidable p] (hk : f k = .bool (decide p)) (hp : p) (h1 : Qt P n ops C Q rest (lk [(k, .bool true)] f)) : Qt P n ops C Q rest f := Qt.caseDec hk (fun _ => h1) (fun h => absurd hp h)
theorem Qt.caseDecF {k : Nat} {p : Prop} [Decidable p] (hk : f k = .bool (decide p)) (hp : ¬ p) (h1 : Qt P n ops C Q rest (lk [(k, .bool false)] f)) : Qt P n ops C Q rest f := Qt.caseDec hk (fun h => absurd h hp) (fun _ => h1)
theorem Qt.caseNdecT {k : Nat} {p : Prop} [Decidable p] (hk : f k = .bool (!decide p)) (hp : ¬ p) (h1 : Qt P n ops C Q rest (lk [(k, .bool true)] f)) : Qt P n ops C Q rest f := Qt.caseNdec hk (fun _ => h1) (fun h => absurd h hp)
theorem Qt.caseNdecF {k : Nat} {p : Prop} [Decidable p] (hk : f k = .bool (!decide p)) (hp : p) (h1 : Qt P n ops C Q rest (lk [(k, .bool false)] f)) : Qt P n ops C Q rest f := Qt.caseNdec hk (fun h => absurd hp h) (fun _ => h1)
theorem Qt.caseBT {k : Nat} {b : Bool} (hk : f k = .bool b) (hp : b = true) (h1 : Qt P n ops C Q rest (lk [(k, .bool true)] f)) : Qt P n ops C Q rest f := Qt.caseB hk (fun _ => h1) (fun h => by rw [hp] at h; cases h)
theorem Qt.caseBF {k : Nat} {b : Bool} (hk : f k = .bool b) (hp : b = false) (h1 : Qt P n ops C Q rest (lk [(k, .bool false)] f)) : Qt P n ops C Q rest f := Qt.caseB hk (fun h => by rw [hp] at h; cases h) (fun _ => h1)
/-- a contract, seen from an elder world -/
theorem calls_ext {c : FuncId} {vs : Array Value} {w0 : World} (hw : Ext w0 w) (h : Calls P c vs w fun e w' => e = .returned v ∧ Ext w w') : Calls P c vs w fun e w' => e = .returned v ∧ Ext w0 w' :=
  h.mono fun _ _ ⟨he, hx⟩ => ⟨he, hw.trans hx⟩
theorem calls_same {c : FuncId} {vs : Array Value} {w0 : World} (hw : Ext w0 w) (h : Calls P c vs w fun e w' => e = .returned v ∧ w = w') : Calls P c vs w fun e w' => e = .returned v ∧ Ext w0 w' :=
  h.mono fun _ _ ⟨he, hx⟩ => ⟨he, hx ▸ hw⟩

/-! ### an operation, or a call, that changes nothing may be taken ahead of others -/
def Acts (P : Program) (ops : Array Oper) (S : World → Prop) (o : Oper) (v : Value) (a : Act) : Prop :=
  (Region.wanted o (yielded ops a.tmps) = true ∧ ∀ w, S w → o.quietAt P a (fun w'' => w'' = w) w v) ∨ (Region.wanted o (yielded ops a.tmps) = false ∧ v = undef)
section
variable {ops : Array Oper} {S : World → Prop} {md : Region.Mode} {Q : Exit → Act → World → Prop}
theorem Acts.wpOp {i : Nat} {o : Oper} {v : Value} {a : Act} (hi : ops[i]? = some o) (hy : Acts P ops S o v a) {K : Act → World → Prop} {w : World} (hS : S w) (h : K (a.put o.dst v) w) : wpOp P ops Q i K a w := by
  unfold Go.wpOp
  simp only [hi]
  rcases hy with ⟨hw, hv⟩ | ⟨hw, rfl⟩
  · simp only [hw, if_true]
    refine .inl ?_
    have h3 := hv w hS
    unfold Oper.quietAt at h3
    unfold Oper.wp
    generalize (execOp a.eval o).run P w = r at *
    cases r with
    | ok n w' =>
      cases n <;> simp only [Oper.quietUpon] at h3 <;> simp only [Oper.upon]
      case value u => obtain ⟨rfl, rfl⟩ := h3; exact h
      case skip => obtain ⟨rfl, rfl⟩ := h3; exact h
      case enter f args =>
        obtain ⟨rfl, hc⟩ := h3
        exact hc.mono fun e w'' ⟨he, hw''⟩ => by subst he; subst hw''; exact h
    | halt x w' => simp only [Oper.quietUpon] at h3
  · simp only [hw, Bool.false_eq_true, if_false]; exact h
theorem Acts.of_same {o : Oper} {v : Value} {a a' : Act} (hy : Acts P ops S o v a) (he : execOp a'.eval o = execOp a.eval o) (hw : Region.wanted o (yielded ops a'.tmps) = Region.wanted o (yielded ops a.tmps)) : Acts P ops S o v a' := by
  unfold Acts Oper.quietAt at *
  rw [he, hw]
  exact hy
theorem acts_past {j : Nat} {oi oj : Oper} {v : Value} (hj : ops[j]? = some oj) (hap : oi.apart ops oj = true) (hsi : ∀ cs b, oi.op ≠ .select cs b) (hsj : ∀ cs b, oj.op ≠ .select cs b)
    (hQ : ∀ c a w, Q (.panic c) (a.put oi.dst v) w → Q (.panic c) a w) {K : Act → World → Prop} {a : Act} {w : World}
    (hy : Acts P ops S oi v a) (h : wpOp P ops Q j K (a.put oi.dst v) w) : wpOp P ops Q j (fun a' w' => Acts P ops S oi v a' ∧ K (a'.put oi.dst v) w') a w := by
  obtain ⟨h1, h2, h3⟩ := Oper.apart_spec hap
  have keep : ∀ (a : Act), Acts P ops S oi v a → ∀ u, Acts P ops S oi v (a.put oj.dst u) := fun a hy u => hy.of_same (execOp_put oi hsi a oj.dst u h3) (wanted_put oi a oj.dst u h3)
  have keepD : ∀ d, Acts P ops S oi v { a with defers := d :: a.defers } := fun d => hy.of_same rfl rfl
  unfold wpOp at *
  simp only [hj] at *
  rw [wanted_put oj a oi.dst v h1] at h
  split
  · rename_i hw
    simp only [hw, if_true] at h
    rcases h with h | ⟨hasks, hlets⟩
    case inr => exact .inr ⟨by unfold Oper.asks at *; rw [execOp_put oj hsj a oi.dst v h1] at hasks; exact hasks, hlets⟩
    refine .inl ?_
    unfold Oper.wp at *
    rw [execOp_put oj hsj a oi.dst v h1] at h
    generalize (execOp a.eval oj).run P w = r at *
    cases r with
    | ok n w' =>
      cases n <;> simp only [Oper.upon] at h ⊢
      case value u => exact ⟨keep a hy u, by rw [← Act.put_comm a v u h2]; exact h⟩
      case skip => exact ⟨keep a hy _, by rw [← Act.put_comm a v undef h2]; exact h⟩
      case defer d =>
        refine ⟨keep _ (keepD d) _, ?_⟩
        rw [← Act.put_comm _ v undef h2, ← Act.put_defers]
        exact h
      case enter f args =>
        refine Calls.mono h fun e w'' he => ?_
        cases e with
        | returned u => exact ⟨keep a hy u, by rw [← Act.put_comm a v u h2]; exact he⟩
        | panicked c => exact hQ _ _ _ he
        | outgrown => exact he
      case row row args => exact Rows.mono h fun u w'' he => ⟨keep a hy u, by rw [← Act.put_comm a v u h2]; exact he⟩
    | halt x w' =>
      cases x <;> simp only [Oper.upon] at h ⊢
      case panic u => exact hQ _ _ _ h
  · rename_i hw
    simp only [hw] at h
    exact ⟨keep a hy _, by rw [← Act.put_comm a v undef h2]; exact h⟩
theorem acts_first {i ℓ : Nat} {oi : Oper} {v : Value} {fuel : Nat} {listed : Array Bool} {a : Act} {w : World} (hi : ops[i]? = some oi)
    (hs : Region.noSelect ops = true) (hf : Region.free .any ops listed i = true) (hr : (Region.ready .any ops listed).contains i = true) (hl : late ops listed i ℓ = true)
    (hQ : ∀ c a w, Q (.panic c) (a.put oi.dst v) w → Q (.panic c) a w) (hy : Acts P ops S oi v a) (hS : S w)
    (h : wpAnyL P ops Q S ℓ fuel (listed.setIfInBounds i true) (a.put oi.dst v) w) : wpAnyL P ops Q S ℓ (fuel + 1) listed a w := by
  obtain ⟨W, h1, h2, h3⟩ := late_spec hl
  have hsel := Region.noSelect_spec hs
  exact wpAnyL_gen hi (fun hy hS h => hy.wpOp hi hS h) (fun {j oj K a w} hj hap hy h => acts_past hj hap (fun cs b => hsel i oi cs b hi) (fun cs b => hsel j oj cs b hj) hQ hy h) W h1 h2 fuel listed a w (Region.free_spec hi hf) h3 (by simpa using hr) hy hS h
end
/-- a call that changes nothing, ahead of all others -/
theorem D.call {Q : Exit → Fr → World → Prop} {S : World → Prop} {ℓ : Nat} {fuel : Nat} {listed : Array Bool} (i : Nat) {k : Nat} {c : FuncId} {l : List Operand} {vs : List Value} {ts : Array TypeId} (ho : ops[i]? = some ⟨some k, .call { callee := .value (.func c), args := l.toArray, argTypes := ts }, ty, pos, aft, g⟩)
    (hb : (Region.noSelect ops.toArray && Region.free .any ops.toArray listed i && (Region.ready .any ops.toArray listed).contains i && late ops.toArray listed i ℓ) = true) (hQ : ∀ c f w, Q (.panic c) f w → False)
    (hg : wn ops f g = true) (he : Ent P c) (hv : l.map (ev f) = vs) (hc : ∀ w', S w' → Calls P c vs.toArray w' fun e w'' => e = .returned v ∧ w' = w'') (hS : S w) (h : D P n ops S ℓ Q fuel (listed.setIfInBounds i true) (lk [(k, v)] f) w) : D P n ops S ℓ Q (fuel + 1) listed f w := by
  intro hf a hr
  simp only [Bool.and_eq_true] at hb
  refine acts_first (i := i) (v := v) (by simpa using ho) hb.1.1.1 hb.1.1.2 hb.1.2 hb.2 ?_ (.inl ⟨by rw [wanted_eq hr]; exact hg, fun w' hw' => ?_⟩) hS ?_
  · rintro c a w ⟨f', _, hq⟩
    exact absurd hq (hQ c f' w)
  · unfold Oper.quietAt
    rw [hr.eval, X.enter he rfl hv]
    exact ⟨rfl, (hc w' hw').mono fun _ _ ⟨h1, h2⟩ => ⟨h1, h2.symm⟩⟩
  · exact h hf _ (hr.put v (List.all_eq_true.1 hf _ (List.mem_of_getElem? ho)))
/-! ### results that lie in memory -/
theorem run_cell {b : Nat} {tb : TypeId} {l : List Value} {ds : TypeDesc} (hb : Blk w b tb l.toArray) (hu : P.underlying t = some ds) (hd : ds.isRow = true) (hi : (P.info? t).map (·.size) = some l.length) : (loadVar t ⟨b, 0, none⟩).run P w = .ok (.agg l.toArray) w :=
  run_loadVar_mid w b 0 t l ds (by have := range_blk hb; simpa using this) hu hd hi
theorem run_cell1 {b : Nat} {tb : TypeId} (hb : Blk w b tb #[v]) (hs : Scal P t) : (loadVar t ⟨b, 0, none⟩).run P w = .ok v w := by
  have hc : w.cell? ⟨b, 0, none⟩ = some v := by rw [hb.cell]; rfl
  simp [loadVar, hs w, go_sem, hc]
theorem finC {R : Ending → World → Prop} {a b : Nat} {u : Value} (hp : f a = .pointer (some ⟨b, 0, none⟩)) (hl : (loadVar t ⟨b, 0, none⟩).run P w = .ok u w) (h : R (.returned u) w) : fin P #[.cell a t] R .ret f w :=
  ⟨u, by simp [resF, hp, asAddr, hl], h⟩
theorem finCTT {R : Ending → World → Prop} {a b k m : Nat} {u : Value} (hp : f a = .pointer (some ⟨b, 0, none⟩)) (hl : (loadVar t ⟨b, 0, none⟩).run P w = .ok u w) (h : R (.returned (.tuple #[u, f k, f m])) w) : fin P #[.cell a t, .tmp k, .tmp m] R .ret f w :=
  ⟨.tuple #[u, f k, f m], by simp [resF, hp, asAddr, hl], h⟩
theorem finCT {R : Ending → World → Prop} {a b k : Nat} {u : Value} (hp : f a = .pointer (some ⟨b, 0, none⟩)) (hl : (loadVar t ⟨b, 0, none⟩).run P w = .ok u w) (h : R (.returned (.tuple #[u, f k])) w) : fin P #[.cell a t, .tmp k] R .ret f w :=
  ⟨.tuple #[u, f k], by simp [resF, hp, asAddr, hl], h⟩
/-! ### rows of the call's own -/
theorem own_cut {base size k c : Nat} {n' : Nat} {A : Option Addr} {xs : List Value} (h : w.ownsRow base e size (.slice A n' c) n' xs) (hk : k ≤ n') : w.ownsRow base e size (.slice A k c) k (xs.take (k * size)) := by
  refine ⟨by rw [List.length_take, h.1]; exact Nat.min_eq_left (Nat.mul_le_mul_right _ hk), ?_⟩
  rcases h.2 with ⟨h1, rfl⟩ | ⟨b, cap, cur, h1, hb, hh, h2, h3, h4, rfl⟩
  · injection h1 with h1 _ h3
    subst h1 h3
    have : k = 0 := by omega
    subst this
    exact .inl ⟨rfl, rfl⟩
  · injection h1 with h1 _ h5
    subst h1 h5
    refine .inr ⟨b, c, cur, rfl, hb, hh, by omega, h3, h4, ?_⟩
    rw [List.take_take, Nat.min_eq_left (Nat.mul_le_mul_right _ hk)]
theorem own_cutN {base k c : Nat} {n' : Nat} {A : Option Addr} {kd : IntKind} {zs : List Int} (h : w.ownsRow base e 1 (.slice A n' c) n' (nums kd zs)) (hk : k ≤ n') : w.ownsRow base e 1 (.slice A k c) k (nums kd (zs.take k)) := by
  have := own_cut h hk
  simpa [nums] using this
theorem wrap8 (m : Int) : 0 ≤ IntKind.u8.wrap m ∧ IntKind.u8.wrap m < 256 := by simp [IntKind.wrap, IntKind.bits, IntKind.signed]; omega
theorem ext_below (h : Ext w w') : Below w.heap.size w w' := h
theorem _root_.Go.Below.ext_ {a b c : World} {B : Nat} (h : Below B a b) (k : Ext b c) (hB : B ≤ b.heap.size) : Below B a c := h.trans (Below.mono k hB)
theorem range_l {b : Nat} {l : List Value} (h : Blk w b t l.toArray) : w.rangeAt b 0 l := by have := range_blk h; simpa using this
theorem L.boxA {n : Nat} {Q : Exit → Fr → World → Prop} {l : List Value} (hg : wn ops f g = true) (hx : ev f x = .agg l.toArray) (h : ∀ b w', b = w.heap.size → w'.heap.size = w.heap.size + 1 → Blk w' b t l.toArray → Ext w w' → L P n ops Q rest (putO f d (.pointer (some ⟨b, 0, none⟩))) w') :
    L P n ops Q (⟨d, .box t x, ty, pos, aft, g⟩ :: rest) f w := L.box hg hx h
theorem _root_.Go.Proofs.Ytdmfikedojgjbaa.Blk.low {b B : Nat} {cs : Array Value} (h : Blk w b t cs) (hb : Below B w w') (hg : b < B) : Blk w' b t cs := h.below hb hg
end
end Go.Proofs.Ytdmfikedojgjbaa.H
