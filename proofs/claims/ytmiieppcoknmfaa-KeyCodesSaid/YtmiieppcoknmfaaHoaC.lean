/-
  The logic's third part: append and make, texts, regions that draw their order, the way in and out of a function.
-/
import Derived.Test.YtmiieppcoknmfaaHoaB
import Derived.OrdersHeld
namespace Go.Proofs.Ytmiieppcoknmfaa.H
open Go.RowKit Go.Proofs.Ytmiieppcoknmfaa
set_option linter.unusedSimpArgs false
set_option linter.unusedVariables false
section
variable {P : Program} {n : Nat} {ops rest : List Oper} {Q : Exit → Fr → World → Prop} {f : Fr} {w w' : World} {d : Option Tmp} {ty : TypeId} {pos : String} {aft : Array Edge} {g : Option (Nat × Bool)} {x y z : Operand} {v u p : Value} {t e tx tz : TypeId}
/-- what append asks of the elements' type -/
def Elm (P : Program) (e : TypeId) (z : Value) (size bytes : Nat) : Prop := (P.info? e).map (fun i => (i.zero, i.size, i.bytes)) = some (some z, size, bytes) ∧ z.cells.size = size ∧ 0 < size
theorem Elm.of {e : TypeId} {z : Value} {size bytes : Nat} (h : (P.info? e).map (fun i => (i.zero, i.size, i.bytes)) = some (some z, size, bytes)) (h1 : z.cells.size = size) (h2 : 0 < size) : Elm P e z size bytes := ⟨h, h1, h2⟩
/-- append onto a row of the call's own -/
theorem L.append {base n' m c B size bytes : Nat} {A : Option Addr} {xs news : List Value} {z : Value} (hg : wn ops f g = true) (hs : ev f x = v) (hx : ev f y = .slice A m c) (ht : P.underlying t = some (.slice e)) (he : Elm P e z size bytes)
    (hown : w.ownsRow base e size v n' xs) (hr : Reads w B size A m news) (h1 : (news.all (·.oneCell')) = true) (hlen : n' + m ≤ maxLen ∧ (n' + m) * bytes ≤ 140737488355328) (hbase : base ≤ w.heap.size)
    (h : ∀ A' c' w', w'.ownsRow base e size (.slice A' (n' + m) c') (n' + m) (xs ++ news) → w.grownBy w' v.ownBlock → Below base w w' → (Value.ownBlock (.slice A' (n' + m) c') = v.ownBlock ∨ Value.ownBlock (.slice A' (n' + m) c') = some w.heap.size) → L P n ops Q rest (putO f d (.slice A' (n' + m) c')) w') :
    L P n ops Q (⟨d, .call { callee := .builtin .append, args := #[x, y], argTypes := #[t, t] }, ty, pos, aft, g⟩ :: rest) f w := by
  refine L.law hg fun a hr' K hK => ?_
  obtain ⟨i, hi0, hz, hs1, hb1⟩ := info_parts he.1
  refine wp_append_any w x y t rfl base e i z size bytes ht hi0 hz hs1 hb1 he.2.1 he.2.2 v n' xs (by rw [hr'.eval]; exact hs) hown B A m c news (by rw [hr'.eval]; exact hx) hr (fun u hu => List.all_eq_true.1 h1 u hu) hlen.1 hlen.2 hbase ?_
  intro v' w' h2 h3 h4
  obtain ⟨A', c', rfl⟩ := ownsRow_slice h2
  exact hK _ _ (h A' c' w' h2 h3 (below_grown hown h3 hbase) h4)
theorem nums_ones (k : IntKind) (zs : List Int) : ((nums k zs).all (·.oneCell')) = true := by
  rw [List.all_eq_true]
  exact nums_one k zs
/-- append of numbers -/
theorem L.appendN {base n' m c B bytes : Nat} {k : IntKind} {A : Option Addr} {xs zs : List Int} {z : Value} (hg : wn ops f g = true) (hs : ev f x = v) (hx : ev f y = .slice A m c) (ht : P.underlying t = some (.slice e)) (he : Elm P e z 1 bytes)
    (hown : w.ownsRow base e 1 v n' (nums k xs)) (hr : Reads w B 1 A m (nums k zs)) (hlen : n' + m ≤ maxLen ∧ (n' + m) * bytes ≤ 140737488355328) (hbase : base ≤ w.heap.size)
    (h : ∀ A' c' w', w'.ownsRow base e 1 (.slice A' (n' + m) c') (n' + m) (nums k (xs ++ zs)) → w.grownBy w' v.ownBlock → Below base w w' → (Value.ownBlock (.slice A' (n' + m) c') = v.ownBlock ∨ Value.ownBlock (.slice A' (n' + m) c') = some w.heap.size) → L P n ops Q rest (putO f d (.slice A' (n' + m) c')) w') :
    L P n ops Q (⟨d, .call { callee := .builtin .append, args := #[x, y], argTypes := #[t, t] }, ty, pos, aft, g⟩ :: rest) f w := by
  refine L.append hg hs hx ht he hown hr (nums_ones _ _) hlen hbase ?_
  rw [nums_append]
  exact h
/-- the same, the length and the numbers by names of one's own -/
theorem L.appendQ {base n' m c B bytes q : Nat} {k : IntKind} {A : Option Addr} {xs zs ys : List Int} {z : Value} (hg : wn ops f g = true) (hs : ev f x = v) (hx : ev f y = .slice A m c) (ht : P.underlying t = some (.slice e)) (he : Elm P e z 1 bytes)
    (hown : w.ownsRow base e 1 v n' (nums k xs)) (hr : Reads w B 1 A m (nums k zs)) (hq : n' + m = q) (hy : xs ++ zs = ys) (hlen : q ≤ maxLen ∧ q * bytes ≤ 140737488355328) (hbase : base ≤ w.heap.size)
    (h : ∀ A' c' w', w'.ownsRow base e 1 (.slice A' q c') q (nums k ys) → w.grownBy w' v.ownBlock → Below base w w' → (Value.ownBlock (.slice A' q c') = v.ownBlock ∨ Value.ownBlock (.slice A' q c') = some w.heap.size) → L P n ops Q rest (putO f d (.slice A' q c')) w') :
    L P n ops Q (⟨d, .call { callee := .builtin .append, args := #[x, y], argTypes := #[t, t] }, ty, pos, aft, g⟩ :: rest) f w := by
  subst hq hy
  exact L.appendN hg hs hx ht he hown hr hlen hbase h
theorem L.appendV {base n' m c B size bytes q : Nat} {A : Option Addr} {xs news ys : List Value} {z : Value} (hg : wn ops f g = true) (hs : ev f x = v) (hx : ev f y = .slice A m c) (ht : P.underlying t = some (.slice e)) (he : Elm P e z size bytes)
    (hown : w.ownsRow base e size v n' xs) (hr : Reads w B size A m news) (h1 : (news.all (·.oneCell')) = true) (hq : n' + m = q) (hy : xs ++ news = ys) (hlen : q ≤ maxLen ∧ q * bytes ≤ 140737488355328) (hbase : base ≤ w.heap.size)
    (h : ∀ A' c' w', w'.ownsRow base e size (.slice A' q c') q ys → w.grownBy w' v.ownBlock → Below base w w' → (Value.ownBlock (.slice A' q c') = v.ownBlock ∨ Value.ownBlock (.slice A' q c') = some w.heap.size) → L P n ops Q rest (putO f d (.slice A' q c')) w') :
    L P n ops Q (⟨d, .call { callee := .builtin .append, args := #[x, y], argTypes := #[t, t] }, ty, pos, aft, g⟩ :: rest) f w := by
  subst hq hy
  exact L.append hg hs hx ht he hown hr h1 hlen hbase h
theorem own_nil (w : World) (base : Nat) (e : TypeId) (size : Nat) : w.ownsRow base e size (.slice none 0 0) 0 [] := World.ownsRow_nil _ _ _ _
/-- a new block of cells is a row of the call's own -/
theorem blk_own {base b q c size : Nat} {l : List Value} (h : Blk w b e l.toArray) (hb : base ≤ b) (hq : q ≤ c) (hm : c ≤ maxLen) (hl : l.length = c * size) : w.ownsRow base e size (.slice (some ⟨b, 0, none⟩) q c) q (l.take (q * size)) := by
  refine ⟨by rw [List.length_take, hl]; exact Nat.min_eq_left (Nat.mul_le_mul_right _ hq), .inr ⟨b, c, l.toArray, rfl, hb, h, hq, hm, by simpa using hl, by simp⟩⟩
theorem blk_own1 {base b q : Nat} {l : List Value} (h : Blk w b e l.toArray) (hb : base ≤ b) (hm : q ≤ maxLen) (hl : l.length = q) : w.ownsRow base e 1 (.slice (some ⟨b, 0, none⟩) q q) q l := by
  have := blk_own (size := 1) h hb (Nat.le_refl _) hm (by omega)
  rwa [List.take_of_length_le (by omega)] at this
theorem blk_reads {b q B : Nat} {l : List Value} (h : Blk w b t l.toArray) (hb : b < B) (hl : l.length = q) : Reads w B 1 (some ⟨b, 0, none⟩) q l := by
  refine ⟨by omega, fun _ => ⟨_, rfl, hb, fun j u hu => ?_⟩⟩
  rw [Addr.add_mid, Nat.zero_add, h.cell]
  simpa using hu
/-- make -/
theorem L.make {size bytes : Nat} {z : Value} {q c : Nat} {k kx : IntKind} (hg : wn ops f g = true) (hx : ev f x = .int k (q : Int)) (hy : ev f y = .int kx (c : Int)) (ht : P.underlying t = some (.slice e)) (he : Elm P e z size bytes) (hq : q ≤ c ∧ bytes * c ≤ 281474976710656 ∧ c ≤ 9223372036854775807)
    (h : ∀ b w', b = w.heap.size → w'.heap.size = w.heap.size + 1 → Blk w' b e (madeCells z.cells (c * size)) → Ext w w' → L P n ops Q rest (putO f d (.slice (some ⟨b, 0, none⟩) q c)) w') :
    L P n ops Q (⟨d, .makeSlice t x y, ty, pos, aft, g⟩ :: rest) f w := by
  obtain ⟨i, hi0, hz, hs1, hb1⟩ := info_parts he.1
  have := run_make_rowN (P := P) t e i z ht hi0 hz k kx q c hq.1 (by rw [hb1]; exact hq.2.1) hq.2.2 w
  rw [hs1] at this
  refine L.val hg ?_ (h w.heap.size _ rfl (by simp) (Blk.new _ _ _) (Ext.alloc _ _))
  simp only [execOp, hx, hy, Sem.run_bind, this]
  rfl
theorem made_one {z : Value} {c : Nat} (hz : z.cells = #[z]) : madeCells z.cells (c * 1) = (List.replicate c z).toArray := by
  apply Array.ext'
  rw [hz, Nat.mul_one, toList_madeCells_one]
/-! ### regions that draw their order -/
/-- a world that meets S is kept; some operations have come up -/
def D (P : Program) (n : Nat) (ops : List Oper) (S : World → Prop) (Q : Exit → Fr → World → Prop) (fuel : Nat) (listed : Array Bool) (f : Fr) (w : World) : Prop :=
  ops.all (fitO n) = true → ∀ a, Rep n f a → wpAnyH P .any ops.toArray (lft n Q) S fuel listed a w
theorem J.draw {id : Nat} {l : List Oper} {S : World → Prop} (hm : P.follows .mixedOrders = true) (h : ∀ w1, Ext w w1 → w1.heap = w.heap → D P n l S Q l.length (Array.replicate l.length false) f w1) : J P n (.region id l.toArray true) Q f w := by
  intro hf a hr
  simp only [fitC] at hf
  refine wp_region_held (S := S) hm ?_
  have := h w.drew (Ext.drew w) rfl hf a hr
  simpa using this
theorem D.done {S : World → Prop} {fuel : Nat} {listed : Array Bool} (hr : Region.ready .any ops.toArray listed = []) (h : Q .normal f w) : D P n ops S Q fuel listed f w :=
  fun _ _ hr' => wpAnyH_done hr ⟨f, hr', h⟩ fuel
/-- an operation that yields one value in every world that meets S, ahead of all others -/
theorem D.take {S : World → Prop} {fuel : Nat} {listed : Array Bool} (i : Nat) {o : Oper} (ho : ops[i]? = some o)
    (hb : (Region.noSelect ops.toArray && Region.free .any ops.toArray listed i && (Region.ready .any ops.toArray listed).contains i) = true) (hQ : ∀ c f w, Q (.panic c) f w → False)
    (hg : wn ops f o.guard = true) (hx : ∀ w', S w' → (execOp (ev f) o).run P w' = .ok (.value v) w') (hS : S w) (h : D P n ops S Q fuel (listed.setIfInBounds i true) (putO f o.dst v) w) : D P n ops S Q (fuel + 1) listed f w := by
  intro hf a hr
  simp only [Bool.and_eq_true] at hb
  refine wpAnyH_take (i := i) (oi := o) (v := v) (by simpa using ho) hb.1.1 hb.1.2 hb.2 ?_ (.inl ⟨by rw [wanted_eq hr]; exact hg, fun w' hw' => by rw [hr.eval]; exact hx w' hw'⟩) hS ?_
  · rintro c a w ⟨f', _, hq⟩
    exact absurd hq (hQ c f' w)
  · exact h hf _ (hr.put v (List.all_eq_true.1 hf o (List.mem_of_getElem? ho)))
theorem D.off {S : World → Prop} {fuel : Nat} {listed : Array Bool} (i : Nat) {o : Oper} (ho : ops[i]? = some o)
    (hb : (Region.noSelect ops.toArray && Region.free .any ops.toArray listed i && (Region.ready .any ops.toArray listed).contains i) = true) (hQ : ∀ c f w, Q (.panic c) f w → False)
    (hg : wn ops f o.guard = false) (hS : S w) (h : D P n ops S Q fuel (listed.setIfInBounds i true) (putO f o.dst undef) w) : D P n ops S Q (fuel + 1) listed f w := by
  intro hf a hr
  simp only [Bool.and_eq_true] at hb
  refine wpAnyH_take (i := i) (oi := o) (v := undef) (by simpa using ho) hb.1.1 hb.1.2 hb.2 ?_ (.inr ⟨by rw [wanted_eq hr]; exact hg, rfl⟩) hS ?_
  · rintro c a w ⟨f', _, hq⟩
    exact absurd hq (hQ c f' w)
  · exact h hf _ (hr.put undef (List.all_eq_true.1 hf o (List.mem_of_getElem? ho)))
theorem wp_mono2 {o : Oper} {a : Act} {w : World} {K K' : Act → World → Prop} {Q1 Q2 : Exit → Act → World → Prop} (hK : ∀ a w, K a w → K' a w) (hQ : ∀ e a w, e ≠ .normal → Q1 e a w → Q2 e a w) (h : o.wp P a w K Q1) : o.wp P a w K' Q2 := by
  unfold Oper.wp at *
  generalize (execOp a.eval o).run P w = r at *
  cases r with
  | ok n w' =>
    cases n <;> simp only [Oper.upon] at h ⊢ <;>
      first
        | exact hK _ _ h
        | exact Calls.mono h (fun e w'' he => by
            cases e
            case returned => exact hK _ _ he
            case panicked => exact hQ _ _ _ (by simp) he
            case outgrown => obtain ⟨a2, w2, h2⟩ := he; exact ⟨a2, w2, hQ _ _ _ (by simp) h2⟩)
        | exact Rows.mono h (fun _ _ he => hK _ _ he)
  | halt x w' => cases x <;> simp only [Oper.upon] at h ⊢ <;> first | exact hQ _ _ _ (by simp) h | exact h
/-- the same, the operation written out -/
theorem D.va {S : World → Prop} {fuel : Nat} {listed : Array Bool} (i : Nat) {k : Nat} {op : Op} (ho : ops[i]? = some ⟨some k, op, ty, pos, aft, g⟩)
    (hb : (Region.noSelect ops.toArray && Region.free .any ops.toArray listed i && (Region.ready .any ops.toArray listed).contains i) = true) (hQ : ∀ c f w, Q (.panic c) f w → False)
    (hg : wn ops f g = true) (hx : ∀ w', S w' → (execOp (ev f) ⟨some k, op, ty, pos, aft, g⟩).run P w' = .ok (.value v) w') (hS : S w) (h : D P n ops S Q fuel (listed.setIfInBounds i true) (lk [(k, v)] f) w) : D P n ops S Q (fuel + 1) listed f w := D.take i ho hb hQ hg hx hS h
theorem D.no {S : World → Prop} {fuel : Nat} {listed : Array Bool} (i : Nat) {k : Nat} {op : Op} (ho : ops[i]? = some ⟨some k, op, ty, pos, aft, g⟩)
    (hb : (Region.noSelect ops.toArray && Region.free .any ops.toArray listed i && (Region.ready .any ops.toArray listed).contains i) = true) (hQ : ∀ c f w, Q (.panic c) f w → False)
    (hg : wn ops f g = false) (hS : S w) (h : D P n ops S Q fuel (listed.setIfInBounds i true) (lk [(k, undef)] f) w) : D P n ops S Q (fuel + 1) listed f w := D.off i ho hb hQ hg hS h
/-- whichever of those that may come up -/
theorem D.all {S : World → Prop} {fuel : Nat} {listed : Array Bool} {rs : List Nat} (hr : Region.ready .any ops.toArray listed = rs) (hne : rs ≠ [])
    (h : ∀ i ∈ rs, ∃ o, ops[i]? = some o ∧ L P n ops (thn (fun f' w' => S w' ∧ D P n ops S Q fuel (listed.setIfInBounds i true) f' w') Q) [o] f w) : D P n ops S Q (fuel + 1) listed f w := by
  intro hf a hr'
  refine wpAnyH_all hr hne fun i hi => ?_
  obtain ⟨o, ho, hl⟩ := h i hi
  have h1 := hl (by simp only [List.all_cons, List.all_nil, Bool.and_true]; exact List.all_eq_true.1 hf o (List.mem_of_getElem? ho)) a hr'
  unfold wpOp
  rw [show ops.toArray[i]? = some o by simpa using ho]
  simp only
  have mono : ∀ a' w', lft n (thn (fun f' w' => S w' ∧ D P n ops S Q fuel (listed.setIfInBounds i true) f' w') Q) .normal a' w' → S w' ∧ wpAnyH P .any ops.toArray (lft n Q) S fuel (listed.setIfInBounds i true) a' w' := by
    rintro a' w' ⟨f', hr2, hs, hd⟩
    exact ⟨hs, hd hf a' hr2⟩
  have monoQ : ∀ e a' w', e ≠ .normal → lft n (thn (fun f' w' => S w' ∧ D P n ops S Q fuel (listed.setIfInBounds i true) f' w') Q) e a' w' → lft n Q e a' w' := by
    rintro e a' w' hne ⟨f', hr2, hq⟩
    refine ⟨f', hr2, ?_⟩
    cases e
    case normal => exact absurd rfl hne
    all_goals exact hq
  unfold wpList at h1
  by_cases hw : Region.wanted o (yielded ops.toArray a.tmps) = true
  · rw [if_pos hw] at h1 ⊢
    rcases h1 with h1 | ⟨h1, a2, w2, h2⟩
    · exact .inl (wp_mono2 mono monoQ h1)
    · exact .inr ⟨h1, a2, w2, monoQ _ _ _ (by simp) h2⟩
  · rw [if_neg hw] at h1 ⊢
    exact mono _ _ h1
theorem D.one {S : World → Prop} {fuel : Nat} {listed : Array Bool} (i : Nat) {o : Oper} (hr : Region.ready .any ops.toArray listed = [i]) (ho : ops[i]? = some o)
    (h : L P n ops (thn (fun f' w' => S w' ∧ D P n ops S Q fuel (listed.setIfInBounds i true) f' w') Q) [o] f w) : D P n ops S Q (fuel + 1) listed f w :=
  D.all hr (by simp) (fun j hj => by
    obtain rfl : j = i := by simpa using hj
    exact ⟨o, ho, h⟩)
theorem D.two {S : World → Prop} {fuel : Nat} {listed : Array Bool} (i j : Nat) {o o' : Oper} (hr : Region.ready .any ops.toArray listed = [i, j]) (ho : ops[i]? = some o) (ho' : ops[j]? = some o')
    (h : L P n ops (thn (fun f' w' => S w' ∧ D P n ops S Q fuel (listed.setIfInBounds i true) f' w') Q) [o] f w)
    (h' : L P n ops (thn (fun f' w' => S w' ∧ D P n ops S Q fuel (listed.setIfInBounds j true) f' w') Q) [o'] f w) : D P n ops S Q (fuel + 1) listed f w :=
  D.all hr (by simp) (fun k hk => by
    have : k = i ∨ k = j := by simpa using hk
    rcases this with rfl | rfl
    · exact ⟨o, ho, h⟩
    · exact ⟨o', ho', h'⟩)
theorem D.three {S : World → Prop} {fuel : Nat} {listed : Array Bool} (i j k : Nat) {o o' o'' : Oper} (hr : Region.ready .any ops.toArray listed = [i, j, k]) (ho : ops[i]? = some o) (ho' : ops[j]? = some o') (ho'' : ops[k]? = some o'')
    (h : L P n ops (thn (fun f' w' => S w' ∧ D P n ops S Q fuel (listed.setIfInBounds i true) f' w') Q) [o] f w)
    (h' : L P n ops (thn (fun f' w' => S w' ∧ D P n ops S Q fuel (listed.setIfInBounds j true) f' w') Q) [o'] f w)
    (h'' : L P n ops (thn (fun f' w' => S w' ∧ D P n ops S Q fuel (listed.setIfInBounds k true) f' w') Q) [o''] f w) : D P n ops S Q (fuel + 1) listed f w :=
  D.all hr (by simp) (fun q hq => by
    have : q = i ∨ q = j ∨ q = k := by simpa using hq
    rcases this with rfl | rfl | rfl
    · exact ⟨o, ho, h⟩
    · exact ⟨o', ho', h'⟩
    · exact ⟨o'', ho'', h''⟩)
/-! ### the way in and out -/
def args (l : List Value) : Nat → List (Nat × Value) := fun i => (List.range' i l.length).zip l
def resF (rs : Array ResultVar) (f : Fr) : Sem Value := do
  let vs ← rs.mapM fun
    | .tmp t => pure (f t)
    | .cell a t => do loadVar t (← asAddr (f a))
  pure (if h : vs.size = 1 then vs[0] else .tuple vs)
theorem results_eq {fn : Func} {a : Act} (hr : Rep n f a) : results fn a.tmps = resF fn.results f := by
  unfold results resF
  have : (fun t => a.tmps.getD t undef) = f := funext hr.get
  congr 1
  congr 1
  funext r
  cases r with
  | tmp t => simp only [hr.get]
  | cell c t => simp only [hr.get]
/-- how a function's body ends -/
def fin (P : Program) (rs : Array ResultVar) (R : Ending → World → Prop) : Exit → Fr → World → Prop
  | .normal, f, w => ∃ v, (resF rs f).run P w = .ok v w ∧ R (.returned v) w
  | .ret, f, w => ∃ v, (resF rs f).run P w = .ok v w ∧ R (.returned v) w
  | _, _, _ => False
theorem enter {id : FuncId} {fn : Func} {c : Code} {l : List Value} {R : Ending → World → Prop} (hf : P.funcs[id]? = some fn) (hb : fn.body = some c) (hk : (fitC fn.ntmps c && Nat.ble l.length fn.ntmps) = true)
    (h : J P fn.ntmps c (fin P fn.results R) (lk (args l 0) fun _ => undef) w) : Calls P id l.toArray w R := by
  simp only [Bool.and_eq_true] at hk
  have hle : l.length ≤ fn.ntmps := by simpa using hk.2
  refine calls_of_wp hf hb (wp_mono (h hk.1 _ ⟨by simp; omega, rfl, ?_⟩) ?_)
  · intro j
    have key : ∀ (l : List Value) (i j : Nat), lk ((List.range' i l.length).zip l) (fun _ => undef) j = if i ≤ j then l.getD (j - i) undef else undef := by
      intro l
      induction l with
      | nil => intro i j; simp [lk]
      | cons a l ih =>
        intro i j
        simp only [List.length_cons, List.range'_succ, List.zip_cons_cons, lk]
        rw [ih (i + 1) j]
        cases hb : Nat.beq j i with
        | true =>
          have := Nat.eq_of_beq_eq_true hb
          subst this
          simp
        | false =>
          have hne : j ≠ i := fun e => by subst e; rw [Nat.beq_refl] at hb; cases hb
          by_cases hij : i + 1 ≤ j
          · rw [if_pos hij, if_pos (by omega), show j - i = (j - (i + 1)) + 1 by omega]
            simp
          · rw [if_neg hij, if_neg (by omega)]
            rfl
    show (l.toArray ++ Array.replicate (fn.ntmps - l.toArray.size) undef).getD j undef = _
    unfold args
    rw [key l 0 j, if_pos (Nat.zero_le _), Nat.sub_zero, Array.getD_eq_getD_getElem?, Array.getElem?_append]
    by_cases hj : j < l.length
    · simp [hj, List.getD]
    · simp only [List.size_toArray, hj, if_false, List.getD, List.getElem?_eq_none (Nat.le_of_not_lt hj)]
      rw [Array.getElem?_replicate]
      split <;> rfl
  · rintro e a' w' ⟨f', hr, hq⟩
    cases e <;> simp only [fin] at hq <;> first
      | (obtain ⟨v, hv, hR⟩ := hq
         exact ⟨hr.defers, v, by rw [results_eq hr]; exact hv, hR⟩)
      | exact hq.elim
theorem thn_ret {K : Fr → World → Prop} (h : Q .ret f w) : thn K Q .ret f w := h
theorem inB_ret {id : Nat} (h : Q .ret f w) : inB id Q .ret f w := h
theorem fin1 {R : Ending → World → Prop} {k : Tmp} (h : R (.returned (f k)) w) : fin P #[.tmp k] R .ret f w := ⟨f k, by simp [resF], h⟩
theorem fin2 {R : Ending → World → Prop} {k1 k2 : Tmp} (h : R (.returned (.tuple #[f k1, f k2])) w) : fin P #[.tmp k1, .tmp k2] R .ret f w := ⟨_, by simp [resF], h⟩
theorem fin3 {R : Ending → World → Prop} {k1 k2 k3 : Tmp} (h : R (.returned (.tuple #[f k1, f k2, f k3])) w) : fin P #[.tmp k1, .tmp k2, .tmp k3] R .ret f w := ⟨_, by simp [resF], h⟩
theorem fin0 {R : Ending → World → Prop} {e : Exit} (he : e = .ret ∨ e = .normal) (h : R (.returned (.tuple #[])) w) : fin P #[] R e f w := by
  rcases he with rfl | rfl <;> exact ⟨_, by simp [resF], h⟩
end
end Go.Proofs.Ytmiieppcoknmfaa.H
