/-
  The logic's third part: append and make, texts, regions that draw their order, the way in and out of a function.
-/
import Derived.Test.YtdmfikedojgjbaaHoaB
import Derived.OrdersHeld
namespace Go.Proofs.Ytdmfikedojgjbaa.H
open Go.RowKit Go.Proofs.Ytdmfikedojgjbaa
set_option linter.unusedSimpArgs false
set_option linter.unusedVariables false
section
variable {P : Program} {n : Nat} {ops rest : List Oper} {Q : Exit → Fr → World → Prop} {f : Fr} {w w' : World} {d : Option Tmp} {ty : TypeId} {pos : String} {aft : Array Edge} {g : Option (Nat × Bool)} {x y z : Operand} {v u p : Value} {t e tx tz : TypeId}
/-- what append asks of the elements' type -/
def Elm (P : Program) (e : TypeId) (z : Value) (size bytes : Nat) : Prop := (P.info? e).map (fun i => (i.zero, i.size, i.bytes)) = some (some z, size, bytes) ∧ z.cells.size = size ∧ 0 < size
theorem Elm.of {e : TypeId} {z : Value} {size bytes : Nat} (h : (P.info? e).map (fun i => (i.zero, i.size, i.bytes)) = some (some z, size, bytes)) (h1 : z.cells.size = size) (h2 : 0 < size) : Elm P e z size bytes := ⟨h, h1, h2⟩
/-- append onto a row of the call's own -/
theorem L.append {base n' m c B size bytes : Nat} {A : Option Addr} {xs news : List Value} {z : Value} (hg : wn ops f g = true) (hs : ev f x = v) (hx : ev f y = .slice A m c) (ht : P.underlying t = some (.slice e)) (he : Elm P e z size bytes)
    (hown : w.ownsRow base e size v n' xs) (hr : Reads w B size A m news) (h1 : (news.all (·.oneCell')) = true) (hlen : n' + m ≤ maxLen ∧ (n' + m) * bytes ≤ 140737488355328) (hbase : base ≤ w.heap.size)
    (h : ∀ A' c' w', w'.ownsRow base e size (.slice A' (n' + m) c') (n' + m) (xs ++ news) → w.grownBy w' v.ownBlock → Below base w w' → (Value.ownBlock (.slice A' (n' + m) c') = v.ownBlock ∨ Value.ownBlock (.slice A' (n' + m) c') = some w.heap.size) → L P n ops Q rest (putO f d (.slice A' (n' + m) c')) w') :
    L P n ops Q (⟨d, .call { callee := .builtin .append, args := #[x, y], argTypes := #[t, t] }, ty, pos, aft, g⟩ :: rest) f w := by
  refine L.law hg fun a hr' K hK => ?_
  obtain ⟨i, hi0, hz, hs1, hb1⟩ := info_parts he.1
  refine wp_append_any w x y t rfl base e i z size bytes ht hi0 hz hs1 hb1 he.2.1 he.2.2 v n' xs (by rw [hr'.eval]; exact hs) hown B A m c news (by rw [hr'.eval]; exact hx) hr (fun u hu => List.all_eq_true.1 h1 u hu) hlen.1 hlen.2 hbase ?_
  intro v' w' h2 h3 h4
  obtain ⟨A', c', rfl⟩ := ownsRow_slice h2
  exact hK _ _ (h A' c' w' h2 h3 (below_grown hown h3 hbase) h4)
theorem nums_ones (k : IntKind) (zs : List Int) : ((nums k zs).all (·.oneCell')) = true := by
  rw [List.all_eq_true]
  exact nums_one k zs
/-- append of numbers -/
theorem L.appendN {base n' m c B bytes : Nat} {k : IntKind} {A : Option Addr} {xs zs : List Int} {z : Value} (hg : wn ops f g = true) (hs : ev f x = v) (hx : ev f y = .slice A m c) (ht : P.underlying t = some (.slice e)) (he : Elm P e z 1 bytes)
    (hown : w.ownsRow base e 1 v n' (nums k xs)) (hr : Reads w B 1 A m (nums k zs)) (hlen : n' + m ≤ maxLen ∧ (n' + m) * bytes ≤ 140737488355328) (hbase : base ≤ w.heap.size)
    (h : ∀ A' c' w', w'.ownsRow base e 1 (.slice A' (n' + m) c') (n' + m) (nums k (xs ++ zs)) → w.grownBy w' v.ownBlock → Below base w w' → (Value.ownBlock (.slice A' (n' + m) c') = v.ownBlock ∨ Value.ownBlock (.slice A' (n' + m) c') = some w.heap.size) → L P n ops Q rest (putO f d (.slice A' (n' + m) c')) w') :
    L P n ops Q (⟨d, .call { callee := .builtin .append, args := #[x, y], argTypes := #[t, t] }, ty, pos, aft, g⟩ :: rest) f w := by
  refine L.append hg hs hx ht he hown hr (nums_ones _ _) hlen hbase ?_
  rw [nums_append]
  exact h
/-- the same, the length and the numbers by names of one's own -/
theorem L.appendQ {base n' m c B bytes q : Nat} {k : IntKind} {A : Option Addr} {xs zs ys : List Int} {z : Value} (hg : wn ops f g = true) (hs : ev f x = v) (hx : ev f y = .slice A m c) (ht : P.underlying t = some (.slice e)) (he : Elm P e z 1 bytes)
    (hown : w.ownsRow base e 1 v n' (nums k xs)) (hr : Reads w B 1 A m (nums k zs)) (hq : n' + m = q) (hy : xs ++ zs = ys) (hlen : q ≤ maxLen ∧ q * bytes ≤ 140737488355328) (hbase : base ≤ w.heap.size)
    (h : ∀ A' c' w', w'.ownsRow base e 1 (.slice A' q c') q (nums k ys) → w.grownBy w' v.ownBlock → Below base w w' → (Value.ownBlock (.slice A' q c') = v.ownBlock ∨ Value.ownBlock (.slice A' q c') = some w.heap.size) → L P n ops Q rest (putO f d (.slice A' q c')) w') :
    L P n ops Q (⟨d, .call { callee := .builtin .append, args := #[x, y], argTypes := #[t, t] }, ty, pos, aft, g⟩ :: rest) f w := by
  subst hq hy
  exact L.appendN hg hs hx ht he hown hr hlen hbase h
theorem L.appendV {base n' m c B size bytes q : Nat} {A : Option Addr} {xs news ys : List Value} {z : Value} (hg : wn ops f g = true) (hs : ev f x = v) (hx : ev f y = .slice A m c) (ht : P.underlying t = some (.slice e)) (he : Elm P e z size bytes)
    (hown : w.ownsRow base e size v n' xs) (hr : Reads w B size A m news) (h1 : (news.all (·.oneCell')) = true) (hq : n' + m = q) (hy : xs ++ news = ys) (hlen : q ≤ maxLen ∧ q * bytes ≤ 140737488355328) (hbase : base ≤ w.heap.size)
    (h : ∀ A' c' w', w'.ownsRow base e size (.slice A' q c') q ys → w.grownBy w' v.ownBlock → Below base w w' → (Value.ownBlock (.slice A' q c') = v.ownBlock ∨ Value.ownBlock (.slice A' q c') = some w.heap.size) → L P n ops Q rest (putO f d (.slice A' q c')) w') :
    L P n ops Q (⟨d, .call { callee := .builtin .append, args := #[x, y], argTypes := #[t, t] }, ty, pos, aft, g⟩ :: rest) f w := by
  subst hq hy
  exact L.append hg hs hx ht he hown hr h1 hlen hbase h
theorem own_nil (w : World) (base : Nat) (e : TypeId) (size : Nat) : w.ownsRow base e size (.slice none 0 0) 0 [] := World.ownsRow_nil _ _ _ _
/-- a new block of cells is a row of the call's own -/
theorem blk_own {base b q c size : Nat} {l : List Value} (h : Blk w b e l.toArray) (hb : base ≤ b) (hq : q ≤ c) (hm : c ≤ maxLen) (hl : l.length = c * size) : w.ownsRow base e size (.slice (some ⟨b, 0, none⟩) q c) q (l.take (q * size)) := by
  refine ⟨by rw [List.length_take, hl]; exact Nat.min_eq_left (Nat.mul_le_mul_right _ hq), .inr ⟨b, c, l.toArray, rfl, hb, h, hq, hm, by simpa using hl, by simp⟩⟩
theorem blk_own1 {base b q : Nat} {l : List Value} (h : Blk w b e l.toArray) (hb : base ≤ b) (hm : q ≤ maxLen) (hl : l.length = q) : w.ownsRow base e 1 (.slice (some ⟨b, 0, none⟩) q q) q l := by
  have := blk_own (size := 1) h hb (Nat.le_refl _) hm (by omega)
  rwa [List.take_of_length_le (by omega)] at this
theorem blk_reads {b q B : Nat} {l : List Value} (h : Blk w b t l.toArray) (hb : b < B) (hl : l.length = q) : Reads w B 1 (some ⟨b, 0, none⟩) q l := by
  refine ⟨by omega, fun _ => ⟨_, rfl, hb, fun j u hu => ?_⟩⟩
  rw [Addr.add_mid, Nat.zero_add, h.cell]
  simpa using hu
/-- make -/
theorem L.make {size bytes : Nat} {z : Value} {q c : Nat} {k kx : IntKind} (hg : wn ops f g = true) (hx : ev f x = .int k (q : Int)) (hy : ev f y = .int kx (c : Int)) (ht : P.underlying t = some (.slice e)) (he : Elm P e z size bytes) (hq : q ≤ c ∧ bytes * c ≤ 281474976710656 ∧ c ≤ 9223372036854775807)
    (h : ∀ b w', b = w.heap.size → w'.heap.size = w.heap.size + 1 → Blk w' b e (madeCells z.cells (c * size)) → Ext w w' → L P n ops Q rest (putO f d (.slice (some ⟨b, 0, none⟩) q c)) w') :
    L P n ops Q (⟨d, .makeSlice t x y, ty, pos, aft, g⟩ :: rest) f w := by
  obtain ⟨i, hi0, hz, hs1, hb1⟩ := info_parts he.1
  have := run_make_rowN (P := P) t e i z ht hi0 hz k kx q c hq.1 (by rw [hb1]; exact hq.2.1) hq.2.2 w
  rw [hs1] at this
  refine L.val hg ?_ (h w.heap.size _ rfl (by simp) (Blk.new _ _ _) (Ext.alloc _ _))
  simp only [execOp, hx, hy, Sem.run_bind, this]
  rfl
theorem made_one {z : Value} {c : Nat} (hz : z.cells = #[z]) : madeCells z.cells (c * 1) = (List.replicate c z).toArray := by
  apply Array.ext'
  rw [hz, Nat.mul_one, toList_madeCells_one]
/-! ### regions that draw their order -/
/-- whatever order is picked; S holds behind each operation but one, that comes last -/
def wpAnyL (P : Program) (ops : Array Oper) (Q : Exit → Act → World → Prop) (S : World → Prop) (ℓ : Nat) : Nat → Array Bool → Act → World → Prop
  | 0, listed, a, w => Region.ready .any ops listed = [] ∧ Q .normal a w
  | fuel + 1, listed, a, w =>
    (Region.ready .any ops listed = [] → Q .normal a w) ∧
    ∀ i ∈ Region.ready .any ops listed, wpOp P ops Q i (fun a' w' => (i ≠ ℓ → S w') ∧ wpAnyL P ops Q S ℓ fuel (listed.setIfInBounds i true) a' w') a w
theorem wpAny_of_L {P : Program} {ops : Array Oper} {Q : Exit → Act → World → Prop} {S : World → Prop} {ℓ : Nat} : ∀ (fuel : Nat) (listed : Array Bool) (a : Act) (w : World), wpAnyL P ops Q S ℓ fuel listed a w → wpAny P .any ops Q fuel listed a w
  | 0, _, _, _, h => h
  | fuel + 1, _, _, _, h => ⟨h.1, fun i hi => wpOp_mono (fun a' w' h' => wpAny_of_L fuel _ a' w' h'.2) (h.2 i hi)⟩
/-- those that wait for one -/
def waiters (ops : Array Oper) (i : Nat) : List Nat :=
  (List.range ops.size).foldl (fun W j => match ops[j]? with
    | some o => if o.after.any (fun e => Region.binds .any e && (e.on == i || W.contains e.on)) then j :: W else W
    | none => W) []
/-- number ℓ comes later than number i, or there is no such number -/
def late (ops : Array Oper) (listed : Array Bool) (i ℓ : Nat) : Bool :=
  Nat.ble ops.size ℓ || ((waiters ops i).contains ℓ && (waiters ops i).all fun j => !listed.getD j true && (match ops[j]? with
    | some o => o.after.any (fun e => Region.binds .any e && (e.on == i || (waiters ops i).contains e.on))
    | none => false))
theorem wpAnyL_gen {P : Program} {ops : Array Oper} {Q : Exit → Act → World → Prop} {S : World → Prop} {ℓ i : Nat} {oi : Oper} {v : Value} {Y : Act → Prop} (hi : ops[i]? = some oi)
    (hop : ∀ {K : Act → World → Prop} {a : Act} {w : World}, Y a → S w → K (a.put oi.dst v) w → wpOp P ops Q i K a w)
    (hpast : ∀ {j : Nat} {oj : Oper} {K : Act → World → Prop} {a : Act} {w : World}, ops[j]? = some oj → oi.apart ops oj = true → Y a → wpOp P ops Q j K (a.put oi.dst v) w → wpOp P ops Q j (fun a' w' => Y a' ∧ K (a'.put oi.dst v) w') a w)
    (W : List Nat) (hW : ∀ j ∈ W, ∃ oj, ops[j]? = some oj ∧ ∃ e ∈ oj.after, Region.binds .any e = true ∧ (e.on = i ∨ e.on ∈ W)) (hℓ : ℓ ∈ W ∨ ops.size ≤ ℓ) :
    ∀ (fuel : Nat) (listed : Array Bool) (a : Act) (w : World),
      (∀ j oj, ops[j]? = some oj → j ≠ i → listed.getD j true = false → (∀ e ∈ oj.after, Region.binds .any e = true → e.on ≠ i) → oi.apart ops oj = true) →
      (∀ j ∈ W, listed.getD j true = false) →
      i ∈ Region.ready .any ops listed → Y a → S w →
      wpAnyL P ops Q S ℓ fuel (listed.setIfInBounds i true) (a.put oi.dst v) w → wpAnyL P ops Q S ℓ (fuel + 1) listed a w := by
  intro fuel
  induction fuel with
  | zero =>
    intro listed a w _ _ hr hy hS H
    refine ⟨fun h => (by rw [h] at hr; cases hr), fun j hj => ?_⟩
    by_cases hji : j = i
    · subst hji; exact hop hy hS ⟨fun _ => hS, H⟩
    · have := ready_mono hj hji
      rw [H.1] at this
      cases this
  | succ fuel ih =>
    intro listed a w hfree hWl hr hy hS H
    refine ⟨fun h => (by rw [h] at hr; cases hr), fun j hj => ?_⟩
    by_cases hji : j = i
    · subst hji; exact hop hy hS ⟨fun _ => hS, H⟩
    · have h1 := H.2 j (ready_mono hj hji)
      obtain ⟨hjun, oj, hoj, hall⟩ := mem_ready.1 hj
      have hiun := (mem_ready.1 hr).1
      have clash : ∀ k, listed.getD k false = true → listed.getD k true = false → False := fun k h1 h0 => by
        rcases Nat.lt_or_ge k listed.size with h' | h'
        · simp [h'] at h0 h1; rw [h0] at h1; cases h1
        · simp [Array.getElem?_eq_none h'] at h1
      have hnot : ∀ e ∈ oj.after, Region.binds .any e = true → e.on ≠ i := fun e he hb heq => by
        have h1 := hall e he hb
        rw [heq] at h1
        exact clash i h1 hiun
      have hjW : j ∉ W := fun hjW => by
        obtain ⟨oj', hoj', e, he, hb, hon⟩ := hW j hjW
        rw [hoj] at hoj'
        obtain rfl : oj = oj' := by injection hoj'
        have h1 := hall e he hb
        rcases hon with hon | hon
        · rw [hon] at h1; exact clash i h1 hiun
        · exact clash e.on h1 (hWl e.on hon)
      have hjℓ : j ≠ ℓ := fun h => by
        subst h
        rcases hℓ with h | h
        · exact hjW h
        · rw [Array.getElem?_eq_none h] at hoj; cases hoj
      have h2 := hpast hoj (hfree j oj hoj hji hjun hnot) hy h1
      have hfree' : ∀ k ok, ops[k]? = some ok → k ≠ i → (listed.setIfInBounds j true).getD k true = false →
          (∀ e ∈ ok.after, Region.binds .any e = true → e.on ≠ i) → oi.apart ops ok = true := fun k ok hk hki hun hno => by
        refine hfree k ok hk hki ?_ hno
        by_cases hjk : j = k
        · subst hjk; exact hjun
        · rw [getD_set_ne true hjk] at hun; exact hun
      have hWl' : ∀ k ∈ W, (listed.setIfInBounds j true).getD k true = false := fun k hk => by
        rw [getD_set_ne true (show j ≠ k from fun h => by subst h; exact hjW hk)]; exact hWl k hk
      refine wpOp_mono (fun a' w' h3 => ⟨h3.2.1, ih (listed.setIfInBounds j true) a' w' hfree' hWl' (ready_mono hr (Ne.symm hji)) h3.1 (h3.2.1 hjℓ) ?_⟩) h2
      rw [Array.setIfInBounds_comm _ _ hji]
      exact h3.2.2
theorem late_spec {ops : Array Oper} {listed : Array Bool} {i ℓ : Nat} (h : late ops listed i ℓ = true) :
    ∃ W : List Nat, (∀ j ∈ W, ∃ oj, ops[j]? = some oj ∧ ∃ e ∈ oj.after, Region.binds .any e = true ∧ (e.on = i ∨ e.on ∈ W)) ∧ (ℓ ∈ W ∨ ops.size ≤ ℓ) ∧ ∀ j ∈ W, listed.getD j true = false := by
  unfold late at h
  rw [Bool.or_eq_true, Bool.and_eq_true] at h
  rcases h with h | ⟨h1, h2⟩
  · exact ⟨[], fun j hj => (List.not_mem_nil hj).elim, Or.inr (Nat.le_of_ble_eq_true h), fun j hj => (List.not_mem_nil hj).elim⟩
  · refine ⟨waiters ops i, fun j hj => ?_, .inl (by simpa using h1), fun j hj => ?_⟩
    · have h3 := List.all_eq_true.1 h2 j hj
      rw [Bool.and_eq_true] at h3
      have h4 := h3.2
      cases ho : ops[j]? with
      | none => rw [ho] at h4; cases h4
      | some o =>
        rw [ho] at h4
        simp only [Array.any_eq_true'] at h4
        obtain ⟨e, he, hb⟩ := h4
        refine ⟨o, rfl, e, he, ?_⟩
        simpa using hb
    · have h3 := List.all_eq_true.1 h2 j hj
      rw [Bool.and_eq_true] at h3
      simpa using h3.1
theorem wpAnyL_take {P : Program} {ops : Array Oper} {Q : Exit → Act → World → Prop} {S : World → Prop} {ℓ i : Nat} {oi : Oper} {v : Value} {fuel : Nat} {listed : Array Bool} {a : Act} {w : World} (hi : ops[i]? = some oi)
    (hs : Region.noSelect ops = true) (hf : Region.free .any ops listed i = true) (hr : (Region.ready .any ops listed).contains i = true) (hl : late ops listed i ℓ = true)
    (hQ : ∀ c a w, Q (.panic c) (a.put oi.dst v) w → Q (.panic c) a w) (hy : YieldsIf P ops S oi v a) (hS : S w)
    (h : wpAnyL P ops Q S ℓ fuel (listed.setIfInBounds i true) (a.put oi.dst v) w) : wpAnyL P ops Q S ℓ (fuel + 1) listed a w := by
  obtain ⟨W, h1, h2, h3⟩ := late_spec hl
  have hsel := Region.noSelect_spec hs
  exact wpAnyL_gen hi (fun hy hS h => hy.wpOp hi hS h) (fun {j oj K a w} hj hap hy h => wpOp_putIf hj hap (fun cs b => hsel i oi cs b hi) (fun cs b => hsel j oj cs b hj) hQ hy h) W h1 h2 fuel listed a w (Region.free_spec hi hf) h3 (by simpa using hr) hy hS h
theorem wpAnyL_all {P : Program} {ops : Array Oper} {Q : Exit → Act → World → Prop} {S : World → Prop} {ℓ : Nat} {rs : List Nat} {fuel : Nat} {listed : Array Bool} {a : Act} {w : World} (hr : Region.ready .any ops listed = rs) (hne : rs ≠ [])
    (h : ∀ i ∈ rs, wpOp P ops Q i (fun a' w' => (i ≠ ℓ → S w') ∧ wpAnyL P ops Q S ℓ fuel (listed.setIfInBounds i true) a' w') a w) : wpAnyL P ops Q S ℓ (fuel + 1) listed a w :=
  ⟨fun h0 => absurd (hr ▸ h0) hne, hr ▸ h⟩
theorem wpAnyL_done {P : Program} {ops : Array Oper} {Q : Exit → Act → World → Prop} {S : World → Prop} {ℓ : Nat} {listed : Array Bool} {a : Act} {w : World} (hr : Region.ready .any ops listed = []) (h : Q .normal a w) :
    ∀ fuel, wpAnyL P ops Q S ℓ fuel listed a w
  | 0 => ⟨hr, h⟩
  | _ + 1 => ⟨fun _ => h, by rw [hr]; simp⟩
/-- a world that meets S is kept; some operations have come up -/
def D (P : Program) (n : Nat) (ops : List Oper) (S : World → Prop) (ℓ : Nat) (Q : Exit → Fr → World → Prop) (fuel : Nat) (listed : Array Bool) (f : Fr) (w : World) : Prop :=
  ops.all (fitO n) = true → ∀ a, Rep n f a → wpAnyL P ops.toArray (lft n Q) S ℓ fuel listed a w
theorem J.draw {id : Nat} {l : List Oper} {S : World → Prop} {ℓ : Nat} (hm : P.follows .mixedOrders = true) (h : ∀ w1, Ext w w1 → w1.heap = w.heap → D P n l S ℓ Q l.length (Array.replicate l.length false) f w1) : J P n (.region id l.toArray true) Q f w := by
  intro hf a hr
  simp only [fitC] at hf
  refine wp_region_any hm (wpAny_of_L (S := S) (ℓ := ℓ) _ _ _ _ ?_)
  have := h w.drew (Ext.drew w) rfl hf a hr
  simpa using this
theorem D.done {S : World → Prop} {ℓ : Nat} {fuel : Nat} {listed : Array Bool} (hr : Region.ready .any ops.toArray listed = []) (h : Q .normal f w) : D P n ops S ℓ Q fuel listed f w :=
  fun _ _ hr' => wpAnyL_done hr ⟨f, hr', h⟩ fuel
/-- an operation that yields one value in every world that meets S, ahead of all others -/
theorem D.take {S : World → Prop} {ℓ : Nat} {fuel : Nat} {listed : Array Bool} (i : Nat) {o : Oper} (ho : ops[i]? = some o)
    (hb : (Region.noSelect ops.toArray && Region.free .any ops.toArray listed i && (Region.ready .any ops.toArray listed).contains i && late ops.toArray listed i ℓ) = true) (hQ : ∀ c f w, Q (.panic c) f w → False)
    (hg : wn ops f o.guard = true) (hx : ∀ w', S w' → (execOp (ev f) o).run P w' = .ok (.value v) w') (hS : S w) (h : D P n ops S ℓ Q fuel (listed.setIfInBounds i true) (putO f o.dst v) w) : D P n ops S ℓ Q (fuel + 1) listed f w := by
  intro hf a hr
  simp only [Bool.and_eq_true] at hb
  refine wpAnyL_take (i := i) (oi := o) (v := v) (by simpa using ho) hb.1.1.1 hb.1.1.2 hb.1.2 hb.2 ?_ (.inl ⟨by rw [wanted_eq hr]; exact hg, fun w' hw' => by rw [hr.eval]; exact hx w' hw'⟩) hS ?_
  · rintro c a w ⟨f', _, hq⟩
    exact absurd hq (hQ c f' w)
  · exact h hf _ (hr.put v (List.all_eq_true.1 hf o (List.mem_of_getElem? ho)))
theorem D.off {S : World → Prop} {ℓ : Nat} {fuel : Nat} {listed : Array Bool} (i : Nat) {o : Oper} (ho : ops[i]? = some o)
    (hb : (Region.noSelect ops.toArray && Region.free .any ops.toArray listed i && (Region.ready .any ops.toArray listed).contains i && late ops.toArray listed i ℓ) = true) (hQ : ∀ c f w, Q (.panic c) f w → False)
    (hg : wn ops f o.guard = false) (hS : S w) (h : D P n ops S ℓ Q fuel (listed.setIfInBounds i true) (putO f o.dst undef) w) : D P n ops S ℓ Q (fuel + 1) listed f w := by
  intro hf a hr
  simp only [Bool.and_eq_true] at hb
  refine wpAnyL_take (i := i) (oi := o) (v := undef) (by simpa using ho) hb.1.1.1 hb.1.1.2 hb.1.2 hb.2 ?_ (.inr ⟨by rw [wanted_eq hr]; exact hg, rfl⟩) hS ?_
  · rintro c a w ⟨f', _, hq⟩
    exact absurd hq (hQ c f' w)
  · exact h hf _ (hr.put undef (List.all_eq_true.1 hf o (List.mem_of_getElem? ho)))
theorem wp_mono2 {o : Oper} {a : Act} {w : World} {K K' : Act → World → Prop} {Q1 Q2 : Exit → Act → World → Prop} (hK : ∀ a w, K a w → K' a w) (hQ : ∀ e a w, e ≠ .normal → Q1 e a w → Q2 e a w) (h : o.wp P a w K Q1) : o.wp P a w K' Q2 := by
  unfold Oper.wp at *
  generalize (execOp a.eval o).run P w = r at *
  cases r with
  | ok n w' =>
    cases n <;> simp only [Oper.upon] at h ⊢ <;>
      first
        | exact hK _ _ h
        | exact Calls.mono h (fun e w'' he => by
            cases e
            case returned => exact hK _ _ he
            case panicked => exact hQ _ _ _ (by simp) he
            case outgrown => obtain ⟨a2, w2, h2⟩ := he; exact ⟨a2, w2, hQ _ _ _ (by simp) h2⟩)
        | exact Rows.mono h (fun _ _ he => hK _ _ he)
  | halt x w' => cases x <;> simp only [Oper.upon] at h ⊢ <;> first | exact hQ _ _ _ (by simp) h | exact h
/-- the same, the operation written out -/
theorem D.va {S : World → Prop} {ℓ : Nat} {fuel : Nat} {listed : Array Bool} (i : Nat) {k : Nat} {op : Op} (ho : ops[i]? = some ⟨some k, op, ty, pos, aft, g⟩)
    (hb : (Region.noSelect ops.toArray && Region.free .any ops.toArray listed i && (Region.ready .any ops.toArray listed).contains i && late ops.toArray listed i ℓ) = true) (hQ : ∀ c f w, Q (.panic c) f w → False)
    (hg : wn ops f g = true) (hx : ∀ w', S w' → (execOp (ev f) ⟨some k, op, ty, pos, aft, g⟩).run P w' = .ok (.value v) w') (hS : S w) (h : D P n ops S ℓ Q fuel (listed.setIfInBounds i true) (lk [(k, v)] f) w) : D P n ops S ℓ Q (fuel + 1) listed f w := D.take i ho hb hQ hg hx hS h
theorem D.no {S : World → Prop} {ℓ : Nat} {fuel : Nat} {listed : Array Bool} (i : Nat) {k : Nat} {op : Op} (ho : ops[i]? = some ⟨some k, op, ty, pos, aft, g⟩)
    (hb : (Region.noSelect ops.toArray && Region.free .any ops.toArray listed i && (Region.ready .any ops.toArray listed).contains i && late ops.toArray listed i ℓ) = true) (hQ : ∀ c f w, Q (.panic c) f w → False)
    (hg : wn ops f g = false) (hS : S w) (h : D P n ops S ℓ Q fuel (listed.setIfInBounds i true) (lk [(k, undef)] f) w) : D P n ops S ℓ Q (fuel + 1) listed f w := D.off i ho hb hQ hg hS h
/-- whichever of those that may come up -/
theorem D.all {S : World → Prop} {ℓ : Nat} {fuel : Nat} {listed : Array Bool} {rs : List Nat} (hr : Region.ready .any ops.toArray listed = rs) (hne : rs ≠ [])
    (h : ∀ i ∈ rs, ∃ o, ops[i]? = some o ∧ L P n ops (thn (fun f' w' => (i ≠ ℓ → S w') ∧ D P n ops S ℓ Q fuel (listed.setIfInBounds i true) f' w') Q) [o] f w) : D P n ops S ℓ Q (fuel + 1) listed f w := by
  intro hf a hr'
  refine wpAnyL_all hr hne fun i hi => ?_
  obtain ⟨o, ho, hl⟩ := h i hi
  have h1 := hl (by simp only [List.all_cons, List.all_nil, Bool.and_true]; exact List.all_eq_true.1 hf o (List.mem_of_getElem? ho)) a hr'
  unfold wpOp
  rw [show ops.toArray[i]? = some o by simpa using ho]
  simp only
  have mono : ∀ a' w', lft n (thn (fun f' w' => (i ≠ ℓ → S w') ∧ D P n ops S ℓ Q fuel (listed.setIfInBounds i true) f' w') Q) .normal a' w' → (i ≠ ℓ → S w') ∧ wpAnyL P ops.toArray (lft n Q) S ℓ fuel (listed.setIfInBounds i true) a' w' := by
    rintro a' w' ⟨f', hr2, hs, hd⟩
    exact ⟨hs, hd hf a' hr2⟩
  have monoQ : ∀ e a' w', e ≠ .normal → lft n (thn (fun f' w' => (i ≠ ℓ → S w') ∧ D P n ops S ℓ Q fuel (listed.setIfInBounds i true) f' w') Q) e a' w' → lft n Q e a' w' := by
    rintro e a' w' hne ⟨f', hr2, hq⟩
    refine ⟨f', hr2, ?_⟩
    cases e
    case normal => exact absurd rfl hne
    all_goals exact hq
  unfold wpList at h1
  by_cases hw : Region.wanted o (yielded ops.toArray a.tmps) = true
  · rw [if_pos hw] at h1 ⊢
    rcases h1 with h1 | ⟨h1, a2, w2, h2⟩
    · exact .inl (wp_mono2 mono monoQ h1)
    · exact .inr ⟨h1, a2, w2, monoQ _ _ _ (by simp) h2⟩
  · rw [if_neg hw] at h1 ⊢
    exact mono _ _ h1
theorem D.one {S : World → Prop} {ℓ : Nat} {fuel : Nat} {listed : Array Bool} (i : Nat) {o : Oper} (hr : Region.ready .any ops.toArray listed = [i]) (ho : ops[i]? = some o)
    (h : L P n ops (thn (fun f' w' => (i ≠ ℓ → S w') ∧ D P n ops S ℓ Q fuel (listed.setIfInBounds i true) f' w') Q) [o] f w) : D P n ops S ℓ Q (fuel + 1) listed f w :=
  D.all hr (by simp) (fun j hj => by
    obtain rfl : j = i := by simpa using hj
    exact ⟨o, ho, h⟩)
theorem D.two {S : World → Prop} {ℓ : Nat} {fuel : Nat} {listed : Array Bool} (i j : Nat) {o o' : Oper} (hr : Region.ready .any ops.toArray listed = [i, j]) (ho : ops[i]? = some o) (ho' : ops[j]? = some o')
    (h : L P n ops (thn (fun f' w' => (i ≠ ℓ → S w') ∧ D P n ops S ℓ Q fuel (listed.setIfInBounds i true) f' w') Q) [o] f w)
    (h' : L P n ops (thn (fun f' w' => (j ≠ ℓ → S w') ∧ D P n ops S ℓ Q fuel (listed.setIfInBounds j true) f' w') Q) [o'] f w) : D P n ops S ℓ Q (fuel + 1) listed f w :=
  D.all hr (by simp) (fun k hk => by
    have : k = i ∨ k = j := by simpa using hk
    rcases this with rfl | rfl
    · exact ⟨o, ho, h⟩
    · exact ⟨o', ho', h'⟩)
theorem D.three {S : World → Prop} {ℓ : Nat} {fuel : Nat} {listed : Array Bool} (i j k : Nat) {o o' o'' : Oper} (hr : Region.ready .any ops.toArray listed = [i, j, k]) (ho : ops[i]? = some o) (ho' : ops[j]? = some o') (ho'' : ops[k]? = some o'')
    (h : L P n ops (thn (fun f' w' => (i ≠ ℓ → S w') ∧ D P n ops S ℓ Q fuel (listed.setIfInBounds i true) f' w') Q) [o] f w)
    (h' : L P n ops (thn (fun f' w' => (j ≠ ℓ → S w') ∧ D P n ops S ℓ Q fuel (listed.setIfInBounds j true) f' w') Q) [o'] f w)
    (h'' : L P n ops (thn (fun f' w' => (k ≠ ℓ → S w') ∧ D P n ops S ℓ Q fuel (listed.setIfInBounds k true) f' w') Q) [o''] f w) : D P n ops S ℓ Q (fuel + 1) listed f w :=
  D.all hr (by simp) (fun q hq => by
    have : q = i ∨ q = j ∨ q = k := by simpa using hq
    rcases this with rfl | rfl | rfl
    · exact ⟨o, ho, h⟩
    · exact ⟨o', ho', h'⟩
    · exact ⟨o'', ho'', h''⟩)
/-! ### the way in and out -/
def args (l : List Value) : Nat → List (Nat × Value) := fun i => (List.range' i l.length).zip l
def resF (rs : Array ResultVar) (f : Fr) : Sem Value := do
  let vs ← rs.mapM fun
    | .tmp t => pure (f t)
    | .cell a t => do loadVar t (← asAddr (f a))
  pure (if h : vs.size = 1 then vs[0] else .tuple vs)
theorem results_eq {fn : Func} {a : Act} (hr : Rep n f a) : results fn a.tmps = resF fn.results f := by
  unfold results resF
  have : (fun t => a.tmps.getD t undef) = f := funext hr.get
  congr 1
  congr 1
  funext r
  cases r with
  | tmp t => simp only [hr.get]
  | cell c t => simp only [hr.get]
/-- how a function's body ends -/
def fin (P : Program) (rs : Array ResultVar) (R : Ending → World → Prop) : Exit → Fr → World → Prop
  | .normal, f, w => ∃ v, (resF rs f).run P w = .ok v w ∧ R (.returned v) w
  | .ret, f, w => ∃ v, (resF rs f).run P w = .ok v w ∧ R (.returned v) w
  | _, _, _ => False
theorem enter {id : FuncId} {fn : Func} {c : Code} {l : List Value} {R : Ending → World → Prop} (hf : P.funcs[id]? = some fn) (hb : fn.body = some c) (hk : (fitC fn.ntmps c && Nat.ble l.length fn.ntmps) = true)
    (h : J P fn.ntmps c (fin P fn.results R) (lk (args l 0) fun _ => undef) w) : Calls P id l.toArray w R := by
  simp only [Bool.and_eq_true] at hk
  have hle : l.length ≤ fn.ntmps := by simpa using hk.2
  refine calls_of_wp hf hb (wp_mono (h hk.1 _ ⟨by simp; omega, rfl, ?_⟩) ?_)
  · intro j
    have key : ∀ (l : List Value) (i j : Nat), lk ((List.range' i l.length).zip l) (fun _ => undef) j = if i ≤ j then l.getD (j - i) undef else undef := by
      intro l
      induction l with
      | nil => intro i j; simp [lk]
      | cons a l ih =>
        intro i j
        simp only [List.length_cons, List.range'_succ, List.zip_cons_cons, lk]
        rw [ih (i + 1) j]
        cases hb : Nat.beq j i with
        | true =>
          have := Nat.eq_of_beq_eq_true hb
          subst this
          simp
        | false =>
          have hne : j ≠ i := fun e => by subst e; rw [Nat.beq_refl] at hb; cases hb
          by_cases hij : i + 1 ≤ j
          · rw [if_pos hij, if_pos (by omega), show j - i = (j - (i + 1)) + 1 by omega]
            simp
          · rw [if_neg hij, if_neg (by omega)]
            rfl
    show (l.toArray ++ Array.replicate (fn.ntmps - l.toArray.size) undef).getD j undef = _
    unfold args
    rw [key l 0 j, if_pos (Nat.zero_le _), Nat.sub_zero, Array.getD_eq_getD_getElem?, Array.getElem?_append]
    by_cases hj : j < l.length
    · simp [hj, List.getD]
    · simp only [List.size_toArray, hj, if_false, List.getD, List.getElem?_eq_none (Nat.le_of_not_lt hj)]
      rw [Array.getElem?_replicate]
      split <;> rfl
  · rintro e a' w' ⟨f', hr, hq⟩
    cases e <;> simp only [fin] at hq <;> first
      | (obtain ⟨v, hv, hR⟩ := hq
         exact ⟨hr.defers, v, by rw [results_eq hr]; exact hv, hR⟩)
      | exact hq.elim
theorem thn_ret {K : Fr → World → Prop} (h : Q .ret f w) : thn K Q .ret f w := h
theorem inB_ret {id : Nat} (h : Q .ret f w) : inB id Q .ret f w := h
theorem fin1 {R : Ending → World → Prop} {k : Tmp} (h : R (.returned (f k)) w) : fin P #[.tmp k] R .ret f w := ⟨f k, by simp [resF], h⟩
theorem fin2 {R : Ending → World → Prop} {k1 k2 : Tmp} (h : R (.returned (.tuple #[f k1, f k2])) w) : fin P #[.tmp k1, .tmp k2] R .ret f w := ⟨_, by simp [resF], h⟩
theorem fin3 {R : Ending → World → Prop} {k1 k2 k3 : Tmp} (h : R (.returned (.tuple #[f k1, f k2, f k3])) w) : fin P #[.tmp k1, .tmp k2, .tmp k3] R .ret f w := ⟨_, by simp [resF], h⟩
theorem fin0 {R : Ending → World → Prop} {e : Exit} (he : e = .ret ∨ e = .normal) (h : R (.returned (.tuple #[])) w) : fin P #[] R e f w := by
  rcases he with rfl | rfl <;> exact ⟨_, by simp [resF], h⟩
end
end Go.Proofs.Ytdmfikedojgjbaa.H
