import Derived.Test.YtlipeplfjkgamaaProg
import Derived.WalkKit
import Derived.WalkSpells
import Derived.WalkLawsBesides
import Derived.Lib.Hide
import Derived.Below
import Derived.Laws.OwnMore
import Derived.Deep.AppendLies
import Derived.Deep.Draws
import Derived.Maps.AppendAt
import Derived.RegionTactic
import Derived.OwnWalk
import Derived.Laws.Rows
import Derived.Deep.QuietTactic
import Derived.Deep.OwnRows
import Derived.Laws.AppendOwn
import Derived.Laws.MakeOwn
import Derived.Laws.Entries
import Derived.LaidEqlPtr
import Derived.Laws.BitsAllLaws
import Derived.Laws.BitsLemmas
import Derived.Tactics
import Derived.ProofKit
import Derived.OpenShut
import Derived.BigQuiet
import Derived.Laws.BytesArg
import Derived.Lib.Strings
/-
  Small words for memory that all texts of this seat use: a slice that reads as a list (nil let in), a block that is known whole, hidden facts.
-/
namespace Go.Proofs.Ytlipeplfjkgamaa
open Go.RowKit

theorem ret_int {k : IntKind} {a b : Int} (h : a = b) : Ending.returned (.int k a) = .returned (.int k b) := by rw [h]
theorem block_of_add (a : Addr) (n : Nat) : (a.add n).block = a.block := by unfold Addr.add; split <;> rfl
theorem add_of_add (a : Addr) (i j : Nat) : (a.add i).add j = a.add (i + j) := by
  unfold Addr.add
  by_cases hi : i = 0 <;> by_cases hj : j = 0 <;> simp [hi, hj, Nat.add_assoc]

/-- The slice value '.slice A n c' holds the cells xs, all of them below block B. -/
def Reads (w : World) (B size : Nat) (A : Option Addr) (n : Nat) (xs : List Value) : Prop :=
  xs.length = n * size ∧ (0 < n → ∃ ad, A = some ad ∧ ad.block < B ∧ ∀ j u, xs[j]? = some u → w.cell? (ad.add j) = some u)

section
variable {w w' : World} {B B' size n : Nat} {A : Option Addr} {xs : List Value}
theorem Reads.none_ : Reads w B size A 0 [] := ⟨by simp, fun h => absurd h (by omega)⟩
theorem Reads.at_ {k : Nat} (h : Reads w B 1 A n xs) (hk : k < n) : ∃ b off u, A = some ⟨b, off, none⟩ ∧ b < B ∧ xs[k]? = some u ∧ w.cell? ⟨b, off + k, none⟩ = some u := by
  obtain ⟨ad, e, hb, hc⟩ := h.2 (by omega)
  have hl : k < xs.length := by have := h.1; omega
  have hcell := hc k _ (List.getElem?_eq_getElem hl)
  obtain ⟨b, off, spot⟩ := ad
  have h0 := hc 0 _ (List.getElem?_eq_getElem (by omega))
  have hs : spot = none := by simpa [Addr.add] using World.cell?_spot h0
  subst hs
  refine ⟨b, off, xs[k], e, hb, List.getElem?_eq_getElem hl, ?_⟩
  by_cases h : k = 0
  · subst h; simpa [Addr.add] using hcell
  · simpa [Addr.add, h] using hcell
theorem Reads.keep (h : Reads w B size A n xs) (hk : ∀ p : Addr, p.block < B → w'.cell? p = w.cell? p) : Reads w' B size A n xs :=
  ⟨h.1, fun hn => by
    obtain ⟨ad, e, hb, hc⟩ := h.2 hn
    exact ⟨ad, e, hb, fun j u hu => (hk _ (by rw [block_of_add]; exact hb)).trans (hc j u hu)⟩⟩
theorem Reads.more (h : Reads w B size A n xs) (hB : B ≤ B') : Reads w B' size A n xs :=
  ⟨h.1, fun hn => by
    obtain ⟨ad, e, hb, hc⟩ := h.2 hn
    exact ⟨ad, e, by omega, hc⟩⟩
theorem Reads.below (h : Reads w B size A n xs) (hb : Below B w w') : Reads w' B size A n xs := h.keep fun _ hp => hb.cell hp
theorem Reads.drew (h : Reads w B size A n xs) : Reads w.drew B size A n xs := h
theorem Reads.drewN (h : Reads w B size A n xs) (k : Nat) : Reads (w.drewN k) B size A n xs := h
theorem Reads.alloc (h : Reads w B size A n xs) (hB : B ≤ w.heap.size) (o : Obj) : Reads (w.alloc o) B size A n xs := h.keep fun p hp => World.cell?_alloc_lt w o p (by omega)
theorem Reads.setCell (h : Reads w B size A n xs) {p : Addr} (hB : B ≤ p.block) (u : Value) : Reads (w.setCell p u) B size A n xs :=
  h.keep fun q hq => World.cell?_setCell_other w p q u (fun e => by subst e; omega)
theorem Reads.grown (h : Reads w B size A n xs) {row : Option Nat} (hg : w.grownBy w' row) (hB : B ≤ w.heap.size) (hr : ∀ g, row = some g → B ≤ g) : Reads w' B size A n xs :=
  h.keep fun p hp => World.cell?_of_block (hg.block p.block (by omega) (fun e => by have := hr _ e.symm; omega))
theorem Reads.cut (h : Reads w B size A n xs) {k cap : Nat} (hk : k ≤ n) (hc : n ≤ cap) :
    Reads w B size (if cap = k then A else A.map (·.add (k * size))) (n - k) (xs.drop (k * size)) := by
  refine ⟨by rw [List.length_drop, h.1, Nat.sub_mul], fun hn => ?_⟩
  obtain ⟨ad, rfl, hb, hcell⟩ := h.2 (by omega)
  rw [if_neg (by omega)]
  refine ⟨ad.add (k * size), rfl, by rw [block_of_add]; exact hb, fun j u hu => ?_⟩
  rw [add_of_add]
  exact hcell _ u (by rw [← hu, List.getElem?_drop])
theorem Reads.first (h : Reads w B size A n xs) {k : Nat} (hk : k ≤ n) : Reads w B size A k (xs.take (k * size)) := by
  refine ⟨by rw [List.length_take, h.1]; exact Nat.min_eq_left (Nat.mul_le_mul_right _ hk), fun hn => ?_⟩
  obtain ⟨ad, rfl, hb, hcell⟩ := h.2 (by omega)
  refine ⟨ad, rfl, hb, fun j u hu => hcell j u ?_⟩
  rw [List.getElem?_take] at hu
  split at hu
  · exact hu
  · cases hu
theorem Reads.of_own {base : Nat} {e : TypeId} {c : Nat} (h : w.ownsRow base e size (.slice A n c) n xs) : Reads w w.heap.size size A n xs := by
  refine ⟨h.1, fun hn => ?_⟩
  obtain ⟨g, cap, hv, _, hlt⟩ := h.form hn
  have hA : A = some ⟨g, 0, none⟩ := by injection hv
  subst hA
  exact ⟨_, rfl, hlt, h.cells (g := g) rfl⟩
end
theorem cell_new (w : World) (cs : Array Value) (t : TypeId) (m : Nat × Nat) (i : Nat) : (w.alloc (.cells cs t m)).cell? ⟨w.heap.size, i, none⟩ = cs[i]? := by
  have : (w.alloc (.cells cs t m)).heap[w.heap.size]? = some (.cells cs t m) := by
    show (w.heap.push _)[w.heap.size]? = _
    simp
  simp only [World.cell?]; rw [this]; rfl
/-- a new block of cells, read from its head on -/
theorem Reads.new (w : World) (l : List Value) (t : TypeId) (m : Nat × Nat) (n : Nat) (hn : n = l.length) : Reads (w.alloc (.cells l.toArray t m)) (w.heap.size + 1) 1 (some ⟨w.heap.size, 0, none⟩) n l := by
  subst hn
  refine ⟨by simp, fun _ => ⟨_, rfl, by simp, fun j u hu => ?_⟩⟩
  have e : (⟨w.heap.size, 0, none⟩ : Addr).add j = ⟨w.heap.size, j, none⟩ := by unfold Addr.add; split <;> simp_all
  rw [e, cell_new]
  simpa using hu
/-- bytes, or other numbers of a kind, as values -/
def nums (k : IntKind) (zs : List Int) : List Value := zs.map (Value.int k)
theorem nums_at {k : IntKind} {zs : List Int} {i : Nat} {u : Value} (h : (nums k zs)[i]? = some u) : ∃ z, zs[i]? = some z ∧ u = .int k z := by
  unfold nums at h
  rw [List.getElem?_map] at h
  cases hz : zs[i]? with
  | none => rw [hz] at h; cases h
  | some z => rw [hz] at h; injection h with h; exact ⟨z, rfl, h.symm⟩
theorem nums_length (k : IntKind) (zs : List Int) : (nums k zs).length = zs.length := by simp [nums]
theorem bcell {W w1 : World} (hb : Below W.heap.size W w1) : (∀ b o, b < W.heap.size → w1.cell? ⟨b, o, none⟩ = W.cell? ⟨b, o, none⟩) ∧ (∀ b o, b < W.heap.size → w1.frozen? ⟨b, o, none⟩ = W.frozen? ⟨b, o, none⟩) :=
  ⟨fun b o h => hb.cell (p := ⟨b, o, none⟩) h, fun b o h => hb.frozen (p := ⟨b, o, none⟩) h⟩
theorem below_drewN {B : Nat} {a w : World} (h : Below B a w) (n : Nat) : Below B a (w.drewN n) := ⟨h.os, h.tape, h.output, h.size, h.block⟩
end Go.Proofs.Ytlipeplfjkgamaa
/-
  Small words for memory, as the guide's page gives them to copy: a block known whole, an append onto a row of the call's own, quiet regions, more results, frames, a make, bits of int64.
-/
namespace Go.Proofs.Ytlipeplfjkgamaa
open Go.RowKit
def Blk (w : World) (g : Nat) (t : TypeId) (cs : Array Value) : Prop := w.heap[g]? = some (.cells cs t (0, 0))

section
variable {w w' : World} {g : Nat} {t : TypeId} {cs : Array Value}
theorem Blk.lt (h : Blk w g t cs) : g < w.heap.size := by
  rcases Nat.lt_or_ge g w.heap.size with hlt | hge
  · exact hlt
  · unfold Blk at h; rw [Array.getElem?_eq_none hge] at h; cases h
theorem Blk.cell (h : Blk w g t cs) (i : Nat) : w.cell? ⟨g, i, none⟩ = cs[i]? := cell_of_row w g i cs t (0, 0) h
theorem Blk.frozen (h : Blk w g t cs) (i : Nat) : w.frozen? ⟨g, i, none⟩ = false := by
  unfold Blk at h
  simp [World.frozen?, h]
theorem Blk.new (w : World) (t : TypeId) (cs : Array Value) : Blk (w.alloc (.cells cs t)) w.heap.size t cs := heap_alloc_new w _
theorem Blk.drew (h : Blk w g t cs) : Blk w.drew g t cs := h
theorem Blk.drewN (h : Blk w g t cs) (n : Nat) : Blk (w.drewN n) g t cs := h
theorem Blk.alloc (h : Blk w g t cs) (o : Obj) : Blk (w.alloc o) g t cs := (Below.heap_alloc w o g h.lt).trans h
theorem Blk.set_ (h : Blk w g t cs) (i : Nat) (u : Value) : Blk (w.setCell ⟨g, i, none⟩ u) g t (cs.setIfInBounds i u) := by
  unfold Blk at h ⊢
  simp [World.setCell, Array.getElem?_modify, h]
theorem Blk.far (h : Blk w g t cs) {p : Addr} (hp : g ≠ p.block) (u : Value) : Blk (w.setCell p u) g t cs := (Below.heap_setCell w p u g hp).trans h
theorem Blk.below {B : Nat} (h : Blk w g t cs) (hb : Below B w w') (hg : g < B) : Blk w' g t cs := (hb.block g hg).trans h
theorem Blk.grown {row : Option Nat} (h : Blk w g t cs) (hb : w.grownBy w' row) (hg : some g ≠ row) : Blk w' g t cs := (hb.block g h.lt hg).trans h
theorem Blk.ne_ {g' : Nat} {t' : TypeId} {cs' : Array Value} (h : Blk w g t cs) (h' : Blk w g' t' cs') (hne : t ≠ t') : g ≠ g' := by
  rintro rfl
  unfold Blk at h h'
  rw [h] at h'
  injection h' with h'
  injection h' with _ ht
  exact hne ht
theorem own_blk_ne {base : Nat} {e : TypeId} {size n : Nat} {v : Value} {xs : List Value} (h : w.ownsRow base e size v n xs) (hg : Blk w g t cs) (hne : e ≠ t) : v.ownBlock ≠ some g := by
  rcases h.2 with ⟨rfl, _⟩ | ⟨g', cap, cur, rfl, _, hh, _⟩
  · simp [Value.ownBlock]
  · intro he
    have : g' = g := by simpa [Value.ownBlock] using he
    subst this
    exact Blk.ne_ (t := e) hh hg hne rfl
end
section
variable {P : Program} (w : World)

theorem run_append_of_nil (base : Nat) (t ty e : TypeId) (i : TypeInfo) (size : Nat) (ht : P.underlying t = some (.slice e)) (hi : P.info? e = some i)
    (v : Value) (n : Nat) (xs : List Value) (hown : w.ownsRow base e size v n xs) (c : Nat) : (Builtin.append_ #[t, t] ty #[v, .slice none 0 c]).run P w = .ok v w := by
  rcases hown.2 with ⟨rfl, rfl⟩ | ⟨g, cap, cur, rfl, _, _, hnc, _⟩
  · simp [Builtin.append_, run_underlying ht, sizeOf, typeInfo, hi, Builtin.lenOf, Builtin.firstCells]
  · simp [Builtin.append_, run_underlying ht, sizeOf, typeInfo, hi, Builtin.lenOf, Builtin.firstCells, hnc, storeCells]

theorem run_append_any (base : Nat) (t ty e : TypeId) (i : TypeInfo) (z : Value) (size bytes : Nat) (ht : P.underlying t = some (.slice e)) (hi : P.info? e = some i) (hz : i.zero = some z)
    (hsize : i.size = size) (hby : i.bytes = bytes) (hzs : z.cells.size = size) (hsz : 0 < size)
    (v : Value) (n : Nat) (xs : List Value) (hown : w.ownsRow base e size v n xs)
    (B : Nat) (A : Option Addr) (m c : Nat) (news : List Value) (hr : Reads w B size A m news) (h1 : ∀ u ∈ news, u.oneCell' = true)
    (h63 : n + m ≤ maxLen) (hbytes : (n + m) * bytes ≤ 140737488355328) (hbase : base ≤ w.heap.size) :
    ∃ v' w', (Builtin.append_ #[t, t] ty #[v, .slice A m c]).run P w = .ok v' w' ∧ w'.ownsRow base e size v' (n + m) (xs ++ news) ∧ w.grownBy w' v.ownBlock ∧
      (v'.ownBlock = v.ownBlock ∨ v'.ownBlock = some w.heap.size) := by
  rcases A with _ | ad
  · have hm : m = 0 := by
      rcases Nat.eq_zero_or_pos m with h0 | h0
      · exact h0
      · obtain ⟨ad, h, _⟩ := hr.2 h0
        cases h
    subst hm
    have hn : news = [] := List.eq_nil_of_length_eq_zero (by simpa using hr.1)
    subst hn
    exact ⟨v, w, run_append_of_nil w base t ty e i size ht hi v n xs hown c, by simpa using hown, World.grownBy.refl w _, .inl rfl⟩
  · have hcells : ∀ j u, news[j]? = some u → w.cell? (ad.add j) = some u := by
      intro j u hu
      rcases Nat.eq_zero_or_pos m with h0 | h0
      · subst h0
        have hn : news = [] := List.eq_nil_of_length_eq_zero (by simpa using hr.1)
        subst hn
        simp at hu
      · obtain ⟨ad', h, _, hc⟩ := hr.2 h0
        injection h with h
        subst h
        exact hc j u hu
    obtain ⟨v', w', hrun, h2, h3, _, h5⟩ := run_append_own_at (P := P) w base t ty e i z size bytes ht hi hz hsize hby hzs hsz v n xs hown ad m c news hr.1 hcells h1 h63 hbytes hbase
    exact ⟨v', w', hrun, h2, h3, h5⟩

theorem wp_append_any {o : Oper} {a : Act} {K : Act → World → Prop} {Q : Exit → Act → World → Prop} (s x : Operand) (t : TypeId)
    (ho : o.op = .call { callee := .builtin .append, args := #[s, x], argTypes := #[t, t] })
    (base : Nat) (e : TypeId) (i : TypeInfo) (z : Value) (size bytes : Nat) (ht : P.underlying t = some (.slice e)) (hi : P.info? e = some i) (hz : i.zero = some z)
    (hsize : i.size = size) (hby : i.bytes = bytes) (hzs : z.cells.size = size) (hsz : 0 < size)
    (v : Value) (n : Nat) (xs : List Value) (hs : a.eval s = v) (hown : w.ownsRow base e size v n xs)
    (B : Nat) (A : Option Addr) (m c : Nat) (news : List Value) (hx : a.eval x = .slice A m c) (hr : Reads w B size A m news) (h1 : ∀ u ∈ news, u.oneCell' = true)
    (h63 : n + m ≤ maxLen) (hbytes : (n + m) * bytes ≤ 140737488355328) (hbase : base ≤ w.heap.size)
    (h : ∀ v' w', w'.ownsRow base e size v' (n + m) (xs ++ news) → w.grownBy w' v.ownBlock → (v'.ownBlock = v.ownBlock ∨ v'.ownBlock = some w.heap.size) → K (a.put o.dst v') w') : o.wp P a w K Q := by
  obtain ⟨v', w', hrun, h2, h3, h4⟩ := run_append_any (P := P) w base t o.type e i z size bytes ht hi hz hsize hby hzs hsz v n xs hown B A m c news hr h1 h63 hbytes hbase
  unfold Oper.wp execOp
  simp only [ho, resolve, invoke, builtin, Sem.run_bind, Sem.run_pure, Result.andThen_ok, List.map_toArray, List.map_cons, List.map_nil, hs, hx, hrun]
  exact h v' w' h2 h3 h4

theorem wpList_append_any {ops : Array Oper} {rest : List Oper} {o : Oper} {a : Act} {Q : Exit → Act → World → Prop} (hgd : o.guard = none) (s x : Operand) (t : TypeId)
    (ho : o.op = .call { callee := .builtin .append, args := #[s, x], argTypes := #[t, t] })
    (base : Nat) (e : TypeId) (i : TypeInfo) (z : Value) (size bytes : Nat) (ht : P.underlying t = some (.slice e)) (hi : P.info? e = some i) (hz : i.zero = some z)
    (hsize : i.size = size) (hby : i.bytes = bytes) (hzs : z.cells.size = size) (hsz : 0 < size)
    (v : Value) (n : Nat) (xs : List Value) (hs : a.eval s = v) (hown : w.ownsRow base e size v n xs)
    (B : Nat) (A : Option Addr) (m c : Nat) (news : List Value) (hx : a.eval x = .slice A m c) (hr : Reads w B size A m news) (h1 : ∀ u ∈ news, u.oneCell' = true)
    (h63 : n + m ≤ maxLen) (hbytes : (n + m) * bytes ≤ 140737488355328) (hbase : base ≤ w.heap.size)
    (h : ∀ v' w', w'.ownsRow base e size v' (n + m) (xs ++ news) → w.grownBy w' v.ownBlock → (v'.ownBlock = v.ownBlock ∨ v'.ownBlock = some w.heap.size) → wpList P ops Q rest (a.put o.dst v') w') : wpList P ops Q (o :: rest) a w :=
  wpList_plain hgd fun _ hK => wp_append_any w s x t ho base e i z size bytes ht hi hz hsize hby hzs hsz v n xs hs hown B A m c news hx hr h1 h63 hbytes hbase fun v' w' h2 h3 h4 => hK _ _ (h v' w' h2 h3 h4)

theorem step_append_any {ops : Array Oper} {o : Oper} {a : Act} {K : Act → World → Prop} {Q : Exit → Act → World → Prop} {E : Prop} (hgd : o.guard = none) (s x : Operand) (t : TypeId)
    (ho : o.op = .call { callee := .builtin .append, args := #[s, x], argTypes := #[t, t] })
    (base : Nat) (e : TypeId) (i : TypeInfo) (z : Value) (size bytes : Nat) (ht : P.underlying t = some (.slice e)) (hi : P.info? e = some i) (hz : i.zero = some z)
    (hsize : i.size = size) (hby : i.bytes = bytes) (hzs : z.cells.size = size) (hsz : 0 < size)
    (v : Value) (n : Nat) (xs : List Value) (hs : a.eval s = v) (hown : w.ownsRow base e size v n xs)
    (B : Nat) (A : Option Addr) (m c : Nat) (news : List Value) (hx : a.eval x = .slice A m c) (hr : Reads w B size A m news) (h1 : ∀ u ∈ news, u.oneCell' = true)
    (h63 : n + m ≤ maxLen) (hbytes : (n + m) * bytes ≤ 140737488355328) (hbase : base ≤ w.heap.size)
    (h : ∀ v' w', w'.ownsRow base e size v' (n + m) (xs ++ news) → w.grownBy w' v.ownBlock → (v'.ownBlock = v.ownBlock ∨ v'.ownBlock = some w.heap.size) → K (a.put o.dst v') w') :
    if Region.wanted o (yielded ops a.tmps) = true then Oper.wp P o a w K Q else E := by
  have hw : Region.wanted o (yielded ops a.tmps) = true := by simp [Region.wanted, hgd]
  rw [if_pos hw]
  exact wp_append_any w s x t ho base e i z size bytes ht hi hz hsize hby hzs hsz v n xs hs hown B A m c news hx hr h1 h63 hbytes hbase h
end
theorem quiet_add {P : Program} {f : FuncId} {args : Array Value} {w : World} {a n : Nat} {v : Value}
    (h : Calls P f args (w.drewN (a + n)) fun e w' => e = .returned v ∧ ∃ m, w' = (w.drewN (a + n)).drewN m) :
    Calls P f args (w.drewN (a + n)) fun e w'' => e = .returned v ∧ ∃ m, w'' = w.drewN (a + m) :=
  h.mono fun _ _ ⟨he, m, hm⟩ => ⟨he, n + m, by rw [hm, World.drewN_drewN, Nat.add_assoc]⟩
theorem quiet_add_same {P : Program} {f : FuncId} {args : Array Value} {w : World} {a n : Nat} {v : Value}
    (h : Calls P f args (w.drewN (a + n)) fun e w' => e = .returned v ∧ w' = w.drewN (a + n)) :
    Calls P f args (w.drewN (a + n)) fun e w'' => e = .returned v ∧ ∃ m, w'' = w.drewN (a + m) :=
  h.mono fun _ _ ⟨he, hm⟩ => ⟨he, n, hm⟩
theorem quiet_add_left {P : Program} {f : FuncId} {args : Array Value} {w : World} {a n : Nat} {v : Value}
    (h : Calls P f args (w.drewN (a + n)) fun e w' => e = .returned v ∧ w.drewN (a + n) = w') :
    Calls P f args (w.drewN (a + n)) fun e w'' => e = .returned v ∧ ∃ m, w'' = w.drewN (a + m) :=
  h.mono fun _ _ ⟨he, hm⟩ => ⟨he, n, hm.symm⟩
theorem quiet_left {P : Program} {f : FuncId} {args : Array Value} {w : World} {n : Nat} {v : Value}
    (h : Calls P f args (w.drewN n) fun e w' => e = .returned v ∧ w.drewN n = w') : Calls P f args (w.drewN n) fun e w'' => e = .returned v ∧ ∃ m, w'' = w.drewN m :=
  h.mono fun _ _ ⟨he, hm⟩ => ⟨he, n, hm.symm⟩
theorem results_tmp4 {fn : Func} {t u v x : Tmp} (h : fn.results = #[.tmp t, .tmp u, .tmp v, .tmp x]) (tmps : Array Value) (P : Program) (w : World) :
    (results fn tmps).run P w = .ok (.tuple #[tmps.getD t undef, tmps.getD u undef, tmps.getD v undef, tmps.getD x undef]) w := by simp [results, h]
theorem results_tmp5 {fn : Func} {t u v x y : Tmp} (h : fn.results = #[.tmp t, .tmp u, .tmp v, .tmp x, .tmp y]) (tmps : Array Value) (P : Program) (w : World) :
    (results fn tmps).run P w = .ok (.tuple #[tmps.getD t undef, tmps.getD u undef, tmps.getD v undef, tmps.getD x undef, tmps.getD y undef]) w := by simp [results, h]
theorem rowIs_drewN {w : World} {b : Nat} {t : TypeId} {n : Nat} {f : Nat → Value} (h : w.rowIs b t n f) (k : Nat) : (w.drewN k).rowIs b t n f := h
theorem grown_trans {a b c : World} (h : Grown a b) (k : Grown b c) : Grown a c :=
  ⟨World.keptBut_trans h.1 k.1, fun x => (k.2.1 x).trans (h.2.1 x), Nat.le_trans h.2.2 k.2.2⟩

theorem only_drewN {a w : World} {row : Option Nat} (h : a.grownBy w row) (n : Nat) : a.grownBy (w.drewN n) row := ⟨h.os, h.tape, h.output, h.size, h.block⟩
theorem only_drew {a w : World} {row : Option Nat} (h : a.grownBy w row) : a.grownBy w.drew row := ⟨h.os, h.tape, h.output, h.size, h.block⟩
theorem only_alloc {a w : World} {row : Option Nat} (h : a.grownBy w row) (o : Obj) : a.grownBy (w.alloc o) row :=
  ⟨h.os, h.tape, h.output, Nat.le_trans h.size (by simp), fun i hi hne => (Below.heap_alloc w o i (Nat.lt_of_lt_of_le hi h.size)).trans (h.block i hi hne)⟩
theorem only_setCell {a w : World} {g : Nat} (h : a.grownBy w (some g)) {p : Addr} (hp : p.block = g ∨ a.heap.size ≤ p.block) (u : Value) : a.grownBy (w.setCell p u) (some g) :=
  ⟨h.os, h.tape, h.output, by simpa [World.setCell] using h.size, fun i hi hne => (Below.heap_setCell w p u i (by
    rintro rfl
    rcases hp with hp | hp
    · exact hne (by rw [hp])
    · omega)).trans (h.block i hi hne)⟩
theorem only_of_below {a w : World} (h : Below a.heap.size a w) (row : Option Nat) : a.grownBy w row := ⟨h.os, h.tape, h.output, h.size, fun i hi _ => h.block i hi⟩
theorem run_store_float (P : Program) (w : World) (a : Addr) (m : Mode) (k : FloatKind) (b : Nat) : (store a (.float k b) m).run P w = stored P w a (.float k b) m := run_store P w a _ m rfl
theorem run_store_complex (P : Program) (w : World) (a : Addr) (m : Mode) (k : FloatKind) (x y : Nat) : (store a (.complex k x y) m).run P w = stored P w a (.complex k x y) m := run_store P w a _ m rfl
theorem run_make_rowN {P : Program} (t e : TypeId) (i : TypeInfo) (z : Value) (ht : P.underlying t = some (.slice e)) (hi : P.info? e = some i) (hz : i.zero = some z)
    (kl kc : IntKind) (n c : Nat) (hnc : n ≤ c) (hbytes : i.bytes * c ≤ 281474976710656) (h63 : c ≤ 9223372036854775807) (w : World) :
    (Instr.makeSlice t (.int kl (n : Int)) (.int kc (c : Int))).run P w = .ok (.slice (some ⟨w.heap.size, 0, none⟩) n c) (w.alloc (.cells (madeCells z.cells (c * i.size)) e)) := by
  have hb : (i.bytes : Int) * (c : Int) ≤ 281474976710656 := by
    have h : ((i.bytes * c : Nat) : Int) ≤ 281474976710656 := by omega
    rwa [Int.natCast_mul] at h
  have hr := run_make (P := P) w t e i z ht hi hz kl kc n c (by omega) (by omega) hb (by omega)
  simp only [Int.toNat_natCast] at hr
  exact hr
theorem run_makeMap_hint {P : Program} (t k e : TypeId) (kd : IntKind) (n : Int) (ht : P.underlying t = some (.map k e)) (w : World) :
    (Instr.makeMap t (some (.int kd n))).run P w = .ok (.map (some w.heap.size)) (w.alloc (.map #[] 0)) := by
  simp [Instr.makeMap, run_underlying ht]; rfl
theorem run_neq_ptr_other {P : Program} (w : World) {tp te : TypeId} {j : TypeInfo} {a b : Addr} {ca cb : Array Value} {ta tb : TypeId} (hp : P.underlying tp = some (.pointer te)) (hte : P.info? te = some j) (hsz : j.size ≠ 0)
    (hne : a ≠ b) (ha : w.heap[a.block]? = some (.cells ca ta (0, 0))) (hb : w.heap[b.block]? = some (.cells cb tb (0, 0))) :
    (binOp .neq tp (.pointer (some a)) (.pointer (some b))).run P w = .ok (.bool true) w := by
  have h : ∀ d : Nat, (Op.equalIn (d + 1) tp (.pointer (some a)) (.pointer (some b))).run P w = .ok false w := fun d => by
    simp [Op.equalIn, run_underlying hp, sizeOf, typeInfo, hte, hsz, run_sameAddr_other w hne ha hb]
  simp only [binOp]
  simp [Op.equal, Op.maxDepth, h 9999]
theorem ofInt_i64 (a : Nat) (ha : a < 9223372036854775808) : (BitVec.ofInt 64 (a : Int)).toNat = a := by
  rw [BitVec.ofInt_natCast, BitVec.toNat_ofNat]; exact Nat.mod_eq_of_lt (by omega)
theorem i64_and_nat (a b : Nat) (ha : a < 9223372036854775808) (hb : b < 9223372036854775808) : bits .and .i64 (a : Int) (b : Int) = ((a &&& b : Nat) : Int) := by
  have hx : a &&& b < 2 ^ 63 := Nat.and_lt_two_pow _ (by omega)
  show IntKind.i64.wrap ((BitVec.ofInt 64 (a : Int) &&& BitVec.ofInt 64 (b : Int)).toNat : Int) = _
  rw [BitVec.toNat_and, ofInt_i64 a ha, ofInt_i64 b hb, IntKind.wrap_i64]
  omega
theorem i64_or_nat (a b : Nat) (ha : a < 9223372036854775808) (hb : b < 9223372036854775808) : bits .or .i64 (a : Int) (b : Int) = ((a ||| b : Nat) : Int) := by
  have hx : a ||| b < 2 ^ 63 := Nat.or_lt_two_pow (by omega) (by omega)
  show IntKind.i64.wrap ((BitVec.ofInt 64 (a : Int) ||| BitVec.ofInt 64 (b : Int)).toNat : Int) = _
  rw [BitVec.toNat_or, ofInt_i64 a ha, ofInt_i64 b hb, IntKind.wrap_i64]
  omega
theorem i64_xor_nat (a b : Nat) (ha : a < 9223372036854775808) (hb : b < 9223372036854775808) : bits .xor .i64 (a : Int) (b : Int) = ((a ^^^ b : Nat) : Int) := by
  have hx : a ^^^ b < 2 ^ 63 := Nat.xor_lt_two_pow (by omega) (by omega)
  show IntKind.i64.wrap ((BitVec.ofInt 64 (a : Int) ^^^ BitVec.ofInt 64 (b : Int)).toNat : Int) = _
  rw [BitVec.toNat_xor, ofInt_i64 a ha, ofInt_i64 b hb, IntKind.wrap_i64]
  omega
end Go.Proofs.Ytlipeplfjkgamaa
/-
  How data lie in memory, by their Lean type: numbers, texts, slices, structs, arrays, one within the other; and that what an argument reads as lies so.
-/
namespace Go.Proofs.Ytlipeplfjkgamaa
open Go.RowKit Go.ChangeShapes Go.WideShapes

/-- a number of a kind -/
structure Nm (k : IntKind) where
  z : Int
  ok : (Lit.int k z).wf = true
/-- a text -/
structure Str where
  s : ByteArray
  ok : s.size ≤ maxLen
/-- a float of 64 bits -/
structure Fl where
  b : Nat
  ok : (Lit.float .f64 b).wf = true
/-- an array of n -/
structure Vec (n : Nat) (α : Type) where
  l : List α
  len : l.length = n

class Lay (α : Type) where
  size : Nat
  lies : World → Nat → List Value → α → Prop
  length : ∀ {w : World} {B : Nat} {vs : List Value} {a : α}, lies w B vs a → vs.length = size
  keep : ∀ {w w' : World} {B : Nat} {vs : List Value} {a : α}, lies w B vs a → (∀ p : Addr, p.block < B → w'.cell? p = w.cell? p) → lies w' B vs a
  more : ∀ {w : World} {B B' : Nat} {vs : List Value} {a : α}, lies w B vs a → B ≤ B' → lies w B' vs a

instance (k : IntKind) : Lay (Nm k) where
  size := 1
  lies _ _ vs a := vs = [.int k a.z]
  length h := by rw [h]; rfl
  keep h _ := h
  more h _ := h
instance : Lay Bool where
  size := 1
  lies _ _ vs a := vs = [.bool a]
  length h := by rw [h]; rfl
  keep h _ := h
  more h _ := h
instance : Lay Str where
  size := 1
  lies _ _ vs a := vs = [.string a.s]
  length h := by rw [h]; rfl
  keep h _ := h
  more h _ := h
instance : Lay Fl where
  size := 1
  lies _ _ vs a := vs = [.float .f64 a.b]
  length h := by rw [h]; rfl
  keep h _ := h
  more h _ := h
instance {α β : Type} [Lay α] [Lay β] : Lay (α × β) where
  size := Lay.size α + Lay.size β
  lies w B vs a := ∃ us ws, vs = us ++ ws ∧ Lay.lies w B us a.1 ∧ Lay.lies w B ws a.2
  length := by rintro w B vs a ⟨us, ws, rfl, h1, h2⟩; rw [List.length_append, Lay.length h1, Lay.length h2]
  keep := by rintro w w' B vs a ⟨us, ws, rfl, h1, h2⟩ hk; exact ⟨us, ws, rfl, Lay.keep h1 hk, Lay.keep h2 hk⟩
  more := by rintro w B B' vs a ⟨us, ws, rfl, h1, h2⟩ hk; exact ⟨us, ws, rfl, Lay.more h1 hk, Lay.more h2 hk⟩
/-- the i-th of a row of elements lies at its place -/
def LiesAt {α : Type} [Lay α] (w : World) (B : Nat) (ad : Addr) (i : Nat) (a : α) : Prop :=
  ∃ us : List Value, (∀ j, j < Lay.size α → w.cell? (ad.add (i * Lay.size α + j)) = us[j]?) ∧ Lay.lies w B us a
theorem LiesAt.keep {α : Type} [Lay α] {w w' : World} {B : Nat} {ad : Addr} {i : Nat} {a : α} (h : LiesAt w B ad i a) (hb : ad.block < B) (hk : ∀ p : Addr, p.block < B → w'.cell? p = w.cell? p) : LiesAt w' B ad i a := by
  obtain ⟨us, hc, hl⟩ := h
  exact ⟨us, fun j hj => (hk _ (by rw [block_of_add]; exact hb)).trans (hc j hj), Lay.keep hl hk⟩
theorem LiesAt.more {α : Type} [Lay α] {w : World} {B B' : Nat} {ad : Addr} {i : Nat} {a : α} (h : LiesAt w B ad i a) (hB : B ≤ B') : LiesAt w B' ad i a := by
  obtain ⟨us, hc, hl⟩ := h
  exact ⟨us, hc, Lay.more hl hB⟩
/-- a slice -/
def LiesSlice {α : Type} [Lay α] (w : World) (B : Nat) (A : Option Addr) (n : Nat) (xs : List α) : Prop :=
  xs.length = n ∧ (0 < n → ∃ ad, A = some ad ∧ ad.block < B ∧ ∀ i a, xs[i]? = some a → LiesAt w B ad i a)
theorem LiesSlice.keep {α : Type} [Lay α] {w w' : World} {B n : Nat} {A : Option Addr} {xs : List α} (h : LiesSlice w B A n xs) (hk : ∀ p : Addr, p.block < B → w'.cell? p = w.cell? p) : LiesSlice w' B A n xs :=
  ⟨h.1, fun hn => by
    obtain ⟨ad, e, hb, hc⟩ := h.2 hn
    exact ⟨ad, e, hb, fun i a hi => (hc i a hi).keep hb hk⟩⟩
theorem LiesSlice.more {α : Type} [Lay α] {w : World} {B B' n : Nat} {A : Option Addr} {xs : List α} (h : LiesSlice w B A n xs) (hB : B ≤ B') : LiesSlice w B' A n xs :=
  ⟨h.1, fun hn => by
    obtain ⟨ad, e, hb, hc⟩ := h.2 hn
    exact ⟨ad, e, by omega, fun i a hi => (hc i a hi).more hB⟩⟩
instance {α : Type} [Lay α] : Lay (List α) where
  size := 1
  lies w B vs a := ∃ A n c, vs = [.slice A n c] ∧ n ≤ c ∧ c ≤ maxLen ∧ (A = none → c = 0) ∧ LiesSlice w B A n a
  length := by rintro w B vs a ⟨A, n, c, rfl, _⟩; rfl
  keep := by rintro w w' B vs a ⟨A, n, c, rfl, h1, h2, h3, h4⟩ hk; exact ⟨A, n, c, rfl, h1, h2, h3, h4.keep hk⟩
  more := by rintro w B B' vs a ⟨A, n, c, rfl, h1, h2, h3, h4⟩ hB; exact ⟨A, n, c, rfl, h1, h2, h3, h4.more hB⟩
instance {α : Type} [Lay α] {n : Nat} : Lay (Vec n α) where
  size := n * Lay.size α
  lies w B vs a := vs.length = n * Lay.size α ∧ ∀ i x, a.l[i]? = some x → Lay.lies w B ((vs.drop (i * Lay.size α)).take (Lay.size α)) x
  length h := h.1
  keep h hk := ⟨h.1, fun i x hx => Lay.keep (h.2 i x hx) hk⟩
  more h hB := ⟨h.1, fun i x hx => Lay.more (h.2 i x hx) hB⟩

/-! ### what can be read lies so -/
/-- a value of type t that can be read is one of the Lean type -/
def Opens (P : Program) (t : TypeId) (α : Type) [Lay α] : Prop :=
  ∀ {H : Type} {enc : TypeId × Value → H} {w : World} {fuel : Nat} {cs : List Value} {x : DataW H × List MemPlace},
    DataW.trod enc P w 0 (fun _ => true) true fuel t cs = some x → ∃ a : α, ∀ B, (∀ p ∈ x.2, p.block < B) → Lay.lies w B cs a
section
variable {P : Program} {t e : TypeId}
theorem opens_int {k : IntKind} (ht : P.underlying t = some (.int k)) : Opens P t (Nm k) := by
  intro H enc w fuel cs x h
  obtain ⟨n, rfl, _, hw⟩ := DataW.trod_int ht h
  exact ⟨⟨n, hw⟩, fun _ _ => rfl⟩
theorem opens_bool (ht : P.underlying t = some .bool) : Opens P t Bool := by
  intro H enc w fuel cs x h
  obtain ⟨b, rfl, _⟩ := DataW.trod_bool ht h
  exact ⟨b, fun _ _ => rfl⟩
theorem opens_string (ht : P.underlying t = some .string) : Opens P t Str := by
  intro H enc w fuel cs x h
  obtain ⟨s, rfl, _, hs⟩ := DataW.trod_string ht h
  exact ⟨⟨s, hs⟩, fun _ _ => rfl⟩
theorem opens_float (ht : P.underlying t = some (.float .f64)) : Opens P t Fl := by
  intro H enc w fuel cs x h
  cases fuel with
  | zero => simp [DataW.trod] at h
  | succ n =>
    unfold DataW.trod at h
    rw [ht] at h
    split at h <;> simp_all
    rename_i k' b hk
    subst hk
    exact ⟨⟨b, h.1.2⟩, fun _ _ => rfl⟩
theorem opens_slice {α : Type} [Lay α] (ht : P.underlying t = some (.slice e)) (he : Opens P e α) (hc : P.cellsOf e = Lay.size α) (hp : 0 < Lay.size α) : Opens P t (List α) := by
  intro H enc w fuel cs x h
  rcases DataW.trod_slice ht h with ⟨rfl, rfl⟩ | ⟨a, len, cap, elems, rest, n, _, rfl, rfl, _, hl, hm, hlen, hel, _, _⟩
  · exact ⟨[], fun _ _ => ⟨none, 0, 0, rfl, Nat.le_refl _, Nat.zero_le _, fun _ => rfl, rfl, fun h0 => absurd h0 (Nat.lt_irrefl 0)⟩⟩
  · have each : ∀ i : Nat, i < len → ∃ v : α, ∀ B, (∀ y, elems[i]? = some y → ∀ p ∈ y.2, p.block < B) → LiesAt w B a i v := by
      intro i hi
      have hy : elems[i]? = some (elems[i]'(by omega)) := List.getElem?_eq_getElem (by omega)
      have h1 := hel i hi
      rw [hy] at h1
      obtain ⟨us, hu, ht'⟩ := Option.bind_eq_some_iff.1 h1
      obtain ⟨_, hul, hcell⟩ := World.cells?_some hu
      obtain ⟨v, hv⟩ := he ht'
      refine ⟨v, fun B hB => ⟨us, fun j hj => ?_, hv B (fun p hp' => hB _ hy p hp')⟩⟩
      rw [← hcell j (by omega), hc, add_of_add]
    have hch : ∃ f : Nat → Option α, ∀ i, i < len → ∃ v, f i = some v ∧ ∀ B, (∀ y, elems[i]? = some y → ∀ p ∈ y.2, p.block < B) → LiesAt w B a i v := by
      refine ⟨fun i => if hi : i < len then some (Classical.choose (each i hi)) else none, fun i hi => ⟨_, by simp only [hi, dif_pos], Classical.choose_spec (each i hi)⟩⟩
    obtain ⟨f, hf⟩ := hch
    have hx : ∃ xs : List α, xs.length = len ∧ ∀ i v, xs[i]? = some v → ∀ B, (∀ y, elems[i]? = some y → ∀ p ∈ y.2, p.block < B) → LiesAt w B a i v := by
      have key : ∀ m, m ≤ len → ∃ xs : List α, xs.length = m ∧ ∀ i v, xs[i]? = some v → ∀ B, (∀ y, elems[i]? = some y → ∀ p ∈ y.2, p.block < B) → LiesAt w B a i v := by
        intro m
        induction m with
        | zero => intro _; exact ⟨[], rfl, fun i v h0 => by simp at h0⟩
        | succ m ih =>
          intro hm'
          obtain ⟨xs, hxl, hxs⟩ := ih (by omega)
          obtain ⟨v, _, hv⟩ := hf m (by omega)
          refine ⟨xs ++ [v], by simp [hxl], fun i u hu => ?_⟩
          rw [List.getElem?_append] at hu
          split at hu
          · exact hxs i u hu
          · rename_i hi
            have : i - xs.length = 0 := by
              rcases Nat.eq_zero_or_pos (i - xs.length) with h0 | h0
              · exact h0
              · rw [List.getElem?_eq_none (by simp; omega)] at hu; cases hu
            rw [this] at hu
            obtain rfl : i = m := by omega
            injection hu with hu
            subst hu
            exact hv
      exact key len (Nat.le_refl _)
    obtain ⟨xs, hxl, hxs⟩ := hx
    refine ⟨xs, fun B hB => ⟨some a, len, cap, rfl, hl, hm, (fun h0 => by cases h0), hxl, fun hn => ⟨a, rfl, ?_, fun i v hv => hxs i v hv B ?_⟩⟩⟩
    · refine hB (.cell a.block (a.off + 0)) ?_
      simp only [MemPlace.row, List.mem_append, List.mem_map, List.mem_range]
      left
      refine ⟨0, ?_, rfl⟩
      rw [hc, hlen]
      exact Nat.mul_pos (by omega) hp
    · intro y hy p hp'
      refine hB p ?_
      simp only [List.mem_append, List.mem_flatMap]
      exact Or.inr ⟨y, Or.inl (List.mem_of_getElem? hy), hp'⟩
/-- the fields of a struct from a place on -/
def OpensF (P : Program) (fs : List Field) (off : Nat) (α : Type) [Lay α] : Prop :=
  ∀ {H : Type} {enc : TypeId × Value → H} {w : World} {n : Nat} {cs : List Value} {xs : List (DataW H × List MemPlace)}, xs.length = fs.length → cs.length = off + Lay.size α →
    (∀ (i : Nat) (f : Field), fs[i]? = some f → DataW.trod enc P w 0 (fun _ => true) true n f.type ((cs.drop f.offset).take (P.cellsOf f.type)) = xs[i]?) → ∃ a : α, ∀ B, (∀ x ∈ xs, ∀ p ∈ x.2, p.block < B) → Lay.lies w B (cs.drop off) a
theorem opensF_one {α : Type} [Lay α] {f : Field} {off : Nat} (ho : f.offset = off) (h : Opens P f.type α) (hc : P.cellsOf f.type = Lay.size α) : OpensF P [f] off α := by
  intro H enc w n cs xs hl hcs hi
  match xs, hl with
  | [x], _ =>
    have h0 := hi 0 f rfl
    rw [hc, ho, List.take_of_length_le (by simp; omega)] at h0
    obtain ⟨a, ha⟩ := h (show _ = some x from h0)
    exact ⟨a, fun B hB => ha B (hB x (by simp))⟩
theorem opensF_cons {α β : Type} [Lay α] [Lay β] {f : Field} {fs : List Field} {off off' : Nat} (ho : f.offset = off) (h : Opens P f.type α) (hc : P.cellsOf f.type = Lay.size α) (hs : OpensF P fs off' β) (ho' : off' = off + Lay.size α) : OpensF P (f :: fs) off (α × β) := by
  intro H enc w n cs xs hl hcs hi
  have hsz : Lay.size (α × β) = Lay.size α + Lay.size β := rfl
  match xs, hl with
  | x :: xs, hl =>
    have h0 := hi 0 f rfl
    rw [hc, ho] at h0
    obtain ⟨a, ha⟩ := h (show _ = some x from h0)
    obtain ⟨b, hb⟩ := hs (cs := cs) (xs := xs) (by simpa using hl) (by rw [hcs, hsz, ho']; omega) (fun i g hg => hi (i + 1) g hg)
    refine ⟨(a, b), fun B hB => ⟨(cs.drop off).take (Lay.size α), cs.drop off', ?_, ha B (hB x (by simp)), hb B (fun y hy => hB y (by simp [hy]))⟩⟩
    rw [ho', ← List.drop_drop, List.take_append_drop]
theorem opens_struct {α : Type} [Lay α] {fs : Array Field} (ht : P.underlying t = some (.struct fs)) (hf : OpensF P fs.toList 0 α) (hc : P.cellsOf t = Lay.size α) : Opens P t α := by
  intro H enc w fuel cs x h
  obtain ⟨xs, n, _, rfl, hcl, hxl, hi⟩ := DataW.trod_struct ht h
  obtain ⟨a, ha⟩ := hf (cs := cs) (xs := xs) (by simpa using hxl) (by rw [hcl, hc]; omega) (fun i f hf' => hi i f (by simpa using hf'))
  refine ⟨a, fun B hB => ?_⟩
  have := ha B (fun y hy p hp => hB p (by simp only [List.mem_flatMap]; exact ⟨y, hy, hp⟩))
  simpa using this
theorem opens_array {α : Type} [Lay α] {n : Nat} (ht : P.underlying t = some (.array n e)) (he : Opens P e α) (hc : P.cellsOf e = Lay.size α) (hct : P.cellsOf t = n * Lay.size α) : Opens P t (Vec n α) := by
  intro H enc w fuel cs x h
  obtain ⟨xs, m, _, rfl, hcl, hxl, hi⟩ := DataW.trod_array ht h
  have key : ∀ m', m' ≤ n → ∃ l : List α, l.length = m' ∧ ∀ i v, l[i]? = some v → ∀ B, (∀ y ∈ xs, ∀ p ∈ y.2, p.block < B) → Lay.lies w B ((cs.drop (i * Lay.size α)).take (Lay.size α)) v := by
    intro m'
    induction m' with
    | zero => intro _; exact ⟨[], rfl, fun i v h0 => by simp at h0⟩
    | succ m' ih =>
      intro hm'
      obtain ⟨l, hl, hls⟩ := ih (by omega)
      have h1 := hi m' (by omega)
      have hy : xs[m']? = some (xs[m']'(by omega)) := List.getElem?_eq_getElem (by omega)
      rw [hy, hc] at h1
      obtain ⟨v, hv⟩ := he h1
      refine ⟨l ++ [v], by simp [hl], fun i u hu => ?_⟩
      rw [List.getElem?_append] at hu
      split at hu
      · exact hls i u hu
      · have : i - l.length = 0 := by
          rcases Nat.eq_zero_or_pos (i - l.length) with h0 | h0
          · exact h0
          · rw [List.getElem?_eq_none (by simp; omega)] at hu; cases hu
        rw [this] at hu
        obtain rfl : i = m' := by omega
        injection hu with hu
        subst hu
        exact fun B hB => hv B (hB _ (List.mem_of_getElem? hy))
  obtain ⟨l, hl, hls⟩ := key n (Nat.le_refl _)
  refine ⟨⟨l, hl⟩, fun B hB => ⟨by rw [hcl, hct], fun i v hv => hls i v hv B (fun y hy p hp => hB p (by simp only [List.mem_flatMap]; exact ⟨y, hy, hp⟩))⟩⟩
end

/-! ### arguments -/
section
variable {H : Type} {enc : TypeId × Value → H} {P : Program} {w : World} {r : Reach} {b0 : Nat} {t e : TypeId} {v : Value} {d : DataW H} {ps : List MemPlace}
theorem arg_slice {α : Type} [Lay α] (ho : Opens P t (List α)) (ht : P.underlying t = some (.slice e)) (hv : Value.okWide P w r b0 t v) (h : DataW.Trod enc P w 0 (fun _ => true) true t v d ps) (hb : ∀ p ∈ ps, p.block < w.heap.size) :
    ∃ A n c, ∃ xs : List α, v = .slice A n c ∧ n ≤ c ∧ c ≤ maxLen ∧ (A = none → c = 0) ∧ LiesSlice w w.heap.size A n xs := by
  obtain ⟨A0, n0, c0, rfl⟩ := okWide_slice ht hv
  obtain ⟨fuel, hf⟩ := h
  obtain ⟨a, ha⟩ := ho hf
  obtain ⟨A, n, c, he, h1, h2, h3, h4⟩ := ha w.heap.size hb
  simp [Value.cells] at he
  obtain ⟨rfl, rfl, rfl⟩ := he
  exact ⟨_, _, _, a, rfl, h1, h2, h3, h4⟩
theorem arg_struct {α : Type} [Lay α] {fs : Array Field} (ho : Opens P t α) (ht : P.underlying t = some (.struct fs)) (hv : Value.okWide P w r b0 t v) (h : DataW.Trod enc P w 0 (fun _ => true) true t v d ps) (hb : ∀ p ∈ ps, p.block < w.heap.size) :
    ∃ vs : List Value, ∃ a : α, v = .agg vs.toArray ∧ Lay.lies w w.heap.size vs a := by
  obtain ⟨cs, rfl, _⟩ := okWide_struct ht hv
  obtain ⟨fuel, hf⟩ := h
  obtain ⟨a, ha⟩ := ho hf
  exact ⟨cs.toList, a, rfl, ha _ hb⟩
theorem okWide_array' {n : Nat} (ht : P.underlying t = some (.array n e)) (h : Value.okWide P w r b0 t v) : ∃ cs, v = .agg cs ∧ cs.size = P.cellsOf t := by
  simp only [Value.okWide, ht] at h
  obtain ⟨cs, h1, h2, _⟩ := h
  exact ⟨cs, h1, h2⟩
theorem arg_array {α : Type} [Lay α] {n : Nat} (ho : Opens P t α) (ht : P.underlying t = some (.array n e)) (hv : Value.okWide P w r b0 t v) (h : DataW.Trod enc P w 0 (fun _ => true) true t v d ps) (hb : ∀ p ∈ ps, p.block < w.heap.size) :
    ∃ vs : List Value, ∃ a : α, v = .agg vs.toArray ∧ Lay.lies w w.heap.size vs a := by
  obtain ⟨cs, rfl, _⟩ := okWide_array' ht hv
  obtain ⟨fuel, hf⟩ := h
  obtain ⟨a, ha⟩ := ho hf
  exact ⟨cs.toList, a, rfl, ha _ hb⟩
end

/-! ### bytes and other numbers, as the walks want them -/
def zsOf {k : IntKind} (xs : List (Nm k)) : List Int := xs.map (·.z)
theorem LiesSlice.reads {k : IntKind} {w : World} {B n : Nat} {A : Option Addr} {xs : List (Nm k)} (h : LiesSlice w B A n xs) : Reads w B 1 A n (nums k (zsOf xs)) := by
  refine ⟨by simp [nums, zsOf, h.1], fun hn => ?_⟩
  obtain ⟨ad, e, hb, hc⟩ := h.2 hn
  refine ⟨ad, e, hb, fun j u hu => ?_⟩
  simp only [nums, zsOf, List.getElem?_map, Option.map_eq_some_iff] at hu
  obtain ⟨z, ⟨x, hx, rfl⟩, rfl⟩ := hu
  obtain ⟨us, hus, hl⟩ := hc j x hx
  obtain rfl : us = [.int k x.z] := hl
  have := hus 0 (show 0 < 1 by decide)
  simpa [show Lay.size (Nm k) = 1 from rfl] using this
theorem zsOf_u8 (xs : List (Nm .u8)) : ∀ z ∈ zsOf xs, 0 ≤ z ∧ z < 256 := by
  intro z hz
  simp only [zsOf, List.mem_map] at hz
  obtain ⟨x, _, rfl⟩ := hz
  have := x.ok
  simp [Lit.wf, IntKind.min, IntKind.max, IntKind.signed, IntKind.bits] at this
  omega
theorem Nm.u32 (x : Nm .u32) : 0 ≤ x.z ∧ x.z < 4294967296 := by
  have := x.ok
  simp [Lit.wf, IntKind.min, IntKind.max, IntKind.signed, IntKind.bits] at this
  omega
theorem Nm.u8 (x : Nm .u8) : 0 ≤ x.z ∧ x.z < 256 := by
  have := x.ok
  simp [Lit.wf, IntKind.min, IntKind.max, IntKind.signed, IntKind.bits] at this
  omega
theorem Nm.u64 (x : Nm .u64) : 0 ≤ x.z ∧ x.z ≤ 18446744073709551615 := by
  have := x.ok
  simp [Lit.wf, IntKind.min, IntKind.max, IntKind.signed, IntKind.bits] at this
  omega
theorem Nm.i64 (x : Nm .i64) : -9223372036854775808 ≤ x.z ∧ x.z ≤ 9223372036854775807 := by
  have := x.ok
  simp [Lit.wf, IntKind.min, IntKind.max, IntKind.signed, IntKind.bits] at this
  omega
end Go.Proofs.Ytlipeplfjkgamaa
/-
  Plain mathematics: sets of dimensions as numbers.
-/
namespace Go.Proofs.Ytlipeplfjkgamaa
namespace Mk
/-- one set of dimensions within another -/
def sb (a b : Nat) : Bool := a &&& b == a
theorem sb_iff {a b : Nat} : sb a b = true ↔ ∀ i, a.testBit i = true → b.testBit i = true := by
  unfold sb
  rw [beq_iff_eq]
  constructor
  · intro h i hi
    rw [← h, Nat.testBit_and, Bool.and_eq_true] at hi
    exact hi.2
  · intro h
    apply Nat.eq_of_testBit_eq
    intro i
    rw [Nat.testBit_and]
    cases ha : a.testBit i with
    | false => rfl
    | true => rw [h i ha]; rfl
theorem sb_le {a b : Nat} (h : sb a b = true) : a ≤ b := by
  unfold sb at h
  rw [beq_iff_eq] at h
  rw [← h]
  exact Nat.and_le_right
theorem sb_refl (a : Nat) : sb a a = true := by simp [sb]
theorem sb_zero (a : Nat) : sb 0 a = true := by simp [sb]
theorem sb_trans {a b c : Nat} (h : sb a b = true) (k : sb b c = true) : sb a c = true := by
  rw [sb_iff] at *
  exact fun i hi => k i (h i hi)
theorem sb_half {a b : Nat} : sb a b = true ↔ sb (a / 2) (b / 2) = true ∧ a % 2 ≤ b % 2 := by
  simp only [sb_iff]
  constructor
  · intro h
    refine ⟨fun i hi => ?_, ?_⟩
    · have := h (i + 1)
      rw [Nat.testBit_succ, Nat.testBit_succ] at this
      exact this hi
    · have := h 0
      simp only [Nat.testBit_zero, decide_eq_true_eq] at this
      omega
  · rintro ⟨h1, h2⟩ i hi
    cases i with
    | zero =>
      simp only [Nat.testBit_zero, decide_eq_true_eq] at hi ⊢
      omega
    | succ i =>
      rw [Nat.testBit_succ] at hi ⊢
      exact h1 i hi
theorem and_split (a b : Nat) : a &&& b = 2 * (a / 2 &&& b / 2) + (if a % 2 = 1 ∧ b % 2 = 1 then 1 else 0) := by
  apply Nat.eq_of_testBit_eq
  intro i
  cases i with
  | zero =>
    simp only [Nat.testBit_zero]
    have h1 : (a &&& b) % 2 = 1 ↔ a % 2 = 1 ∧ b % 2 = 1 := Nat.and_mod_two_eq_one
    split
    · rename_i h
      have := h1.2 h
      simp; omega
    · rename_i h
      have : ¬ (a &&& b) % 2 = 1 := fun h' => h (h1.1 h')
      simp; omega
  | succ i =>
    rw [Nat.testBit_succ, Nat.testBit_succ]
    have h2 : (a &&& b) / 2 = a / 2 &&& b / 2 := Nat.and_div_two
    have h3 : (2 * (a / 2 &&& b / 2) + if a % 2 = 1 ∧ b % 2 = 1 then 1 else 0) / 2 = a / 2 &&& b / 2 := by
      split <;> omega
    rw [h2, h3]
/-- what is left of g without y comes back with y -/
theorem fill_back : ∀ (m g y : Nat), g < 2 ^ m → sb y g = true → (2 ^ m - 1 - (g - y)) &&& g = y
  | 0, g, y, hg, h => by
    have := sb_le h
    simp at hg
    subst hg
    simp
    omega
  | m + 1, g, y, hg, h => by
    obtain ⟨h1, h2⟩ := sb_half.1 h
    have hle := sb_le h1
    have hg2 : g / 2 < 2 ^ m := by rw [Nat.pow_succ] at hg; omega
    have ih := fill_back m (g / 2) (y / 2) hg2 h1
    rw [and_split]
    have hp : 2 ^ (m + 1) = 2 * 2 ^ m := by rw [Nat.pow_succ]; omega
    have hpos : 0 < 2 ^ m := Nat.pow_pos (by decide)
    have e1 : (2 ^ (m + 1) - 1 - (g - y)) / 2 = 2 ^ m - 1 - (g / 2 - y / 2) := by rw [hp]; omega
    rw [e1, ih]
    have e2 : (2 ^ (m + 1) - 1 - (g - y)) % 2 = 1 ↔ (g - y) % 2 = 0 := by rw [hp]; omega
    split
    · rename_i hc
      rw [e2] at hc
      omega
    · rename_i hc
      rw [e2] at hc
      omega
/-- the next set within f behind x -/
theorem next_spec : ∀ (m f x : Nat), f < 2 ^ m → sb x f = true → x < f →
    x < ((2 ^ m - (f - x)) &&& f) ∧ ∀ y, x < y → sb y f = true → ((2 ^ m - (f - x)) &&& f) ≤ y
  | 0, f, x, hf, h, hlt => by simp at hf; omega
  | m + 1, f, x, hf, h, hlt => by
    obtain ⟨h1, h2⟩ := sb_half.1 h
    have hle := sb_le h1
    have hf2 : f / 2 < 2 ^ m := by rw [Nat.pow_succ] at hf; omega
    have hp : 2 ^ (m + 1) = 2 * 2 ^ m := by rw [Nat.pow_succ]; omega
    have hpos : 0 < 2 ^ m := Nat.pow_pos (by decide)
    by_cases hb : f % 2 = 1 ∧ x % 2 = 0
    · have hfb := fill_back m (f / 2) (x / 2) hf2 h1
      have e : ((2 ^ (m + 1) - (f - x)) &&& f) = x + 1 := by
        rw [and_split]
        have e1 : (2 ^ (m + 1) - (f - x)) / 2 = 2 ^ m - 1 - (f / 2 - x / 2) := by rw [hp]; omega
        rw [e1, hfb, if_pos ⟨by rw [hp]; omega, hb.1⟩]
        omega
      rw [e]
      exact ⟨by omega, fun y hy _ => hy⟩
    · have hlt2 : x / 2 < f / 2 := by omega
      obtain ⟨i1, i2⟩ := next_spec m (f / 2) (x / 2) hf2 h1 hlt2
      have e : ((2 ^ (m + 1) - (f - x)) &&& f) = 2 * ((2 ^ m - (f / 2 - x / 2)) &&& (f / 2)) := by
        rw [and_split]
        have e1 : (2 ^ (m + 1) - (f - x)) / 2 = 2 ^ m - (f / 2 - x / 2) := by rw [hp]; omega
        rw [e1, if_neg (by rw [hp]; omega)]
        omega
      rw [e]
      refine ⟨by omega, fun y hy hs => ?_⟩
      obtain ⟨k1, k2⟩ := sb_half.1 hs
      have := i2 (y / 2) (by omega) k1
      omega
/-- the next one, as the program reckons it -/
def nx (f x : Nat) : Nat := ((x + 4294967296 - f) % 4294967296) &&& f
theorem nx_last (f : Nat) : nx f f = 0 := by
  unfold nx
  rw [show f + 4294967296 - f = 4294967296 by omega]
  simp
theorem nx_sb (f x : Nat) : sb (nx f x) f = true := by
  rw [sb_iff]
  intro i hi
  unfold nx at hi
  rw [Nat.testBit_and, Bool.and_eq_true] at hi
  exact hi.2
theorem nx_spec (f x : Nat) (hf : f < 4294967296) (h : sb x f = true) (hlt : x < f) : x < nx f x ∧ ∀ y, x < y → sb y f = true → nx f x ≤ y := by
  have := next_spec 32 f x hf h hlt
  unfold nx
  rw [show (x + 4294967296 - f) % 4294967296 = 2 ^ 32 - (f - x) by
    have : (2 : Nat) ^ 32 = 4294967296 := by decide
    rw [Nat.mod_eq_of_lt (by omega)]; omega]
  exact this
/-- the sets within f that are less than x -/
def upto (f x : Nat) : List Nat := (List.range x).filter (fun y => sb y f)
theorem upto_succ (f x : Nat) (h : sb x f = true) : upto f (x + 1) = upto f x ++ [x] := by
  unfold upto
  rw [List.range_succ, List.filter_append]
  simp [h]
theorem upto_gap (f : Nat) : ∀ (d a : Nat), (∀ y, a ≤ y → y < a + d → sb y f = false) → upto f (a + d) = upto f a
  | 0, a, _ => rfl
  | d + 1, a, h => by
    rw [← Nat.add_assoc]
    unfold upto
    rw [List.range_succ, List.filter_append]
    have := upto_gap f d a (fun y h1 h2 => h y h1 (by omega))
    unfold upto at this
    rw [this]
    simp [h (a + d) (by omega) (by omega)]
theorem upto_next (f x : Nat) (hf : f < 4294967296) (h : sb x f = true) : upto f (if nx f x = 0 then f + 1 else nx f x) = upto f x ++ [x] := by
  rw [← upto_succ f x h]
  have hle := sb_le h
  by_cases hx : x = f
  · subst hx
    rw [if_pos (nx_last _)]
  · obtain ⟨h1, h2⟩ := nx_spec f x hf h (by omega)
    rw [if_neg (by omega)]
    have := upto_gap f (nx f x - (x + 1)) (x + 1) (fun y k1 k2 => by
      cases hs : sb y f with
      | false => rfl
      | true => have := h2 y (by omega) hs; omega)
    rwa [show x + 1 + (nx f x - (x + 1)) = nx f x by omega] at this
/-- all sets within f -/
def subs (f : Nat) : List Nat := upto f (f + 1)
theorem mem_subs {f x : Nat} : x ∈ subs f ↔ sb x f = true := by
  unfold subs upto
  rw [List.mem_filter, List.mem_range]
  constructor
  · exact fun h => h.2
  · intro h
    exact ⟨by have := sb_le h; omega, h⟩
/-- without: as the program asks it -/
theorem andNot_zero {a b : Nat} (ha : a < 4294967296) (hb : b < 4294967296) : (a &&& (4294967295 - b)) = 0 ↔ sb a b = true := by
  rw [sb_iff]
  have ht : ∀ i, (4294967295 - b).testBit i = (decide (i < 32) && !b.testBit i) := by
    intro i
    have := Nat.testBit_two_pow_sub_succ (n := 32) (x := b) (by simpa using hb) i
    rwa [show 2 ^ 32 - (b + 1) = 4294967295 - b by omega] at this
  constructor
  · intro h i hi
    have h0 : (a &&& (4294967295 - b)).testBit i = false := by rw [h]; simp
    rw [Nat.testBit_and, ht, hi] at h0
    have hi32 : i < 32 := by
      rcases Nat.lt_or_ge i 32 with h' | h'
      · exact h'
      · have : a < 2 ^ i := Nat.lt_of_lt_of_le ha (by rw [show 4294967296 = 2 ^ 32 by decide]; exact Nat.pow_le_pow_right (by decide) h')
        rw [Nat.testBit_lt_two_pow this] at hi
        cases hi
    simpa [hi32] using h0
  · intro h
    apply Nat.eq_of_testBit_eq
    intro i
    rw [Nat.testBit_and, ht]
    cases hai : a.testBit i with
    | false => simp
    | true => simp [h i hai]
/-- how many are in a set -/
def cnt : Nat → Nat → Nat
  | 0, _ => 0
  | m + 1, a => a % 2 + cnt m (a / 2)
theorem cnt_le : ∀ m a, cnt m a ≤ m
  | 0, _ => Nat.le_refl _
  | m + 1, a => by have := cnt_le m (a / 2); simp only [cnt]; omega
theorem cnt_zero : ∀ m, cnt m 0 = 0
  | 0 => rfl
  | m + 1 => by simp [cnt, cnt_zero m]
theorem cnt_pos : ∀ m a, a < 2 ^ m → a ≠ 0 → 0 < cnt m a
  | 0, a, h, h0 => by simp at h; omega
  | m + 1, a, h, h0 => by
    simp only [cnt]
    by_cases hb : a % 2 = 1
    · omega
    · have := cnt_pos m (a / 2) (by rw [Nat.pow_succ] at h; omega) (by omega)
      omega
/-- the lowest one taken away -/
theorem cnt_low : ∀ m a, a < 2 ^ m → a ≠ 0 → cnt m (a &&& (a - 1)) + 1 = cnt m a
  | 0, a, h, h0 => by simp at h; omega
  | m + 1, a, h, h0 => by
    simp only [cnt]
    rw [and_split a (a - 1)]
    by_cases hb : a % 2 = 1
    · rw [if_neg (by omega), show (a - 1) / 2 = a / 2 by omega, Nat.and_self]
      rw [show (2 * (a / 2) + 0) % 2 = 0 by omega, show (2 * (a / 2) + 0) / 2 = a / 2 by omega]
      omega
    · have ih := cnt_low m (a / 2) (by rw [Nat.pow_succ] at h; omega) (by omega)
      rw [if_neg (by omega), show (a - 1) / 2 = a / 2 - 1 by omega]
      rw [show (2 * (a / 2 &&& (a / 2 - 1)) + 0) % 2 = 0 by omega, show (2 * (a / 2 &&& (a / 2 - 1)) + 0) / 2 = (a / 2 &&& (a / 2 - 1)) by omega]
      omega
theorem cnt_small : ∀ k m a, k ≤ m → a < 2 ^ k → cnt m a = cnt k a
  | 0, m, a, _, h => by
    have : a = 0 := by simpa using h
    subst this
    rw [cnt_zero]; rfl
  | k + 1, 0, a, hk, _ => by omega
  | k + 1, m + 1, a, hk, h => by
    simp only [cnt]
    rw [cnt_small k m (a / 2) (by omega) (by rw [Nat.pow_succ] at h; omega)]
end Mk
end Go.Proofs.Ytlipeplfjkgamaa
/-
  Appends onto rows of the call's own, as this seat's walks meet them: the result is spelled as a slice; a guarded operation fits too. Bytes, and other numbers.
-/
namespace Go.Proofs.Ytlipeplfjkgamaa
set_option maxRecDepth 100000
open Go.RowKit

theorem ownsRow_slice {w : World} {base : Nat} {e : TypeId} {size : Nat} {v : Value} {n : Nat} {xs : List Value} (h : w.ownsRow base e size v n xs) : ∃ A c, v = .slice A n c := by
  rcases h.2 with ⟨rfl, rfl⟩ | ⟨g, cap, cur, rfl, _⟩
  · exact ⟨none, 0, rfl⟩
  · exact ⟨_, cap, rfl⟩
theorem below_grown {base : Nat} {e : TypeId} {size : Nat} {v : Value} {n : Nat} {xs : List Value} {w w' : World} (h : w.ownsRow base e size v n xs) (hg : w.grownBy w' v.ownBlock) (hb : base ≤ w.heap.size) : Below base w w' :=
  (Below.refl _ _).grown hg hb fun k hk => (h.lt k hk).1

section
variable {P : Program} {w : World} {ops : Array Oper} {rest : List Oper} {o : Oper} {a : Act} {Q : Exit → Act → World → Prop}
theorem wpl_append (hw : Region.wanted o (yielded ops a.tmps) = true) (s x : Operand) (t : TypeId)
    (ho : o.op = .call { callee := .builtin .append, args := #[s, x], argTypes := #[t, t] })
    (e : TypeId) (z : Value) (size bytes : Nat) (ht : P.underlying t = some (.slice e)) (hi : (P.info? e).map (fun i => (i.zero, i.size, i.bytes)) = some (some z, size, bytes))
    (hzs : z.cells.size = size) (hsz : 0 < size)
    (base : Nat) (v : Value) (n : Nat) (xs : List Value) (hs : a.eval s = v) (hown : w.ownsRow base e size v n xs)
    (B : Nat) (A : Option Addr) (m c : Nat) (news : List Value) (hx : a.eval x = .slice A m c) (hr : Reads w B size A m news) (h1 : ∀ u ∈ news, u.oneCell' = true)
    (h63 : n + m ≤ maxLen) (hbytes : (n + m) * bytes ≤ 140737488355328) (hbase : base ≤ w.heap.size)
    (h : ∀ A' c' w', w'.ownsRow base e size (.slice A' (n + m) c') (n + m) (xs ++ news) → w.grownBy w' v.ownBlock → Below base w w' → (Value.ownBlock (.slice A' (n + m) c') = v.ownBlock ∨ Value.ownBlock (.slice A' (n + m) c') = some w.heap.size) →
      wpList P ops Q rest (a.put o.dst (.slice A' (n + m) c')) w') : wpList P ops Q (o :: rest) a w := by
  obtain ⟨i, hi0, hz, hs1, hb1⟩ := info_parts hi
  refine wpList_step fun K hK => ?_
  rw [if_pos hw]
  refine wp_append_any w s x t ho base e i z size bytes ht hi0 hz hs1 hb1 hzs hsz v n xs hs hown B A m c news hx hr h1 h63 hbytes hbase fun v' w' h2 h3 h4 => hK _ _ ?_
  obtain ⟨A', c', rfl⟩ := ownsRow_slice h2
  exact h A' c' w' h2 h3 (below_grown hown h3 hbase) h4
end
theorem nums_one (k : IntKind) (zs : List Int) : ∀ u ∈ nums k zs, u.oneCell' = true := by
  intro u hu
  simp only [nums, List.mem_map] at hu
  obtain ⟨z, _, rfl⟩ := hu
  rfl
theorem nums_append (k : IntKind) (xs ys : List Int) : nums k xs ++ nums k ys = nums k (xs ++ ys) := by simp [nums]
/-- an owned row reads -/
theorem own_reads {w : World} {base : Nat} {e : TypeId} {n c : Nat} {A : Option Addr} {xs : List Value} (h : w.ownsRow base e 1 (.slice A n c) n xs) : Reads w w.heap.size 1 A n xs := Reads.of_own h
theorem own_bd {w : World} {base : Nat} {e : TypeId} {size n c : Nat} {A : Option Addr} {xs : List Value} (h : w.ownsRow base e size (.slice A n c) n xs) : n ≤ c ∧ c ≤ maxLen := by
  rcases h.2 with ⟨h', rfl⟩ | ⟨g, cap, cur, h', _, _, h1, h2, _⟩
  · injection h' with _ _ h3
    subst h3
    exact ⟨Nat.le_refl _, Nat.zero_le _⟩
  · injection h' with _ _ h3
    subst h3
    exact ⟨h1, h2⟩
theorem own_cap (w : World) (base : Nat) (e : TypeId) (k : IntKind) (zs : List Int) (c g : Nat) (hg : g = w.heap.size) (hb : base ≤ g) (hn : c = zs.length) (hm : c ≤ maxLen) :
    (w.alloc (.cells (nums k zs).toArray e)).ownsRow base e 1 (.slice (some ⟨g, 0, none⟩) 0 c) 0 (nums k []) := by
  subst hn hg
  refine ⟨by simp [nums], .inr ⟨w.heap.size, zs.length, (nums k zs).toArray, rfl, hb, ?_, Nat.zero_le _, hm, by simp [nums], by simp [nums]⟩⟩
  show (w.heap.push _)[w.heap.size]? = _
  simp
theorem own_new (w : World) (base : Nat) (e : TypeId) (k : IntKind) (zs : List Int) (n g : Nat) (hg : g = w.heap.size) (hb : base ≤ g) (hn : n = zs.length) (hm : n ≤ maxLen) :
    (w.alloc (.cells (nums k zs).toArray e)).ownsRow base e 1 (.slice (some ⟨g, 0, none⟩) n n) n (nums k zs) := by
  subst hn hg
  refine ⟨by simp [nums], .inr ⟨w.heap.size, zs.length, (nums k zs).toArray, rfl, hb, ?_, Nat.le_refl _, hm, by simp [nums], ?_⟩⟩
  · show (w.heap.push _)[w.heap.size]? = _
    simp
  · rw [List.take_of_length_le (by simp [nums])]
theorem own_empty (W : World) (base : Nat) (e : TypeId) (g : Nat) (hg : g = W.heap.size) (hb : base ≤ g) : (W.alloc (.cells #[] e)).ownsRow base e 1 (.slice (some ⟨g, 0, none⟩) 0 0) 0 (nums .u8 []) :=
  own_new W base e .u8 [] 0 g hg hb rfl (Nat.zero_le _)
theorem reads_new (w : World) (l : List Value) (t : TypeId) (m : Nat × Nat) (n g B : Nat) (hg : g = w.heap.size) (hn : n = l.length) (hB : g < B) : Reads (w.alloc (.cells l.toArray t m)) B 1 (some ⟨g, 0, none⟩) n l := by
  subst hg
  exact (Reads.new w l t m n hn).more hB
end Go.Proofs.Ytlipeplfjkgamaa
/-
  Regions that draw their order and whose operations read, or call what makes new memory alone: one walk in the order of the text, in every later world. Bytes as a text.
-/
namespace Go.Proofs.Ytlipeplfjkgamaa
set_option maxRecDepth 100000
open Go.RowKit

/-- the worlds that have at most new blocks -/
def Lat (w : World) : Type := {u : World // Below w.heap.size w u}
instance (w : World) : Nonempty (Lat w) := ⟨⟨w, Below.refl _ _⟩⟩
section
variable {w : World}
theorem Lat.cell (u : Lat w) {p : Addr} (hp : p.block < w.heap.size) : u.1.cell? p = w.cell? p := u.2.cell hp
theorem Lat.frozen (u : Lat w) {p : Addr} (hp : p.block < w.heap.size) : u.1.frozen? p = w.frozen? p := u.2.frozen hp
theorem Lat.size (u : Lat w) : w.heap.size ≤ u.1.heap.size := u.2.size
theorem Lat.reads (u : Lat w) {B size n : Nat} {A : Option Addr} {xs : List Value} (h : Reads w B size A n xs) (hB : B ≤ w.heap.size) : Reads u.1 u.1.heap.size size A n xs :=
  ((h.more hB).below u.2).more u.2.size
theorem Lat.call {P : Program} {f : FuncId} {args : Array Value} (u : Lat w) {v : Value} (h : Calls P f args u.1 fun e w' => e = .returned v ∧ Below u.1.heap.size u.1 w') :
    Calls P f args u.1 fun e w'' => e = .returned v ∧ ∃ u' : Lat w, w'' = u'.1 :=
  h.mono fun _ _ ⟨he, hb⟩ => ⟨he, ⟨_, u.2.trans (hb.mono u.2.size)⟩, rfl⟩
theorem Lat.call_same {P : Program} {f : FuncId} {args : Array Value} (u : Lat w) {v : Value} (h : Calls P f args u.1 fun e w' => e = .returned v ∧ u.1 = w') :
    Calls P f args u.1 fun e w'' => e = .returned v ∧ ∃ u' : Lat w, w'' = u'.1 :=
  h.mono fun _ _ ⟨he, hb⟩ => ⟨he, u, hb.symm⟩
theorem wpQuiet_mono {P : Program} {ops : Array Oper} {C : World → Prop} {Q Q' : Act → Prop} (h : ∀ a, Q a → Q' a) : ∀ {l : List Oper} {a : Act}, wpQuiet P ops C Q l a → wpQuiet P ops C Q' l a
  | [], a, hh => h a hh
  | o :: l, a, hh => by
    unfold wpQuiet at hh ⊢
    split
    · rename_i hw
      rw [if_pos hw] at hh
      exact Oper.quiet_mono (fun _ hk => wpQuiet_mono h hk) hh
    · rename_i hw
      rw [if_neg hw] at hh
      exact wpQuiet_mono h hh
theorem wp_region_lat {P : Program} {id : Nat} {Q : Exit → Act → World → Prop} {a : Act} {l : List Oper} (hm : P.follows .mixedOrders = true) (hB : Region.lexB .any l.toArray = true)
    (h : wpQuiet P l.toArray (fun w' => ∃ u : Lat w, w' = u.1) (fun a' => ∀ w', Below w.heap.size w w' → Q .normal a' w') l a) : (Code.region id l.toArray true).wp P Q a w :=
  wp_region_quiet (C := fun w' => ∃ u : Lat w, w' = u.1) hm hB ⟨⟨w.drew, (Below.refl _ _).drew⟩, rfl⟩ (by
    have := wpQuiet_mono (Q' := fun a' => ∀ w', (∃ u : Lat w, w' = u.1) → Q .normal a' w') (fun a' hh w' ⟨u, e⟩ => hh w' (by rw [e]; exact u.2)) h
    simpa using this)
end

/-! ### bytes as a text -/
theorem Reads.conv {P : Program} {W : World} {B n c : Nat} {A : Option Addr} {zs : List Int} (h : Reads W B 1 A n (nums .u8 zs)) {src dst e : TypeId} (hs : P.underlying src = some (.slice e)) (he : P.underlying e = some (.int .u8)) (hd : P.underlying dst = some .string) :
    (convert src dst (.slice A n c)).run P W = .ok (.string (strOfNums zs)) W := by
  have hl : zs.length = n := by have := h.1; simpa [nums] using this
  rcases Nat.eq_zero_or_pos n with h0 | hpos
  · subst h0
    have hz : zs = [] := List.eq_nil_of_length_eq_zero hl
    subst hz
    rcases A with _ | ⟨b, off, sp⟩
    · exact run_convert_bytes_nil W src e hs he 0 c dst hd
    · rw [run_convert_bytes_string W src dst e _ 0 c hs he hd]
      simp [Conv.bytesToString, loadCells, loadCellsFrom]
      rfl
  · obtain ⟨b, off, u, rfl, _, _, _⟩ := h.at_ hpos
    refine run_convert_bytes_arg W src e hs he b off n c zs hl (fun i hi => ?_) dst hd
    obtain ⟨b', off', u, hA, _, hu, hc⟩ := h.at_ hi
    injection hA with hA
    injection hA with h1 h2
    subst h1 h2
    obtain ⟨z, hz, rfl⟩ := nums_at hu
    rw [hc]
    simp [List.getD, hz]
theorem strOfNums_inj {xs ys : List Int} (hx : ∀ z ∈ xs, 0 ≤ z ∧ z < 256) (hy : ∀ z ∈ ys, 0 ≤ z ∧ z < 256) (h : (strOfNums xs).toList = (strOfNums ys).toList) : xs = ys := by
  rw [Lib.toList_data, Lib.toList_data, strOfNums_data, strOfNums_data] at h
  have back : ∀ l : List Int, (∀ z ∈ l, 0 ≤ z ∧ z < 256) → (l.map fun n => UInt8.ofNat n.toNat).map (fun u => ((u.toNat : Nat) : Int)) = l := by
    intro l hl
    rw [List.map_map]
    conv => rhs; rw [← List.map_id l]
    apply List.map_congr_left
    intro z hz
    have := hl z hz
    simp only [Function.comp, UInt8.toNat_ofNat', id]
    omega
  rw [← back xs hx, ← back ys hy, h]
theorem str_eq {xs ys : List Int} (hx : ∀ z ∈ xs, 0 ≤ z ∧ z < 256) (hy : ∀ z ∈ ys, 0 ≤ z ∧ z < 256) : ((strOfNums xs).toList == (strOfNums ys).toList) = (xs == ys) := by
  rw [Bool.eq_iff_iff, beq_iff_eq, beq_iff_eq]
  exact ⟨strOfNums_inj hx hy, fun h => by rw [h]⟩
end Go.Proofs.Ytlipeplfjkgamaa
