import Derived.Below
import Derived.BigQuiet
import Derived.ChangeKeysEq
import Derived.Deep.AppendLies
import Derived.Deep.Draws
import Derived.Deep.MidRow
import Derived.Deep.Onto
import Derived.Deep.OwnRows
import Derived.Deep.QuietTactic
import Derived.DeepKeys5
import Derived.IntWalk
import Derived.LaidEqlPtr
import Derived.Laws.AppendOwn
import Derived.Laws.Bits64b
import Derived.Laws.BitsAllLaws
import Derived.Laws.BitsLemmas
import Derived.Laws.BytesArg
import Derived.Laws.Cover2
import Derived.Laws.Entries
import Derived.Laws.Externs
import Derived.Laws.FloatArith
import Derived.Laws.MakeOwn
import Derived.Laws.NewFold
import Derived.Laws.OwnMore
import Derived.Laws.Pointers
import Derived.Laws.Rows
import Derived.Laws.Small
import Derived.Laws.StructEq
import Derived.Lib.Hide
import Derived.Lib.Strings
import Derived.LoopN
import Derived.Maps.AppendAt
import Derived.Maps.OwnSet
import Derived.OpenShut
import Derived.OrdersHeld
import Derived.OwnWalk
import Derived.ProofKit
import Derived.RegionTactic
import Derived.StringKeys
import Derived.Tactics
import Derived.Test.YtpomklkfedpkfaaGreatProg
import Derived.WalkKit
import Derived.WalkLawsBesides
import Derived.WalkSpells
import Ieee.Arith
/-
  What the law leans on, part 1: Base, Logic, Typs, Aux, FloPlain, FloLogic, WFloA, WRowA, CelData, ExaPlain, WExaA.
-/
namespace Go.Proofs.YtpomklkfedpkfaaGreat
open Go.RowKit
theorem block_of_add (a : Addr) (n : Nat) : (a.add n).block = a.block := by unfold Addr.add; split <;> rfl
theorem add_of_add (a : Addr) (i j : Nat) : (a.add i).add j = a.add (i + j) := by
  unfold Addr.add
  by_cases hi : i = 0 <;> by_cases hj : j = 0 <;> simp [hi, hj, Nat.add_assoc]
def Reads (w : World) (B size : Nat) (A : Option Addr) (n : Nat) (xs : List Value) : Prop :=
  xs.length = n * size ∧ (0 < n → ∃ ad, A = some ad ∧ ad.block < B ∧ ∀ j u, xs[j]? = some u → w.cell? (ad.add j) = some u)
section
variable {w w' : World} {B B' size n : Nat} {A : Option Addr} {xs : List Value}
theorem Reads.none_ : Reads w B size A 0 [] := ⟨by simp, fun h => absurd h (by omega)⟩
theorem Reads.at_ {k : Nat} (h : Reads w B 1 A n xs) (hk : k < n) : ∃ b off u, A = some ⟨b, off, none⟩ ∧ b < B ∧ xs[k]? = some u ∧ w.cell? ⟨b, off + k, none⟩ = some u := by
  obtain ⟨ad, e, hb, hc⟩ := h.2 (by omega)
  have hl : k < xs.length := by have := h.1; omega
  have hcell := hc k _ (List.getElem?_eq_getElem hl)
  obtain ⟨b, off, spot⟩ := ad
  have h0 := hc 0 _ (List.getElem?_eq_getElem (by omega))
  have hs : spot = none := by simpa [Addr.add] using World.cell?_spot h0
  subst hs
  refine ⟨b, off, xs[k], e, hb, List.getElem?_eq_getElem hl, ?_⟩
  by_cases h : k = 0
  · subst h; simpa [Addr.add] using hcell
  · simpa [Addr.add, h] using hcell
theorem Reads.keep (h : Reads w B size A n xs) (hk : ∀ p : Addr, p.block < B → w'.cell? p = w.cell? p) : Reads w' B size A n xs :=
  ⟨h.1, fun hn => by
    obtain ⟨ad, e, hb, hc⟩ := h.2 hn
    exact ⟨ad, e, hb, fun j u hu => (hk _ (by rw [block_of_add]; exact hb)).trans (hc j u hu)⟩⟩
theorem Reads.more (h : Reads w B size A n xs) (hB : B ≤ B') : Reads w B' size A n xs :=
  ⟨h.1, fun hn => by
    obtain ⟨ad, e, hb, hc⟩ := h.2 hn
    exact ⟨ad, e, by omega, hc⟩⟩
theorem Reads.below (h : Reads w B size A n xs) (hb : Below B w w') : Reads w' B size A n xs := h.keep fun _ hp => hb.cell hp
theorem Reads.drew (h : Reads w B size A n xs) : Reads w.drew B size A n xs := h
theorem Reads.alloc (h : Reads w B size A n xs) (hB : B ≤ w.heap.size) (o : Obj) : Reads (w.alloc o) B size A n xs := h.keep fun p hp => World.cell?_alloc_lt w o p (by omega)
theorem Reads.setCell (h : Reads w B size A n xs) {p : Addr} (hB : B ≤ p.block) (u : Value) : Reads (w.setCell p u) B size A n xs :=
  h.keep fun q hq => World.cell?_setCell_other w p q u (fun e => by subst e; omega)
theorem Reads.grown (h : Reads w B size A n xs) {row : Option Nat} (hg : w.grownBy w' row) (hB : B ≤ w.heap.size) (hr : ∀ g, row = some g → B ≤ g) : Reads w' B size A n xs :=
  h.keep fun p hp => World.cell?_of_block (hg.block p.block (by omega) (fun e => by have := hr _ e.symm; omega))
theorem Reads.cut (h : Reads w B size A n xs) {k cap : Nat} (hk : k ≤ n) (hc : n ≤ cap) :
    Reads w B size (if cap = k then A else A.map (·.add (k * size))) (n - k) (xs.drop (k * size)) := by
  refine ⟨by rw [List.length_drop, h.1, Nat.sub_mul], fun hn => ?_⟩
  obtain ⟨ad, rfl, hb, hcell⟩ := h.2 (by omega)
  rw [if_neg (by omega)]
  refine ⟨ad.add (k * size), rfl, by rw [block_of_add]; exact hb, fun j u hu => ?_⟩
  rw [add_of_add]
  exact hcell _ u (by rw [← hu, List.getElem?_drop])
theorem Reads.first (h : Reads w B size A n xs) {k : Nat} (hk : k ≤ n) : Reads w B size A k (xs.take (k * size)) := by
  refine ⟨by rw [List.length_take, h.1]; exact Nat.min_eq_left (Nat.mul_le_mul_right _ hk), fun hn => ?_⟩
  obtain ⟨ad, rfl, hb, hcell⟩ := h.2 (by omega)
  refine ⟨ad, rfl, hb, fun j u hu => hcell j u ?_⟩
  rw [List.getElem?_take] at hu
  split at hu
  · exact hu
  · cases hu
theorem Reads.of_own {base : Nat} {e : TypeId} {c : Nat} (h : w.ownsRow base e size (.slice A n c) n xs) : Reads w w.heap.size size A n xs := by
  refine ⟨h.1, fun hn => ?_⟩
  obtain ⟨g, cap, hv, _, hlt⟩ := h.form hn
  have hA : A = some ⟨g, 0, none⟩ := by injection hv
  subst hA
  exact ⟨_, rfl, hlt, h.cells (g := g) rfl⟩
end
theorem cell_new (w : World) (cs : Array Value) (t : TypeId) (m : Nat × Nat) (i : Nat) : (w.alloc (.cells cs t m)).cell? ⟨w.heap.size, i, none⟩ = cs[i]? := by
  have : (w.alloc (.cells cs t m)).heap[w.heap.size]? = some (.cells cs t m) := by
    show (w.heap.push _)[w.heap.size]? = _
    simp
  simp only [World.cell?]; rw [this]; rfl
theorem Reads.new (w : World) (l : List Value) (t : TypeId) (m : Nat × Nat) (n : Nat) (hn : n = l.length) : Reads (w.alloc (.cells l.toArray t m)) (w.heap.size + 1) 1 (some ⟨w.heap.size, 0, none⟩) n l := by
  subst hn
  refine ⟨by simp, fun _ => ⟨_, rfl, by simp, fun j u hu => ?_⟩⟩
  have e : (⟨w.heap.size, 0, none⟩ : Addr).add j = ⟨w.heap.size, j, none⟩ := by unfold Addr.add; split <;> simp_all
  rw [e, cell_new]
  simpa using hu
def nums (k : IntKind) (zs : List Int) : List Value := zs.map (Value.int k)
theorem nums_at {k : IntKind} {zs : List Int} {i : Nat} {u : Value} (h : (nums k zs)[i]? = some u) : ∃ z, zs[i]? = some z ∧ u = .int k z := by
  unfold nums at h
  rw [List.getElem?_map] at h
  cases hz : zs[i]? with
  | none => rw [hz] at h; cases h
  | some z => rw [hz] at h; injection h with h; exact ⟨z, rfl, h.symm⟩
theorem nums_length (k : IntKind) (zs : List Int) : (nums k zs).length = zs.length := by simp [nums]
end Go.Proofs.YtpomklkfedpkfaaGreat
namespace Go.Proofs.YtpomklkfedpkfaaGreat
open Go.RowKit
def Blk (w : World) (g : Nat) (t : TypeId) (cs : Array Value) : Prop := w.heap[g]? = some (.cells cs t (0, 0))
section
variable {w w' : World} {g : Nat} {t : TypeId} {cs : Array Value}
theorem Blk.lt (h : Blk w g t cs) : g < w.heap.size := by
  rcases Nat.lt_or_ge g w.heap.size with hlt | hge
  · exact hlt
  · unfold Blk at h; rw [Array.getElem?_eq_none hge] at h; cases h
theorem Blk.cell (h : Blk w g t cs) (i : Nat) : w.cell? ⟨g, i, none⟩ = cs[i]? := cell_of_row w g i cs t (0, 0) h
theorem Blk.new (w : World) (t : TypeId) (cs : Array Value) : Blk (w.alloc (.cells cs t)) w.heap.size t cs := heap_alloc_new w _
theorem Blk.drew (h : Blk w g t cs) : Blk w.drew g t cs := h
theorem Blk.alloc (h : Blk w g t cs) (o : Obj) : Blk (w.alloc o) g t cs := (Below.heap_alloc w o g h.lt).trans h
theorem Blk.below {B : Nat} (h : Blk w g t cs) (hb : Below B w w') (hg : g < B) : Blk w' g t cs := (hb.block g hg).trans h
theorem Blk.grown {row : Option Nat} (h : Blk w g t cs) (hb : w.grownBy w' row) (hg : some g ≠ row) : Blk w' g t cs := (hb.block g h.lt hg).trans h
theorem Blk.ne_ {g' : Nat} {t' : TypeId} {cs' : Array Value} (h : Blk w g t cs) (h' : Blk w g' t' cs') (hne : t ≠ t') : g ≠ g' := by
  rintro rfl
  unfold Blk at h h'
  rw [h] at h'
  injection h' with h'
  injection h' with _ ht
  exact hne ht
theorem own_blk_ne {base : Nat} {e : TypeId} {size n : Nat} {v : Value} {xs : List Value} (h : w.ownsRow base e size v n xs) (hg : Blk w g t cs) (hne : e ≠ t) : v.ownBlock ≠ some g := by
  rcases h.2 with ⟨rfl, _⟩ | ⟨g', cap, cur, rfl, _, hh, _⟩
  · simp [Value.ownBlock]
  · intro he
    have : g' = g := by simpa [Value.ownBlock] using he
    subst this
    exact Blk.ne_ (t := e) hh hg hne rfl
end
section
variable {P : Program} (w : World)
theorem run_append_of_nil (base : Nat) (t ty e : TypeId) (i : TypeInfo) (size : Nat) (ht : P.underlying t = some (.slice e)) (hi : P.info? e = some i)
    (v : Value) (n : Nat) (xs : List Value) (hown : w.ownsRow base e size v n xs) (c : Nat) : (Builtin.append_ #[t, t] ty #[v, .slice none 0 c]).run P w = .ok v w := by
  rcases hown.2 with ⟨rfl, rfl⟩ | ⟨g, cap, cur, rfl, _, _, hnc, _⟩
  · simp [Builtin.append_, run_underlying ht, sizeOf, typeInfo, hi, Builtin.lenOf, Builtin.firstCells]
  · simp [Builtin.append_, run_underlying ht, sizeOf, typeInfo, hi, Builtin.lenOf, Builtin.firstCells, hnc, storeCells]
theorem run_append_any (base : Nat) (t ty e : TypeId) (i : TypeInfo) (z : Value) (size bytes : Nat) (ht : P.underlying t = some (.slice e)) (hi : P.info? e = some i) (hz : i.zero = some z)
    (hsize : i.size = size) (hby : i.bytes = bytes) (hzs : z.cells.size = size) (hsz : 0 < size)
    (v : Value) (n : Nat) (xs : List Value) (hown : w.ownsRow base e size v n xs)
    (B : Nat) (A : Option Addr) (m c : Nat) (news : List Value) (hr : Reads w B size A m news) (h1 : ∀ u ∈ news, u.oneCell' = true)
    (h63 : n + m ≤ maxLen) (hbytes : (n + m) * bytes ≤ 140737488355328) (hbase : base ≤ w.heap.size) :
    ∃ v' w', (Builtin.append_ #[t, t] ty #[v, .slice A m c]).run P w = .ok v' w' ∧ w'.ownsRow base e size v' (n + m) (xs ++ news) ∧ w.grownBy w' v.ownBlock ∧
      (v'.ownBlock = v.ownBlock ∨ v'.ownBlock = some w.heap.size) := by
  rcases A with _ | ad
  · have hm : m = 0 := by
      rcases Nat.eq_zero_or_pos m with h0 | h0
      · exact h0
      · obtain ⟨ad, h, _⟩ := hr.2 h0
        cases h
    subst hm
    have hn : news = [] := List.eq_nil_of_length_eq_zero (by simpa using hr.1)
    subst hn
    exact ⟨v, w, run_append_of_nil w base t ty e i size ht hi v n xs hown c, by simpa using hown, World.grownBy.refl w _, .inl rfl⟩
  · have hcells : ∀ j u, news[j]? = some u → w.cell? (ad.add j) = some u := by
      intro j u hu
      rcases Nat.eq_zero_or_pos m with h0 | h0
      · subst h0
        have hn : news = [] := List.eq_nil_of_length_eq_zero (by simpa using hr.1)
        subst hn
        simp at hu
      · obtain ⟨ad', h, _, hc⟩ := hr.2 h0
        injection h with h
        subst h
        exact hc j u hu
    obtain ⟨v', w', hrun, h2, h3, _, h5⟩ := run_append_own_at (P := P) w base t ty e i z size bytes ht hi hz hsize hby hzs hsz v n xs hown ad m c news hr.1 hcells h1 h63 hbytes hbase
    exact ⟨v', w', hrun, h2, h3, h5⟩
theorem wp_append_any {o : Oper} {a : Act} {K : Act → World → Prop} {Q : Exit → Act → World → Prop} (s x : Operand) (t : TypeId)
    (ho : o.op = .call { callee := .builtin .append, args := #[s, x], argTypes := #[t, t] })
    (base : Nat) (e : TypeId) (i : TypeInfo) (z : Value) (size bytes : Nat) (ht : P.underlying t = some (.slice e)) (hi : P.info? e = some i) (hz : i.zero = some z)
    (hsize : i.size = size) (hby : i.bytes = bytes) (hzs : z.cells.size = size) (hsz : 0 < size)
    (v : Value) (n : Nat) (xs : List Value) (hs : a.eval s = v) (hown : w.ownsRow base e size v n xs)
    (B : Nat) (A : Option Addr) (m c : Nat) (news : List Value) (hx : a.eval x = .slice A m c) (hr : Reads w B size A m news) (h1 : ∀ u ∈ news, u.oneCell' = true)
    (h63 : n + m ≤ maxLen) (hbytes : (n + m) * bytes ≤ 140737488355328) (hbase : base ≤ w.heap.size)
    (h : ∀ v' w', w'.ownsRow base e size v' (n + m) (xs ++ news) → w.grownBy w' v.ownBlock → (v'.ownBlock = v.ownBlock ∨ v'.ownBlock = some w.heap.size) → K (a.put o.dst v') w') : o.wp P a w K Q := by
  obtain ⟨v', w', hrun, h2, h3, h4⟩ := run_append_any (P := P) w base t o.type e i z size bytes ht hi hz hsize hby hzs hsz v n xs hown B A m c news hr h1 h63 hbytes hbase
  unfold Oper.wp execOp
  simp only [ho, resolve, invoke, builtin, Sem.run_bind, Sem.run_pure, Result.andThen_ok, List.map_toArray, List.map_cons, List.map_nil, hs, hx, hrun]
  exact h v' w' h2 h3 h4
end
theorem run_make_rowN {P : Program} (t e : TypeId) (i : TypeInfo) (z : Value) (ht : P.underlying t = some (.slice e)) (hi : P.info? e = some i) (hz : i.zero = some z)
    (kl kc : IntKind) (n c : Nat) (hnc : n ≤ c) (hbytes : i.bytes * c ≤ 281474976710656) (h63 : c ≤ 9223372036854775807) (w : World) :
    (Instr.makeSlice t (.int kl (n : Int)) (.int kc (c : Int))).run P w = .ok (.slice (some ⟨w.heap.size, 0, none⟩) n c) (w.alloc (.cells (madeCells z.cells (c * i.size)) e)) := by
  have hb : (i.bytes : Int) * (c : Int) ≤ 281474976710656 := by
    have h : ((i.bytes * c : Nat) : Int) ≤ 281474976710656 := by omega
    rwa [Int.natCast_mul] at h
  have hr := run_make (P := P) w t e i z ht hi hz kl kc n c (by omega) (by omega) hb (by omega)
  simp only [Int.toNat_natCast] at hr
  exact hr
end Go.Proofs.YtpomklkfedpkfaaGreat
namespace Go.Proofs.YtpomklkfedpkfaaGreat
open Go.RowKit Go.ChangeShapes Go.WideShapes
structure Nm (k : IntKind) where
  z : Int
  ok : (Lit.int k z).wf = true
structure Str where
  s : ByteArray
  ok : s.size ≤ maxLen
structure Fl where
  b : Nat
  ok : (Lit.float .f64 b).wf = true
structure Vec (n : Nat) (α : Type) where
  l : List α
  len : l.length = n
class Lay (α : Type) where
  size : Nat
  lies : World → Nat → List Value → α → Prop
  length : ∀ {w : World} {B : Nat} {vs : List Value} {a : α}, lies w B vs a → vs.length = size
  keep : ∀ {w w' : World} {B : Nat} {vs : List Value} {a : α}, lies w B vs a → (∀ p : Addr, p.block < B → w'.cell? p = w.cell? p) → lies w' B vs a
  more : ∀ {w : World} {B B' : Nat} {vs : List Value} {a : α}, lies w B vs a → B ≤ B' → lies w B' vs a
instance (k : IntKind) : Lay (Nm k) where
  size := 1
  lies _ _ vs a := vs = [.int k a.z]
  length h := by rw [h]; rfl
  keep h _ := h
  more h _ := h
instance : Lay Bool where
  size := 1
  lies _ _ vs a := vs = [.bool a]
  length h := by rw [h]; rfl
  keep h _ := h
  more h _ := h
instance : Lay Str where
  size := 1
  lies _ _ vs a := vs = [.string a.s]
  length h := by rw [h]; rfl
  keep h _ := h
  more h _ := h
instance : Lay Fl where
  size := 1
  lies _ _ vs a := vs = [.float .f64 a.b]
  length h := by rw [h]; rfl
  keep h _ := h
  more h _ := h
instance {α β : Type} [Lay α] [Lay β] : Lay (α × β) where
  size := Lay.size α + Lay.size β
  lies w B vs a := ∃ us ws, vs = us ++ ws ∧ Lay.lies w B us a.1 ∧ Lay.lies w B ws a.2
  length := by rintro w B vs a ⟨us, ws, rfl, h1, h2⟩; rw [List.length_append, Lay.length h1, Lay.length h2]
  keep := by rintro w w' B vs a ⟨us, ws, rfl, h1, h2⟩ hk; exact ⟨us, ws, rfl, Lay.keep h1 hk, Lay.keep h2 hk⟩
  more := by rintro w B B' vs a ⟨us, ws, rfl, h1, h2⟩ hk; exact ⟨us, ws, rfl, Lay.more h1 hk, Lay.more h2 hk⟩
def LiesAt {α : Type} [Lay α] (w : World) (B : Nat) (ad : Addr) (i : Nat) (a : α) : Prop :=
  ∃ us : List Value, (∀ j, j < Lay.size α → w.cell? (ad.add (i * Lay.size α + j)) = us[j]?) ∧ Lay.lies w B us a
theorem LiesAt.keep {α : Type} [Lay α] {w w' : World} {B : Nat} {ad : Addr} {i : Nat} {a : α} (h : LiesAt w B ad i a) (hb : ad.block < B) (hk : ∀ p : Addr, p.block < B → w'.cell? p = w.cell? p) : LiesAt w' B ad i a := by
  obtain ⟨us, hc, hl⟩ := h
  exact ⟨us, fun j hj => (hk _ (by rw [block_of_add]; exact hb)).trans (hc j hj), Lay.keep hl hk⟩
theorem LiesAt.more {α : Type} [Lay α] {w : World} {B B' : Nat} {ad : Addr} {i : Nat} {a : α} (h : LiesAt w B ad i a) (hB : B ≤ B') : LiesAt w B' ad i a := by
  obtain ⟨us, hc, hl⟩ := h
  exact ⟨us, hc, Lay.more hl hB⟩
def LiesSlice {α : Type} [Lay α] (w : World) (B : Nat) (A : Option Addr) (n : Nat) (xs : List α) : Prop :=
  xs.length = n ∧ (0 < n → ∃ ad, A = some ad ∧ ad.block < B ∧ ∀ i a, xs[i]? = some a → LiesAt w B ad i a)
theorem LiesSlice.keep {α : Type} [Lay α] {w w' : World} {B n : Nat} {A : Option Addr} {xs : List α} (h : LiesSlice w B A n xs) (hk : ∀ p : Addr, p.block < B → w'.cell? p = w.cell? p) : LiesSlice w' B A n xs :=
  ⟨h.1, fun hn => by
    obtain ⟨ad, e, hb, hc⟩ := h.2 hn
    exact ⟨ad, e, hb, fun i a hi => (hc i a hi).keep hb hk⟩⟩
theorem LiesSlice.more {α : Type} [Lay α] {w : World} {B B' n : Nat} {A : Option Addr} {xs : List α} (h : LiesSlice w B A n xs) (hB : B ≤ B') : LiesSlice w B' A n xs :=
  ⟨h.1, fun hn => by
    obtain ⟨ad, e, hb, hc⟩ := h.2 hn
    exact ⟨ad, e, by omega, fun i a hi => (hc i a hi).more hB⟩⟩
instance {α : Type} [Lay α] : Lay (List α) where
  size := 1
  lies w B vs a := ∃ A n c, vs = [.slice A n c] ∧ n ≤ c ∧ c ≤ maxLen ∧ (A = none → c = 0) ∧ LiesSlice w B A n a
  length := by rintro w B vs a ⟨A, n, c, rfl, _⟩; rfl
  keep := by rintro w w' B vs a ⟨A, n, c, rfl, h1, h2, h3, h4⟩ hk; exact ⟨A, n, c, rfl, h1, h2, h3, h4.keep hk⟩
  more := by rintro w B B' vs a ⟨A, n, c, rfl, h1, h2, h3, h4⟩ hB; exact ⟨A, n, c, rfl, h1, h2, h3, h4.more hB⟩
instance {α : Type} [Lay α] {n : Nat} : Lay (Vec n α) where
  size := n * Lay.size α
  lies w B vs a := vs.length = n * Lay.size α ∧ ∀ i x, a.l[i]? = some x → Lay.lies w B ((vs.drop (i * Lay.size α)).take (Lay.size α)) x
  length h := h.1
  keep h hk := ⟨h.1, fun i x hx => Lay.keep (h.2 i x hx) hk⟩
  more h hB := ⟨h.1, fun i x hx => Lay.more (h.2 i x hx) hB⟩
def Opens (P : Program) (t : TypeId) (α : Type) [Lay α] : Prop :=
  ∀ {H : Type} {enc : TypeId × Value → H} {w : World} {fuel : Nat} {cs : List Value} {x : DataW H × List MemPlace},
    DataW.trod enc P w 0 (fun _ => true) true fuel t cs = some x → ∃ a : α, ∀ B, (∀ p ∈ x.2, p.block < B) → Lay.lies w B cs a
section
variable {P : Program} {t e : TypeId}
theorem opens_int {k : IntKind} (ht : P.underlying t = some (.int k)) : Opens P t (Nm k) := by
  intro H enc w fuel cs x h
  obtain ⟨n, rfl, _, hw⟩ := DataW.trod_int ht h
  exact ⟨⟨n, hw⟩, fun _ _ => rfl⟩
theorem opens_string (ht : P.underlying t = some .string) : Opens P t Str := by
  intro H enc w fuel cs x h
  obtain ⟨s, rfl, _, hs⟩ := DataW.trod_string ht h
  exact ⟨⟨s, hs⟩, fun _ _ => rfl⟩
theorem opens_float (ht : P.underlying t = some (.float .f64)) : Opens P t Fl := by
  intro H enc w fuel cs x h
  cases fuel with
  | zero => simp [DataW.trod] at h
  | succ n =>
    unfold DataW.trod at h
    rw [ht] at h
    split at h <;> simp_all
    rename_i k' b hk
    subst hk
    exact ⟨⟨b, h.1.2⟩, fun _ _ => rfl⟩
theorem opens_slice {α : Type} [Lay α] (ht : P.underlying t = some (.slice e)) (he : Opens P e α) (hc : P.cellsOf e = Lay.size α) (hp : 0 < Lay.size α) : Opens P t (List α) := by
  intro H enc w fuel cs x h
  rcases DataW.trod_slice ht h with ⟨rfl, rfl⟩ | ⟨a, len, cap, elems, rest, n, _, rfl, rfl, _, hl, hm, hlen, hel, _, _⟩
  · exact ⟨[], fun _ _ => ⟨none, 0, 0, rfl, Nat.le_refl _, Nat.zero_le _, fun _ => rfl, rfl, fun h0 => absurd h0 (Nat.lt_irrefl 0)⟩⟩
  · have each : ∀ i : Nat, i < len → ∃ v : α, ∀ B, (∀ y, elems[i]? = some y → ∀ p ∈ y.2, p.block < B) → LiesAt w B a i v := by
      intro i hi
      have hy : elems[i]? = some (elems[i]'(by omega)) := List.getElem?_eq_getElem (by omega)
      have h1 := hel i hi
      rw [hy] at h1
      obtain ⟨us, hu, ht'⟩ := Option.bind_eq_some_iff.1 h1
      obtain ⟨_, hul, hcell⟩ := World.cells?_some hu
      obtain ⟨v, hv⟩ := he ht'
      refine ⟨v, fun B hB => ⟨us, fun j hj => ?_, hv B (fun p hp' => hB _ hy p hp')⟩⟩
      rw [← hcell j (by omega), hc, add_of_add]
    have hch : ∃ f : Nat → Option α, ∀ i, i < len → ∃ v, f i = some v ∧ ∀ B, (∀ y, elems[i]? = some y → ∀ p ∈ y.2, p.block < B) → LiesAt w B a i v := by
      refine ⟨fun i => if hi : i < len then some (Classical.choose (each i hi)) else none, fun i hi => ⟨_, by simp only [hi, dif_pos], Classical.choose_spec (each i hi)⟩⟩
    obtain ⟨f, hf⟩ := hch
    have hx : ∃ xs : List α, xs.length = len ∧ ∀ i v, xs[i]? = some v → ∀ B, (∀ y, elems[i]? = some y → ∀ p ∈ y.2, p.block < B) → LiesAt w B a i v := by
      have key : ∀ m, m ≤ len → ∃ xs : List α, xs.length = m ∧ ∀ i v, xs[i]? = some v → ∀ B, (∀ y, elems[i]? = some y → ∀ p ∈ y.2, p.block < B) → LiesAt w B a i v := by
        intro m
        induction m with
        | zero => intro _; exact ⟨[], rfl, fun i v h0 => by simp at h0⟩
        | succ m ih =>
          intro hm'
          obtain ⟨xs, hxl, hxs⟩ := ih (by omega)
          obtain ⟨v, _, hv⟩ := hf m (by omega)
          refine ⟨xs ++ [v], by simp [hxl], fun i u hu => ?_⟩
          rw [List.getElem?_append] at hu
          split at hu
          · exact hxs i u hu
          · rename_i hi
            have : i - xs.length = 0 := by
              rcases Nat.eq_zero_or_pos (i - xs.length) with h0 | h0
              · exact h0
              · rw [List.getElem?_eq_none (by simp; omega)] at hu; cases hu
            rw [this] at hu
            obtain rfl : i = m := by omega
            injection hu with hu
            subst hu
            exact hv
      exact key len (Nat.le_refl _)
    obtain ⟨xs, hxl, hxs⟩ := hx
    refine ⟨xs, fun B hB => ⟨some a, len, cap, rfl, hl, hm, (fun h0 => by cases h0), hxl, fun hn => ⟨a, rfl, ?_, fun i v hv => hxs i v hv B ?_⟩⟩⟩
    · refine hB (.cell a.block (a.off + 0)) ?_
      simp only [MemPlace.row, List.mem_append, List.mem_map, List.mem_range]
      left
      refine ⟨0, ?_, rfl⟩
      rw [hc, hlen]
      exact Nat.mul_pos (by omega) hp
    · intro y hy p hp'
      refine hB p ?_
      simp only [List.mem_append, List.mem_flatMap]
      exact Or.inr ⟨y, Or.inl (List.mem_of_getElem? hy), hp'⟩
def OpensF (P : Program) (fs : List Field) (off : Nat) (α : Type) [Lay α] : Prop :=
  ∀ {H : Type} {enc : TypeId × Value → H} {w : World} {n : Nat} {cs : List Value} {xs : List (DataW H × List MemPlace)}, xs.length = fs.length → cs.length = off + Lay.size α →
    (∀ (i : Nat) (f : Field), fs[i]? = some f → DataW.trod enc P w 0 (fun _ => true) true n f.type ((cs.drop f.offset).take (P.cellsOf f.type)) = xs[i]?) → ∃ a : α, ∀ B, (∀ x ∈ xs, ∀ p ∈ x.2, p.block < B) → Lay.lies w B (cs.drop off) a
theorem opensF_one {α : Type} [Lay α] {f : Field} {off : Nat} (ho : f.offset = off) (h : Opens P f.type α) (hc : P.cellsOf f.type = Lay.size α) : OpensF P [f] off α := by
  intro H enc w n cs xs hl hcs hi
  match xs, hl with
  | [x], _ =>
    have h0 := hi 0 f rfl
    rw [hc, ho, List.take_of_length_le (by simp; omega)] at h0
    obtain ⟨a, ha⟩ := h (show _ = some x from h0)
    exact ⟨a, fun B hB => ha B (hB x (by simp))⟩
theorem opensF_cons {α β : Type} [Lay α] [Lay β] {f : Field} {fs : List Field} {off off' : Nat} (ho : f.offset = off) (h : Opens P f.type α) (hc : P.cellsOf f.type = Lay.size α) (hs : OpensF P fs off' β) (ho' : off' = off + Lay.size α) : OpensF P (f :: fs) off (α × β) := by
  intro H enc w n cs xs hl hcs hi
  have hsz : Lay.size (α × β) = Lay.size α + Lay.size β := rfl
  match xs, hl with
  | x :: xs, hl =>
    have h0 := hi 0 f rfl
    rw [hc, ho] at h0
    obtain ⟨a, ha⟩ := h (show _ = some x from h0)
    obtain ⟨b, hb⟩ := hs (cs := cs) (xs := xs) (by simpa using hl) (by rw [hcs, hsz, ho']; omega) (fun i g hg => hi (i + 1) g hg)
    refine ⟨(a, b), fun B hB => ⟨(cs.drop off).take (Lay.size α), cs.drop off', ?_, ha B (hB x (by simp)), hb B (fun y hy => hB y (by simp [hy]))⟩⟩
    rw [ho', ← List.drop_drop, List.take_append_drop]
theorem opens_struct {α : Type} [Lay α] {fs : Array Field} (ht : P.underlying t = some (.struct fs)) (hf : OpensF P fs.toList 0 α) (hc : P.cellsOf t = Lay.size α) : Opens P t α := by
  intro H enc w fuel cs x h
  obtain ⟨xs, n, _, rfl, hcl, hxl, hi⟩ := DataW.trod_struct ht h
  obtain ⟨a, ha⟩ := hf (cs := cs) (xs := xs) (by simpa using hxl) (by rw [hcl, hc]; omega) (fun i f hf' => hi i f (by simpa using hf'))
  refine ⟨a, fun B hB => ?_⟩
  have := ha B (fun y hy p hp => hB p (by simp only [List.mem_flatMap]; exact ⟨y, hy, hp⟩))
  simpa using this
end
section
variable {H : Type} {enc : TypeId × Value → H} {P : Program} {w : World} {r : Reach} {b0 : Nat} {t e : TypeId} {v : Value} {d : DataW H} {ps : List MemPlace}
theorem arg_struct {α : Type} [Lay α] {fs : Array Field} (ho : Opens P t α) (ht : P.underlying t = some (.struct fs)) (hv : Value.okWide P w r b0 t v) (h : DataW.Trod enc P w 0 (fun _ => true) true t v d ps) (hb : ∀ p ∈ ps, p.block < w.heap.size) :
    ∃ vs : List Value, ∃ a : α, v = .agg vs.toArray ∧ Lay.lies w w.heap.size vs a := by
  obtain ⟨cs, rfl, _⟩ := okWide_struct ht hv
  obtain ⟨fuel, hf⟩ := h
  obtain ⟨a, ha⟩ := ho hf
  exact ⟨cs.toList, a, rfl, ha _ hb⟩
end
def zsOf {k : IntKind} (xs : List (Nm k)) : List Int := xs.map (·.z)
theorem LiesSlice.reads {k : IntKind} {w : World} {B n : Nat} {A : Option Addr} {xs : List (Nm k)} (h : LiesSlice w B A n xs) : Reads w B 1 A n (nums k (zsOf xs)) := by
  refine ⟨by simp [nums, zsOf, h.1], fun hn => ?_⟩
  obtain ⟨ad, e, hb, hc⟩ := h.2 hn
  refine ⟨ad, e, hb, fun j u hu => ?_⟩
  simp only [nums, zsOf, List.getElem?_map, Option.map_eq_some_iff] at hu
  obtain ⟨z, ⟨x, hx, rfl⟩, rfl⟩ := hu
  obtain ⟨us, hus, hl⟩ := hc j x hx
  obtain rfl : us = [.int k x.z] := hl
  have := hus 0 (show 0 < 1 by decide)
  simpa [show Lay.size (Nm k) = 1 from rfl] using this
theorem zsOf_u8 (xs : List (Nm .u8)) : ∀ z ∈ zsOf xs, 0 ≤ z ∧ z < 256 := by
  intro z hz
  simp only [zsOf, List.mem_map] at hz
  obtain ⟨x, _, rfl⟩ := hz
  have := x.ok
  simp [Lit.wf, IntKind.min, IntKind.max, IntKind.signed, IntKind.bits] at this
  omega
theorem Nm.u32 (x : Nm .u32) : 0 ≤ x.z ∧ x.z < 4294967296 := by
  have := x.ok
  simp [Lit.wf, IntKind.min, IntKind.max, IntKind.signed, IntKind.bits] at this
  omega
theorem Nm.u8 (x : Nm .u8) : 0 ≤ x.z ∧ x.z < 256 := by
  have := x.ok
  simp [Lit.wf, IntKind.min, IntKind.max, IntKind.signed, IntKind.bits] at this
  omega
theorem Nm.u64 (x : Nm .u64) : 0 ≤ x.z ∧ x.z ≤ 18446744073709551615 := by
  have := x.ok
  simp [Lit.wf, IntKind.min, IntKind.max, IntKind.signed, IntKind.bits] at this
  omega
theorem Nm.i64 (x : Nm .i64) : -9223372036854775808 ≤ x.z ∧ x.z ≤ 9223372036854775807 := by
  have := x.ok
  simp [Lit.wf, IntKind.min, IntKind.max, IntKind.signed, IntKind.bits] at this
  omega
end Go.Proofs.YtpomklkfedpkfaaGreat
namespace Go.Proofs.YtpomklkfedpkfaaGreat
namespace Mk
def sb (a b : Nat) : Bool := a &&& b == a
theorem sb_iff {a b : Nat} : sb a b = true ↔ ∀ i, a.testBit i = true → b.testBit i = true := by
  unfold sb
  rw [beq_iff_eq]
  constructor
  · intro h i hi
    rw [← h, Nat.testBit_and, Bool.and_eq_true] at hi
    exact hi.2
  · intro h
    apply Nat.eq_of_testBit_eq
    intro i
    rw [Nat.testBit_and]
    cases ha : a.testBit i with
    | false => rfl
    | true => rw [h i ha]; rfl
theorem andNot_zero {a b : Nat} (ha : a < 4294967296) (hb : b < 4294967296) : (a &&& (4294967295 - b)) = 0 ↔ sb a b = true := by
  rw [sb_iff]
  have ht : ∀ i, (4294967295 - b).testBit i = (decide (i < 32) && !b.testBit i) := by
    intro i
    have := Nat.testBit_two_pow_sub_succ (n := 32) (x := b) (by simpa using hb) i
    rwa [show 2 ^ 32 - (b + 1) = 4294967295 - b by omega] at this
  constructor
  · intro h i hi
    have h0 : (a &&& (4294967295 - b)).testBit i = false := by rw [h]; simp
    rw [Nat.testBit_and, ht, hi] at h0
    have hi32 : i < 32 := by
      rcases Nat.lt_or_ge i 32 with h' | h'
      · exact h'
      · have : a < 2 ^ i := Nat.lt_of_lt_of_le ha (by rw [show 4294967296 = 2 ^ 32 by decide]; exact Nat.pow_le_pow_right (by decide) h')
        rw [Nat.testBit_lt_two_pow this] at hi
        cases hi
    simpa [hi32] using h0
  · intro h
    apply Nat.eq_of_testBit_eq
    intro i
    rw [Nat.testBit_and, ht]
    cases hai : a.testBit i with
    | false => simp
    | true => simp [h i hai]
end Mk
end Go.Proofs.YtpomklkfedpkfaaGreat
namespace Go.Proofs.YtpomklkfedpkfaaGreat
set_option maxRecDepth 100000
open Go.RowKit
theorem ownsRow_slice {w : World} {base : Nat} {e : TypeId} {size : Nat} {v : Value} {n : Nat} {xs : List Value} (h : w.ownsRow base e size v n xs) : ∃ A c, v = .slice A n c := by
  rcases h.2 with ⟨rfl, rfl⟩ | ⟨g, cap, cur, rfl, _⟩
  · exact ⟨none, 0, rfl⟩
  · exact ⟨_, cap, rfl⟩
theorem below_grown {base : Nat} {e : TypeId} {size : Nat} {v : Value} {n : Nat} {xs : List Value} {w w' : World} (h : w.ownsRow base e size v n xs) (hg : w.grownBy w' v.ownBlock) (hb : base ≤ w.heap.size) : Below base w w' :=
  (Below.refl _ _).grown hg hb fun k hk => (h.lt k hk).1
section
variable {P : Program} {w : World} {ops : Array Oper} {rest : List Oper} {o : Oper} {a : Act} {Q : Exit → Act → World → Prop}
end
theorem nums_one (k : IntKind) (zs : List Int) : ∀ u ∈ nums k zs, u.oneCell' = true := by
  intro u hu
  simp only [nums, List.mem_map] at hu
  obtain ⟨z, _, rfl⟩ := hu
  rfl
theorem nums_append (k : IntKind) (xs ys : List Int) : nums k xs ++ nums k ys = nums k (xs ++ ys) := by simp [nums]
theorem own_reads {w : World} {base : Nat} {e : TypeId} {n c : Nat} {A : Option Addr} {xs : List Value} (h : w.ownsRow base e 1 (.slice A n c) n xs) : Reads w w.heap.size 1 A n xs := Reads.of_own h
theorem own_bd {w : World} {base : Nat} {e : TypeId} {size n c : Nat} {A : Option Addr} {xs : List Value} (h : w.ownsRow base e size (.slice A n c) n xs) : n ≤ c ∧ c ≤ maxLen := by
  rcases h.2 with ⟨h', rfl⟩ | ⟨g, cap, cur, h', _, _, h1, h2, _⟩
  · injection h' with _ _ h3
    subst h3
    exact ⟨Nat.le_refl _, Nat.zero_le _⟩
  · injection h' with _ _ h3
    subst h3
    exact ⟨h1, h2⟩
end Go.Proofs.YtpomklkfedpkfaaGreat
namespace Go.Proofs.YtpomklkfedpkfaaGreat
set_option maxRecDepth 100000
open Go.RowKit
def Lat (w : World) : Type := {u : World // Below w.heap.size w u}
instance (w : World) : Nonempty (Lat w) := ⟨⟨w, Below.refl _ _⟩⟩
section
variable {w : World}
theorem Lat.cell (u : Lat w) {p : Addr} (hp : p.block < w.heap.size) : u.1.cell? p = w.cell? p := u.2.cell hp
theorem Lat.size (u : Lat w) : w.heap.size ≤ u.1.heap.size := u.2.size
theorem Lat.reads (u : Lat w) {B size n : Nat} {A : Option Addr} {xs : List Value} (h : Reads w B size A n xs) (hB : B ≤ w.heap.size) : Reads u.1 u.1.heap.size size A n xs :=
  ((h.more hB).below u.2).more u.2.size
theorem Lat.call {P : Program} {f : FuncId} {args : Array Value} (u : Lat w) {v : Value} (h : Calls P f args u.1 fun e w' => e = .returned v ∧ Below u.1.heap.size u.1 w') :
    Calls P f args u.1 fun e w'' => e = .returned v ∧ ∃ u' : Lat w, w'' = u'.1 :=
  h.mono fun _ _ ⟨he, hb⟩ => ⟨he, ⟨_, u.2.trans (hb.mono u.2.size)⟩, rfl⟩
theorem wpQuiet_mono {P : Program} {ops : Array Oper} {C : World → Prop} {Q Q' : Act → Prop} (h : ∀ a, Q a → Q' a) : ∀ {l : List Oper} {a : Act}, wpQuiet P ops C Q l a → wpQuiet P ops C Q' l a
  | [], a, hh => h a hh
  | o :: l, a, hh => by
    unfold wpQuiet at hh ⊢
    split
    · rename_i hw
      rw [if_pos hw] at hh
      exact Oper.quiet_mono (fun _ hk => wpQuiet_mono h hk) hh
    · rename_i hw
      rw [if_neg hw] at hh
      exact wpQuiet_mono h hh
end
theorem Reads.conv {P : Program} {W : World} {B n c : Nat} {A : Option Addr} {zs : List Int} (h : Reads W B 1 A n (nums .u8 zs)) {src dst e : TypeId} (hs : P.underlying src = some (.slice e)) (he : P.underlying e = some (.int .u8)) (hd : P.underlying dst = some .string) :
    (convert src dst (.slice A n c)).run P W = .ok (.string (strOfNums zs)) W := by
  have hl : zs.length = n := by have := h.1; simpa [nums] using this
  rcases Nat.eq_zero_or_pos n with h0 | hpos
  · subst h0
    have hz : zs = [] := List.eq_nil_of_length_eq_zero hl
    subst hz
    rcases A with _ | ⟨b, off, sp⟩
    · exact run_convert_bytes_nil W src e hs he 0 c dst hd
    · rw [run_convert_bytes_string W src dst e _ 0 c hs he hd]
      simp [Conv.bytesToString, loadCells, loadCellsFrom]
      rfl
  · obtain ⟨b, off, u, rfl, _, _, _⟩ := h.at_ hpos
    refine run_convert_bytes_arg W src e hs he b off n c zs hl (fun i hi => ?_) dst hd
    obtain ⟨b', off', u, hA, _, hu, hc⟩ := h.at_ hi
    injection hA with hA
    injection hA with h1 h2
    subst h1 h2
    obtain ⟨z, hz, rfl⟩ := nums_at hu
    rw [hc]
    simp [List.getD, hz]
theorem strOfNums_inj {xs ys : List Int} (hx : ∀ z ∈ xs, 0 ≤ z ∧ z < 256) (hy : ∀ z ∈ ys, 0 ≤ z ∧ z < 256) (h : (strOfNums xs).toList = (strOfNums ys).toList) : xs = ys := by
  rw [Lib.toList_data, Lib.toList_data, strOfNums_data, strOfNums_data] at h
  have back : ∀ l : List Int, (∀ z ∈ l, 0 ≤ z ∧ z < 256) → (l.map fun n => UInt8.ofNat n.toNat).map (fun u => ((u.toNat : Nat) : Int)) = l := by
    intro l hl
    rw [List.map_map]
    conv => rhs; rw [← List.map_id l]
    apply List.map_congr_left
    intro z hz
    have := hl z hz
    simp only [Function.comp, UInt8.toNat_ofNat', id]
    omega
  rw [← back xs hx, ← back ys hy, h]
end Go.Proofs.YtpomklkfedpkfaaGreat
namespace Go.Proofs.YtpomklkfedpkfaaGreat.H
open Go.RowKit
set_option linter.unusedSimpArgs false
abbrev Fr := Nat → Value
def lk : List (Nat × Value) → Fr → Fr
  | [], b, j => b j
  | (k, v) :: t, b, j => bif Nat.beq j k then v else lk t b j
def hav (M : List Nat) (g b : Fr) : Fr := fun j => bif M.contains j then g j else b j
def ev (f : Fr) : Operand → Value
  | .tmp t => f t
  | .const v => v
  | .global g => .pointer (some ⟨g, 0, none⟩)
  | .func n => .func (.func n) #[] #[]
structure Rep (n : Nat) (f : Fr) (a : Act) : Prop where
  size : a.tmps.size = n
  defers : a.defers = []
  get : ∀ j, a.tmps.getD j undef = f j
def lft (n : Nat) (Q : Exit → Fr → World → Prop) (e : Exit) (a : Act) (w : World) : Prop := ∃ f, Rep n f a ∧ Q e f w
def fitO (n : Nat) (o : Oper) : Bool := match o.dst with
  | some d => Nat.blt d n
  | none => true
def fitC (n : Nat) : Code → Bool
  | .region _ ops _ => ops.toList.all (fitO n)
  | .seq a b => fitC n a && fitC n b
  | .cond _ a b => fitC n a && fitC n b
  | .block _ c => fitC n c
  | .loop c => fitC n c
  | .scope c => fitC n c
  | .rangeFunc _ _ _ _ => false
  | _ => true
def yl (ops : List Oper) (f : Fr) (j : Nat) : Option Bool := match (ops[j]?).bind (·.dst) with
  | some d => (match f d with
    | .bool b => some b
    | _ => none)
  | none => none
def wn (ops : List Oper) (f : Fr) : Option (Nat × Bool) → Bool
  | none => true
  | some (j, b) => yl ops f j == some b
def putO (f : Fr) (d : Option Tmp) (v : Value) : Fr := match d with
  | some k => lk [(k, v)] f
  | none => f
theorem Rep.eval {n : Nat} {f : Fr} {a : Act} (h : Rep n f a) : a.eval = ev f := by
  funext x
  cases x <;> simp only [Act.eval, ev]
  exact h.get _
theorem Rep.put {n : Nat} {f : Fr} {a : Act} (h : Rep n f a) {d : Option Tmp} (v : Value) (hd : (match d with | some k => Nat.blt k n | none => true) = true) : Rep n (putO f d v) (a.put d v) := by
  cases d with
  | none => exact h
  | some k =>
    have hk : k < n := by simpa using hd
    refine ⟨by simp [Act.put, h.size], h.defers, fun j => ?_⟩
    show (a.tmps.setIfInBounds k v).getD j undef = bif Nat.beq j k then v else f j
    rw [← h.get j]
    by_cases hj : j = k
    · subst hj
      have hb : Nat.beq j j = true := Nat.beq_refl j
      rw [hb, Array.getD_eq_getD_getElem?, Array.getElem?_setIfInBounds_self_of_lt (by rw [h.size]; exact hk)]
      rfl
    · have hb : Nat.beq j k = false := by
        cases hbb : Nat.beq j k with
        | false => rfl
        | true => exact absurd (Nat.eq_of_beq_eq_true hbb) hj
      rw [hb, Array.getD_eq_getD_getElem?, Array.getD_eq_getD_getElem?, Array.getElem?_setIfInBounds_ne (by omega)]
      rfl
theorem wanted_eq {n : Nat} {f : Fr} {a : Act} (h : Rep n f a) (ops : List Oper) (o : Oper) : Region.wanted o (yielded ops.toArray a.tmps) = wn ops f o.guard := by
  unfold Region.wanted wn
  cases hg : o.guard with
  | none => rfl
  | some jb =>
    obtain ⟨j, b⟩ := jb
    simp only
    congr 1
    unfold yielded yl
    rw [show (ops.toArray)[j]? = ops[j]? by simp]
    cases hd : (ops[j]?).bind (·.dst) with
    | none => rfl
    | some d =>
      simp only [Option.bind_some]
      have h1 := h.get d
      rw [Array.getD_eq_getD_getElem?] at h1
      rw [← h1]
      cases he : a.tmps[d]? with
      | none => rfl
      | some v => cases v <;> rfl
def L (P : Program) (n : Nat) (ops : List Oper) (Q : Exit → Fr → World → Prop) (l : List Oper) (f : Fr) (w : World) : Prop :=
  l.all (fitO n) = true → ∀ a, Rep n f a → wpList P ops.toArray (lft n Q) l a w
def J (P : Program) (n : Nat) (c : Code) (Q : Exit → Fr → World → Prop) (f : Fr) (w : World) : Prop :=
  fitC n c = true → ∀ a, Rep n f a → c.wp P (lft n Q) a w
section
variable {P : Program} {n : Nat} {ops rest : List Oper} {Q : Exit → Fr → World → Prop} {f : Fr} {w w' : World} {o : Oper} {v : Value}
theorem L.nil (h : Q .normal f w) : L P n ops Q [] f w := fun _ _ hr => ⟨f, hr, h⟩
theorem L.val (hg : wn ops f o.guard = true) (hx : (execOp (ev f) o).run P w = .ok (.value v) w') (h : L P n ops Q rest (putO f o.dst v) w') : L P n ops Q (o :: rest) f w := by
  intro hf a hr
  simp only [List.all_cons, Bool.and_eq_true] at hf
  refine wpList_step fun K hK => ?_
  rw [wanted_eq hr, hg, if_pos rfl]
  unfold Oper.wp
  rw [hr.eval, hx]
  exact hK _ _ (h hf.2 _ (hr.put v hf.1))
theorem L.skip (hg : wn ops f o.guard = true) (hx : (execOp (ev f) o).run P w = .ok .skip w') (h : L P n ops Q rest (putO f o.dst undef) w') : L P n ops Q (o :: rest) f w := by
  intro hf a hr
  simp only [List.all_cons, Bool.and_eq_true] at hf
  refine wpList_step fun K hK => ?_
  rw [wanted_eq hr, hg, if_pos rfl]
  unfold Oper.wp
  rw [hr.eval, hx]
  exact hK _ _ (h hf.2 _ (hr.put undef hf.1))
theorem L.off (hg : wn ops f o.guard = false) (h : L P n ops Q rest (putO f o.dst undef) w) : L P n ops Q (o :: rest) f w := by
  intro hf a hr
  simp only [List.all_cons, Bool.and_eq_true] at hf
  refine wpList_step fun K hK => ?_
  rw [wanted_eq hr, hg]
  exact hK _ _ (h hf.2 _ (hr.put undef hf.1))
theorem L.enter {fn : FuncId} {args : Array Value} {R : Ending → World → Prop} (hg : wn ops f o.guard = true) (hx : (execOp (ev f) o).run P w = .ok (.enter fn args) w) (hc : Calls P fn args w R)
    (h : ∀ e w', R e w' → ∃ v, e = .returned v ∧ L P n ops Q rest (putO f o.dst v) w') : L P n ops Q (o :: rest) f w := by
  intro hf a hr
  simp only [List.all_cons, Bool.and_eq_true] at hf
  refine wpList_step fun K hK => ?_
  rw [wanted_eq hr, hg, if_pos rfl]
  unfold Oper.wp
  rw [hr.eval, hx]
  refine hc.mono fun e w'' hR => ?_
  obtain ⟨v, rfl, hl⟩ := h e w'' hR
  exact hK _ _ (hl hf.2 _ (hr.put v hf.1))
theorem L.law (hg : wn ops f o.guard = true)
    (h : ∀ a, Rep n f a → ∀ K : Act → World → Prop, (∀ v w', L P n ops Q rest (putO f o.dst v) w' → K (a.put o.dst v) w') → o.wp P a w K (lft n Q)) : L P n ops Q (o :: rest) f w := by
  intro hf a hr
  simp only [List.all_cons, Bool.and_eq_true] at hf
  refine wpList_step fun K hK => ?_
  rw [wanted_eq hr, hg, if_pos rfl]
  exact h a hr K fun v w' hl => hK _ _ (hl hf.2 _ (hr.put v hf.1))
theorem L.va {k : Nat} {op : Op} {ty : TypeId} {pos : String} {aft : Array Edge} {g : Option (Nat × Bool)} (hg : wn ops f g = true) (hx : (execOp (ev f) ⟨some k, op, ty, pos, aft, g⟩).run P w = .ok (.value v) w') (h : L P n ops Q rest (lk [(k, v)] f) w') : L P n ops Q (⟨some k, op, ty, pos, aft, g⟩ :: rest) f w := L.val hg hx h
theorem L.no {k : Nat} {op : Op} {ty : TypeId} {pos : String} {aft : Array Edge} {g : Option (Nat × Bool)} (hg : wn ops f g = false) (h : L P n ops Q rest (lk [(k, undef)] f) w) : L P n ops Q (⟨some k, op, ty, pos, aft, g⟩ :: rest) f w := L.off hg h
theorem L.same {f' : Fr} (hf : f' = f) (h : L P n ops Q rest f' w) : L P n ops Q rest f w := by rw [← hf]; exact h
def thn (K : Fr → World → Prop) (Q : Exit → Fr → World → Prop) : Exit → Fr → World → Prop
  | .normal, f, w => K f w
  | e, f, w => Q e f w
def inB (id : Nat) (Q : Exit → Fr → World → Prop) : Exit → Fr → World → Prop
  | .exit k, f, w => bif Nat.beq k id then Q .normal f w else Q (.exit k) f w
  | e, f, w => Q e f w
variable {x y c : Code}
theorem J.seq (h : J P n x (thn (J P n y Q) Q) f w) : J P n (.seq x y) Q f w := by
  intro hf a hr
  simp only [fitC, Bool.and_eq_true] at hf
  refine wp_seq (wp_mono (h hf.1 a hr) ?_)
  rintro e a' w' ⟨f', hr', hq⟩
  cases e
  case normal => exact hq hf.2 a' hr'
  all_goals exact ⟨f', hr', hq⟩
theorem J.region {id : Nat} {l : List Oper} (h : L P n l Q l f w) : J P n (.region id l.toArray false) Q f w := by
  intro hf a hr
  simp only [fitC] at hf
  exact wp_region_lit (h hf a hr)
theorem J.ite {o : Operand} {b : Bool} (hc : ev f o = .bool b) (ht : b = true → J P n x Q f w) (he : b = false → J P n y Q f w) : J P n (.cond o x y) Q f w := by
  intro hf a hr
  simp only [fitC, Bool.and_eq_true] at hf
  refine wp_cond_split (t := b) (by rw [hr.eval]; exact hc) (fun h => ht h hf.1 a hr) (fun h => he h hf.2 a hr)
theorem J.dec {o : Operand} {p : Prop} [Decidable p] (hc : ev f o = .bool (decide p)) (ht : p → J P n x Q f w) (he : ¬ p → J P n y Q f w) : J P n (.cond o x y) Q f w :=
  J.ite hc (fun h => ht (of_decide_eq_true h)) (fun h => he (of_decide_eq_false h))
theorem J.ndec {o : Operand} {p : Prop} [Decidable p] (hc : ev f o = .bool (!decide p)) (ht : ¬ p → J P n x Q f w) (he : p → J P n y Q f w) : J P n (.cond o x y) Q f w :=
  J.ite hc (fun h => ht (by simpa using h)) (fun h => he (by simpa using h))
theorem J.skip (h : Q .normal f w) : J P n .skip Q f w := fun _ _ hr => wp_skip ⟨f, hr, h⟩
theorem J.ret (h : Q .ret f w) : J P n .ret Q f w := fun _ _ hr => wp_ret ⟨f, hr, h⟩
theorem J.exit {k : Nat} (h : Q (.exit k) f w) : J P n (.exit k) Q f w := fun _ _ hr => wp_exit ⟨f, hr, h⟩
theorem J.block {id : Nat} (h : J P n c (inB id Q) f w) : J P n (.block id c) Q f w := by
  intro hf a hr
  simp only [fitC] at hf
  refine wp_block (wp_mono (h hf a hr) ?_)
  rintro e a' w' ⟨f', hr', hq⟩
  cases e
  case exit k =>
    simp only [inB] at hq
    simp only [Exit.inBlock]
    by_cases hk : k = id
    · subst hk
      rw [show Nat.beq k k = true from Nat.beq_refl k] at hq
      rw [if_pos rfl]
      exact ⟨f', hr', hq⟩
    · have hb : Nat.beq k id = false := by
        cases hbb : Nat.beq k id with
        | false => rfl
        | true => exact absurd (Nat.eq_of_beq_eq_true hbb) hk
      rw [hb] at hq
      rw [if_neg hk]
      exact ⟨f', hr', hq⟩
  all_goals exact ⟨f', hr', hq⟩
theorem J.cong {Q' : Exit → Fr → World → Prop} (h : J P n c Q' f w) (hq : ∀ e f w, Q' e f w → Q e f w) : J P n c Q f w := by
  intro hf a hr
  refine wp_mono (h hf a hr) ?_
  rintro e a' w' ⟨f', hr', hq'⟩
  exact ⟨f', hr', hq _ _ _ hq'⟩
def At (f : Fr) : List (Nat × Value) → Prop
  | [] => True
  | (k, v) :: t => f k = v ∧ At f t
def Agr (M : List Nat) (f' f : Fr) : Prop := ∀ j, M.contains j = false → f' j = f j
theorem Agr.rfl' {M : List Nat} {f : Fr} : Agr M f f := fun _ _ => rfl
theorem Agr.hav {M M' : List Nat} {g f f' : Fr} (hM : (M'.all fun k => M.contains k) = true) (h : Agr M f' f) : Agr M (hav M' g f') f := by
  intro j hj
  rw [← h j hj]
  unfold H.hav
  cases hc : M'.contains j with
  | false => rfl
  | true =>
    have := List.all_eq_true.1 hM j (List.contains_iff_mem.1 hc)
    rw [hj] at this
    cases this
theorem Agr.lk {M : List Nat} {l : List (Nat × Value)} {f f' : Fr} (hl : (l.all fun p => M.contains p.1) = true) (h : Agr M f' f) : Agr M (lk l f') f := by
  induction l with
  | nil => exact h
  | cons p t ih =>
    simp only [List.all_cons, Bool.and_eq_true] at hl
    intro j hj
    obtain ⟨k, v⟩ := p
    show (bif Nat.beq j k then v else H.lk t f' j) = f j
    have hb : Nat.beq j k = false := by
      cases hbb : Nat.beq j k with
      | false => rfl
      | true =>
        have := Nat.eq_of_beq_eq_true hbb
        subst this
        rw [hj] at hl
        cases hl.1
    rw [hb]
    exact ih hl.2 j hj
theorem frame_of {M : List Nat} {S : List (Nat × Value)} {f' f : Fr} (ha : Agr M f' f) (hs : At f' S) : f' = lk S (hav M f' f) := by
  funext j
  induction S with
  | nil =>
    show f' j = bif M.contains j then f' j else f j
    cases hc : M.contains j with
    | false => exact ha j hc
    | true => rfl
  | cons p t ih =>
    obtain ⟨k, v⟩ := p
    obtain ⟨h1, h2⟩ := hs
    show f' j = bif Nat.beq j k then v else lk t (hav M f' f) j
    cases hb : Nat.beq j k with
    | false => exact ih h2
    | true =>
      have := Nat.eq_of_beq_eq_true hb
      subst this
      exact h1
def Met {X : Type} (M : List Nat) (S : X → List (Nat × Value)) (I : X → World → Prop) (f0 : Fr) (f : Fr) (w : World) : Prop :=
  ∃ x, At f (S x) ∧ Agr M f f0 ∧ I x w
theorem J.cut {X : Type} (M : List Nat) (S : X → List (Nat × Value)) (I : X → World → Prop)
    (h1 : J P n x (thn (Met M S I f) Q) f w) (h2 : ∀ (s : X) (g : Fr) (w' : World), I s w' → J P n y Q (lk (S s) (hav M g f)) w') : J P n (.seq x y) Q f w := by
  refine J.seq (J.cong h1 ?_)
  intro e f' w' hq
  cases e
  case normal =>
    obtain ⟨s, hs, ha, hi⟩ := hq
    show J P n y Q f' w'
    rw [frame_of ha hs]
    exact h2 s f' w' hi
  all_goals exact hq
theorem J.loop {X : Type} (M : List Nat) (S : X → List (Nat × Value)) (I : X → World → Prop) (μ : X → Nat) (x0 : X) (h0 : At f (S x0)) (hI : I x0 w)
    (h : ∀ (s : X) (g : Fr) (w' : World), I s w' → J P n c (thn (Met M S (fun s' w'' => I s' w'' ∧ μ s' < μ s) f) Q) (lk (S s) (hav M g f)) w') : J P n (.loop c) Q f w := by
  intro hf a hr
  simp only [fitC] at hf
  have key : ∀ (m : Nat) (s : X) (g : Fr) (a : Act) (w' : World), μ s < m → I s w' → Rep n (lk (S s) (hav M g f)) a → Code.rounds P c (lft n Q) m a w' := by
    intro m
    induction m with
    | zero => intro s g a w' hm; exact absurd hm (Nat.not_lt_zero _)
    | succ m ih =>
      intro s g a w' hm hi hr
      rw [rounds_succ]
      refine wp_mono (h s g w' hi hf a hr) ?_
      rintro e a' w'' ⟨f', hr', hq⟩
      cases e
      case normal =>
        obtain ⟨s', hs, ha, hi', hlt⟩ := hq
        exact ih s' f' a' w'' (by omega) hi' (by rw [← frame_of ha hs]; exact hr')
      all_goals exact ⟨f', hr', hq⟩
  exact wp_loop_rounds (μ x0 + 1) (key _ x0 f a w (Nat.lt_succ_self _) hI (by rw [← frame_of Agr.rfl' h0]; exact hr))
end
def Scal (P : Program) (t : TypeId) : Prop := ∀ w : World, (isAgg t).run P w = .ok false w
theorem Scal.of {P : Program} {t : TypeId} {d : TypeDesc} (h : P.underlying t = some d) (hd : (match d with | .struct _ | .array _ _ => true | _ => false) = false) : Scal P t := by
  intro w
  simp only [isAgg, Sem.run_bind, run_underlying h, Result.andThen_ok]
  cases d <;> first | rfl | cases hd
def Siz (P : Program) (t : TypeId) (n : Nat) : Prop := ∃ i, P.info? t = some i ∧ i.size = n
theorem Siz.of {P : Program} {t : TypeId} {n : Nat} (h : (P.info? t).map (·.size) = some n) : Siz P t n := by
  cases hi : P.info? t with
  | none => rw [hi] at h; cases h
  | some i => rw [hi] at h; injection h with h; exact ⟨i, hi, h⟩
theorem Siz.run {P : Program} {t : TypeId} {n : Nat} (h : Siz P t n) (w : World) : (sizeOf t).run P w = .ok n w := by
  obtain ⟨i, hi, rfl⟩ := h
  simp [sizeOf, typeInfo, hi]
def pA (A : Option Addr) (j : Nat) : Value := .pointer (A.map (·.add j))
def Ld (w : World) (p : Value) (v : Value) : Prop := ∃ a, p = .pointer (some a) ∧ w.cell? a = some v
section
variable {P : Program} {f : Operand → Value} {w : World} {d : Option Tmp} {ty : TypeId} {pos : String} {aft : Array Edge} {g : Option (Nat × Bool)} {x y z : Operand} {v u p : Value} {k kx ky kz : IntKind} {m n : Int} {t tx tz e : TypeId}
theorem str_dec (a b : ByteArray) : (a.toList == b.toList) = decide (a = b) := by
  rw [Bool.eq_iff_iff, beq_iff_eq, decide_eq_true_iff, Lib.toList_data, Lib.toList_data]
  constructor
  · intro h
    cases a; cases b
    simp only at h
    rw [Array.toList_inj.1 h]
  · intro h; rw [h]
theorem X.move (hx : f x = v) : (execOp f ⟨d, .move x, ty, pos, aft, g⟩).run P w = .ok (.value v) w := by
  simp [execOp, hx, go_sem]
theorem X.assign (hx : f x = v) : (execOp f ⟨d, .assign x, ty, pos, aft, g⟩).run P w = .ok (.value v) w := by
  simp [execOp, hx, go_sem]
theorem X.pickT (hc : f z = .bool true) (hx : f x = v) : (execOp f ⟨d, .pick z x y, ty, pos, aft, g⟩).run P w = .ok (.value v) w := by
  simp [execOp, hx, hc, go_sem]
theorem X.pickF (hc : f z = .bool false) (hy : f y = u) : (execOp f ⟨d, .pick z x y, ty, pos, aft, g⟩).run P w = .ok (.value u) w := by
  simp [execOp, hy, hc, go_sem]
theorem X.len {A : Option Addr} {q c : Nat} (hx : f x = .slice A q c) (ht : P.underlying t = some (.slice e)) : (execOp f ⟨d, .call { callee := .builtin .len, args := #[x], argTypes := #[t] }, ty, pos, aft, g⟩).run P w = .ok (.value (.int .i64 (q : Int))) w := by
  simp [execOp, hx, go_sem, Builtin.len_, run_underlying ht]
theorem X.lens {s : ByteArray} (hx : f x = .string s) (ht : P.underlying t = some .string) : (execOp f ⟨d, .call { callee := .builtin .len, args := #[x], argTypes := #[t] }, ty, pos, aft, g⟩).run P w = .ok (.value (.int .i64 (s.size : Int))) w := by
  simp [execOp, hx, go_sem, Builtin.len_, run_underlying ht]
theorem X.bin {op : BinOp} (hx : f x = u) (hy : f y = v) (hg : eqGuard op tx x y u v = pure ()) (h : (binOp op tx u v).run P w = .ok p w) : (execOp f ⟨d, .binOp op tx x y tz, ty, pos, aft, g⟩).run P w = .ok (.value p) w := by
  simp [execOp, hx, hy, hg, h]
theorem X.addw (hx : f x = .int k m) (hy : f y = .int k n) : (execOp f ⟨d, .binOp .add tx x y tz, ty, pos, aft, g⟩).run P w = .ok (.value (.int k (k.wrap (m + n)))) w :=
  X.bin hx hy (by simp [go_sem]) (by simp [binOp, Op.intArith])
theorem X.subw (hx : f x = .int k m) (hy : f y = .int k n) : (execOp f ⟨d, .binOp .sub tx x y tz, ty, pos, aft, g⟩).run P w = .ok (.value (.int k (k.wrap (m - n)))) w :=
  X.bin hx hy (by simp [go_sem]) (by simp [binOp, Op.intArith])
theorem X.mulw (hx : f x = .int k m) (hy : f y = .int k n) : (execOp f ⟨d, .binOp .mul tx x y tz, ty, pos, aft, g⟩).run P w = .ok (.value (.int k (k.wrap (m * n)))) w :=
  X.bin hx hy (by simp [go_sem]) (by simp [binOp, Op.intArith])
theorem w64 {m : Int} (h : -9223372036854775808 ≤ m ∧ m ≤ 9223372036854775807) : IntKind.i64.wrap m = m := IntWalk.i64_in _ h
theorem w32 {m : Int} (h : 0 ≤ m ∧ m ≤ 4294967295) : IntKind.u32.wrap m = m := by simp [IntKind.wrap, IntKind.bits, IntKind.signed]; omega
theorem w8 {m : Int} (h : 0 ≤ m ∧ m ≤ 255) : IntKind.u8.wrap m = m := by simp [IntKind.wrap, IntKind.bits, IntKind.signed]; omega
theorem wu64 {m : Int} (h : 0 ≤ m ∧ m ≤ 18446744073709551615) : IntKind.u64.wrap m = m := by simp [IntKind.wrap, IntKind.bits, IntKind.signed]; omega
theorem X.add (hx : f x = .int .i64 m) (hy : f y = .int .i64 n) (h : -9223372036854775808 ≤ m + n ∧ m + n ≤ 9223372036854775807) : (execOp f ⟨d, .binOp .add tx x y tz, ty, pos, aft, g⟩).run P w = .ok (.value (.int .i64 (m + n))) w := by
  rw [X.addw hx hy, w64 h]
theorem X.sub (hx : f x = .int .i64 m) (hy : f y = .int .i64 n) (h : -9223372036854775808 ≤ m - n ∧ m - n ≤ 9223372036854775807) : (execOp f ⟨d, .binOp .sub tx x y tz, ty, pos, aft, g⟩).run P w = .ok (.value (.int .i64 (m - n))) w := by
  rw [X.subw hx hy, w64 h]
theorem X.mul (hx : f x = .int .i64 m) (hy : f y = .int .i64 n) (h : -9223372036854775808 ≤ m * n ∧ m * n ≤ 9223372036854775807) : (execOp f ⟨d, .binOp .mul tx x y tz, ty, pos, aft, g⟩).run P w = .ok (.value (.int .i64 (m * n))) w := by
  rw [X.mulw hx hy, w64 h]
theorem X.addU (hx : f x = .int .u64 m) (hy : f y = .int .u64 n) (h : 0 ≤ m + n ∧ m + n ≤ 18446744073709551615) : (execOp f ⟨d, .binOp .add tx x y tz, ty, pos, aft, g⟩).run P w = .ok (.value (.int .u64 (m + n))) w := by
  rw [X.addw hx hy, wu64 h]
theorem X.subU (hx : f x = .int .u64 m) (hy : f y = .int .u64 n) (h : 0 ≤ m - n ∧ m - n ≤ 18446744073709551615) : (execOp f ⟨d, .binOp .sub tx x y tz, ty, pos, aft, g⟩).run P w = .ok (.value (.int .u64 (m - n))) w := by
  rw [X.subw hx hy, wu64 h]
theorem X.mulU (hx : f x = .int .u64 m) (hy : f y = .int .u64 n) (h : 0 ≤ m * n ∧ m * n ≤ 18446744073709551615) : (execOp f ⟨d, .binOp .mul tx x y tz, ty, pos, aft, g⟩).run P w = .ok (.value (.int .u64 (m * n))) w := by
  rw [X.mulw hx hy, wu64 h]
theorem X.quow (hx : f x = .int k m) (hy : f y = .int k n) (h : n ≠ 0) : (execOp f ⟨d, .binOp .quo tx x y tz, ty, pos, aft, g⟩).run P w = .ok (.value (.int k (k.wrap (m.tdiv n)))) w :=
  X.bin hx hy (by simp [go_sem]) (by simp [binOp, Op.intDiv, h])
theorem X.remw (hx : f x = .int k m) (hy : f y = .int k n) (h : n ≠ 0) : (execOp f ⟨d, .binOp .rem tx x y tz, ty, pos, aft, g⟩).run P w = .ok (.value (.int k (m.tmod n))) w :=
  X.bin hx hy (by simp [go_sem]) (by simp [binOp, Op.intDiv, h])
theorem X.rem (hx : f x = .int k m) (hy : f y = .int k n) (h : 0 ≤ m ∧ 0 < n) : (execOp f ⟨d, .binOp .rem tx x y tz, ty, pos, aft, g⟩).run P w = .ok (.value (.int k (m % n))) w := by
  rw [X.remw hx hy (by omega), Int.tmod_eq_emod_of_nonneg h.1]
theorem div_le' {m n : Int} (h0 : 0 ≤ m) (h1 : 0 < n) : 0 ≤ m / n ∧ m / n ≤ m := ⟨Int.ediv_nonneg h0 (by omega), Int.ediv_le_self _ h0⟩
theorem X.quo (hx : f x = .int .i64 m) (hy : f y = .int .i64 n) (h : 0 ≤ m ∧ m ≤ 9223372036854775807 ∧ 0 < n) : (execOp f ⟨d, .binOp .quo tx x y tz, ty, pos, aft, g⟩).run P w = .ok (.value (.int .i64 (m / n))) w := by
  have := div_le' h.1 h.2.2
  rw [X.quow hx hy (by omega), Int.tdiv_eq_ediv_of_nonneg h.1, w64 (by omega)]
theorem X.quoU (hx : f x = .int .u64 m) (hy : f y = .int .u64 n) (h : 0 ≤ m ∧ m ≤ 18446744073709551615 ∧ 0 < n) : (execOp f ⟨d, .binOp .quo tx x y tz, ty, pos, aft, g⟩).run P w = .ok (.value (.int .u64 (m / n))) w := by
  have := div_le' h.1 h.2.2
  rw [X.quow hx hy (by omega), Int.tdiv_eq_ediv_of_nonneg h.1, wu64 (by omega)]
theorem X.quo32 (hx : f x = .int .u32 m) (hy : f y = .int .u32 n) (h : 0 ≤ m ∧ m ≤ 4294967295 ∧ 0 < n) : (execOp f ⟨d, .binOp .quo tx x y tz, ty, pos, aft, g⟩).run P w = .ok (.value (.int .u32 (m / n))) w := by
  have := div_le' h.1 h.2.2
  rw [X.quow hx hy (by omega), Int.tdiv_eq_ediv_of_nonneg h.1, w32 (by omega)]
theorem X.and (hx : f x = .int k m) (hy : f y = .int k n) : (execOp f ⟨d, .binOp .and tx x y tz, ty, pos, aft, g⟩).run P w = .ok (.value (.int k (bits .and k m n))) w :=
  X.bin hx hy (by simp [go_sem]) (by rw [binOp_and]; rfl)
theorem X.or (hx : f x = .int k m) (hy : f y = .int k n) : (execOp f ⟨d, .binOp .or tx x y tz, ty, pos, aft, g⟩).run P w = .ok (.value (.int k (bits .or k m n))) w :=
  X.bin hx hy (by simp [go_sem]) (by rw [binOp_or]; rfl)
theorem X.xor (hx : f x = .int k m) (hy : f y = .int k n) : (execOp f ⟨d, .binOp .xor tx x y tz, ty, pos, aft, g⟩).run P w = .ok (.value (.int k (bits .xor k m n))) w :=
  X.bin hx hy (by simp [go_sem]) (by rw [binOp_xor]; rfl)
theorem X.andNot (hx : f x = .int k m) (hy : f y = .int k n) : (execOp f ⟨d, .binOp .andNot tx x y tz, ty, pos, aft, g⟩).run P w = .ok (.value (.int k (bits .andNot k m n))) w :=
  X.bin hx hy (by simp [go_sem]) (by rw [binOp_andNot]; rfl)
theorem X.shl (hx : f x = .int k m) (hy : f y = .int ky n) (h : 0 ≤ n) : (execOp f ⟨d, .binOp .shl tx x y tz, ty, pos, aft, g⟩).run P w = .ok (.value (.int k (k.wrap (m * 2 ^ min n.toNat k.bits)))) w :=
  X.bin hx hy (by simp [go_sem]) (by rw [binOp_shl, shift_shl_any _ _ _ _ h]; rfl)
theorem X.shr (hx : f x = .int k m) (hy : f y = .int ky n) (h : 0 ≤ n) : (execOp f ⟨d, .binOp .shr tx x y tz, ty, pos, aft, g⟩).run P w = .ok (.value (.int k (m / 2 ^ min n.toNat k.bits))) w :=
  X.bin hx hy (by simp [go_sem]) (by rw [binOp_shr, shift_shr_any _ _ _ _ h]; rfl)
theorem X.eql (hx : f x = .int k m) (hy : f y = .int k n) : (execOp f ⟨d, .binOp .eql tx x y tz, ty, pos, aft, g⟩).run P w = .ok (.value (.bool (decide (m = n)))) w :=
  X.bin hx hy (by simp [go_sem]) (by simp [binOp, Op.intCmp]; rfl)
theorem X.neq (hx : f x = .int k m) (hy : f y = .int k n) : (execOp f ⟨d, .binOp .neq tx x y tz, ty, pos, aft, g⟩).run P w = .ok (.value (.bool (!decide (m = n)))) w :=
  X.bin hx hy (by simp [go_sem]) (by simp [binOp, Op.intCmp]; rfl)
theorem X.lss (hx : f x = .int k m) (hy : f y = .int k n) : (execOp f ⟨d, .binOp .lss tx x y tz, ty, pos, aft, g⟩).run P w = .ok (.value (.bool (decide (m < n)))) w :=
  X.bin hx hy (by simp [go_sem]) (by simp [binOp, Op.intCmp])
theorem X.leq (hx : f x = .int k m) (hy : f y = .int k n) : (execOp f ⟨d, .binOp .leq tx x y tz, ty, pos, aft, g⟩).run P w = .ok (.value (.bool (decide (m ≤ n)))) w :=
  X.bin hx hy (by simp [go_sem]) (by simp [binOp, Op.intCmp])
theorem X.gtr (hx : f x = .int k m) (hy : f y = .int k n) : (execOp f ⟨d, .binOp .gtr tx x y tz, ty, pos, aft, g⟩).run P w = .ok (.value (.bool (decide (n < m)))) w :=
  X.bin hx hy (by simp [go_sem]) (by simp [binOp, Op.intCmp])
theorem X.geq (hx : f x = .int k m) (hy : f y = .int k n) : (execOp f ⟨d, .binOp .geq tx x y tz, ty, pos, aft, g⟩).run P w = .ok (.value (.bool (decide (n ≤ m)))) w :=
  X.bin hx hy (by simp [go_sem]) (by simp [binOp, Op.intCmp])
theorem X.eqlS {a b : ByteArray} (hx : f x = .string a) (hy : f y = .string b) : (execOp f ⟨d, .binOp .eql tx x y tz, ty, pos, aft, g⟩).run P w = .ok (.value (.bool (decide (a = b)))) w :=
  X.bin hx hy (by simp [go_sem]) (by simp [binOp, Op.stringOp, str_dec])
theorem X.neqS {a b : ByteArray} (hx : f x = .string a) (hy : f y = .string b) : (execOp f ⟨d, .binOp .neq tx x y tz, ty, pos, aft, g⟩).run P w = .ok (.value (.bool (!decide (a = b)))) w :=
  X.bin hx hy (by simp [go_sem]) (by simp [binOp, Op.stringOp, str_dec])
theorem X.eqlB {a b : Bool} (hx : f x = .bool a) (hy : f y = .bool b) (ht : P.underlying tx = some .bool) : (execOp f ⟨d, .binOp .eql tx x y tz, ty, pos, aft, g⟩).run P w = .ok (.value (.bool (a == b))) w :=
  X.bin hx hy (by simp [go_sem]) (by simp [binOp, run_equal_bool w tx a b ht])
theorem X.not {b : Bool} (hx : f x = .bool b) : (execOp f ⟨d, .unOp .not t x, ty, pos, aft, g⟩).run P w = .ok (.value (.bool (!b))) w := by
  simp [execOp, hx, go_sem]
theorem X.negw (hx : f x = .int k m) : (execOp f ⟨d, .unOp .neg t x, ty, pos, aft, g⟩).run P w = .ok (.value (.int k (k.wrap (0 - m)))) w := by
  simp [execOp, hx, unary_neg, Op.intArith]
theorem X.convw (hx : f x = .int k m) (hs : (P.underlying t).isSome = true) (hd : P.underlying tz = some (.int ky)) : (execOp f ⟨d, .convert t tz x, ty, pos, aft, g⟩).run P w = .ok (.value (.int ky (ky.wrap m))) w := by
  obtain ⟨ds, hs'⟩ := Option.isSome_iff_exists.mp hs
  simp [execOp, hx, convert, run_underlying hs', run_underlying hd, Conv.intToInt]
theorem X.convI (hx : f x = .int k m) (hs : (P.underlying t).isSome = true) (hd : P.underlying tz = some (.int .i64)) (h : -9223372036854775808 ≤ m ∧ m ≤ 9223372036854775807) : (execOp f ⟨d, .convert t tz x, ty, pos, aft, g⟩).run P w = .ok (.value (.int .i64 m)) w := by
  rw [X.convw hx hs hd, w64 h]
theorem X.convU (hx : f x = .int k m) (hs : (P.underlying t).isSome = true) (hd : P.underlying tz = some (.int .u64)) (h : 0 ≤ m ∧ m ≤ 18446744073709551615) : (execOp f ⟨d, .convert t tz x, ty, pos, aft, g⟩).run P w = .ok (.value (.int .u64 m)) w := by
  rw [X.convw hx hs hd, wu64 h]
theorem X.conv32 (hx : f x = .int k m) (hs : (P.underlying t).isSome = true) (hd : P.underlying tz = some (.int .u32)) (h : 0 ≤ m ∧ m ≤ 4294967295) : (execOp f ⟨d, .convert t tz x, ty, pos, aft, g⟩).run P w = .ok (.value (.int .u32 m)) w := by
  rw [X.convw hx hs hd, w32 h]
theorem X.conv8 (hx : f x = .int k m) (hs : (P.underlying t).isSome = true) (hd : P.underlying tz = some (.int .u8)) (h : 0 ≤ m ∧ m ≤ 255) : (execOp f ⟨d, .convert t tz x, ty, pos, aft, g⟩).run P w = .ok (.value (.int .u8 m)) w := by
  rw [X.convw hx hs hd, w8 h]
theorem X.conv (hx : f x = u) (h : (convert t tz u).run P w = .ok v w) : (execOp f ⟨d, .convert t tz x, ty, pos, aft, g⟩).run P w = .ok (.value v) w := by
  simp [execOp, hx, h]
theorem X.indexAddr {A : Option Addr} {q c sz : Nat} (hx : f x = .slice A q c) (hy : f y = .int k m) (ht : P.underlying t = some (.slice e)) (hs : Siz P e sz) (hA : A ≠ none) (hj : 0 ≤ m ∧ m < (q : Int)) : (execOp f ⟨d, .indexAddr t x y, ty, pos, aft, g⟩).run P w = .ok (.value (pA A (m.toNat * sz))) w := by
  cases A with
  | none => exact absurd rfl hA
  | some a => simp [execOp, hx, hy, Instr.indexAt, run_underlying ht, asIntOf, hj, hs.run, pA]
theorem X.index1 {A : Option Addr} {q c : Nat} (hx : f x = .slice A q c) (hy : f y = .int k m) (ht : P.underlying t = some (.slice e)) (hs : Siz P e 1) (hA : A ≠ none) (hj : 0 ≤ m ∧ m < (q : Int)) : (execOp f ⟨d, .indexAddr t x y, ty, pos, aft, g⟩).run P w = .ok (.value (pA A m.toNat)) w := by
  have := X.indexAddr (P := P) (w := w) (d := d) (ty := ty) (pos := pos) (aft := aft) (g := g) hx hy ht hs hA hj
  rwa [Nat.mul_one] at this
theorem X.indexAddrn {A : Option Addr} {q c sz j : Nat} (hx : f x = .slice A q c) (hy : f y = .int k (j : Int)) (ht : P.underlying t = some (.slice e)) (hs : Siz P e sz) (hA : A ≠ none) (hj : j < q) : (execOp f ⟨d, .indexAddr t x y, ty, pos, aft, g⟩).run P w = .ok (.value (pA A (j * sz))) w :=
  X.indexAddr hx hy ht hs hA ⟨by omega, by omega⟩
theorem X.index1n {A : Option Addr} {q c j : Nat} (hx : f x = .slice A q c) (hy : f y = .int k (j : Int)) (ht : P.underlying t = some (.slice e)) (hs : Siz P e 1) (hA : A ≠ none) (hj : j < q) : (execOp f ⟨d, .indexAddr t x y, ty, pos, aft, g⟩).run P w = .ok (.value (pA A j)) w :=
  X.index1 hx hy ht hs hA ⟨by omega, by omega⟩
theorem X.indexStr {s : ByteArray} (hx : f x = .string s) (hy : f y = .int k m) (ht : P.underlying t = some .string) (hj : 0 ≤ m ∧ m < (s.size : Int)) : (execOp f ⟨d, .index t x y, ty, pos, aft, g⟩).run P w = .ok (.value (.int .u8 ((s.data.toList.getD m.toNat 0).toNat : Int))) w := by
  have hlt : m.toNat < s.size := by omega
  have hg : s[m.toNat]? = some s[m.toNat] := by simp [hlt]
  have hd : s.data.toList.getD m.toNat 0 = s[m.toNat] := by
    have : m.toNat < s.data.toList.length := by simpa using hlt
    simp only [List.getD, List.getElem?_eq_getElem this, Option.getD_some]
    rfl
  simp only [execOp, hx, hy, Instr.index, Sem.run_bind, run_underlying ht, Result.andThen_ok, asIntOf, Sem.run_pure, if_pos hj.1, hg, hd]
theorem X.load (hx : f x = p) (hs : Scal P t) (hl : Ld w p v) : (execOp f ⟨d, .load t x, ty, pos, aft, g⟩).run P w = .ok (.value v) w := by
  obtain ⟨a, rfl, hc⟩ := hl
  simp [execOp, hx, Instr.loadAt, Instr.sureAddr, loadVar, hs w, go_sem, hc]
theorem X.loadAgg {b o : Nat} {cs : List Value} {ds : TypeDesc} (hx : f x = .pointer (some ⟨b, o, none⟩)) (hc : w.rangeAt b o cs) (hu : P.underlying t = some ds) (hd : ds.isRow = true) (hi : (P.info? t).map (·.size) = some cs.length) : (execOp f ⟨d, .load t x, ty, pos, aft, g⟩).run P w = .ok (.value (.agg cs.toArray)) w := by
  simp [execOp, hx, run_loadAt_mid w b o t cs ds hc hu hd hi]
theorem X.fieldAddr {b o i sz : Nat} {fs : Array Field} {fd : Field} (hx : f x = .pointer (some ⟨b, o, none⟩)) (ht : P.underlying t = some (.struct fs)) (hi : fs[i]? = some fd) (hz : Siz P fd.type sz) (hpos : 0 < sz): (execOp f ⟨d, .fieldAddr t x i, ty, pos, aft, g⟩).run P w = .ok (.value (.pointer (some ⟨b, o + fd.offset, none⟩))) w := by
  simp only [execOp, hx, Instr.fieldAt, Sem.run_bind, run_underlying ht, Result.andThen_ok, hi, Instr.sureAddr, Sem.run_pure, fieldPlace, hz.run]
  rw [if_neg (by omega)]
  simp only [Sem.run_pure, Result.andThen_ok, Addr.add_mid]
theorem X.nilCheck {a : Addr} (hx : f x = .pointer (some a)) : (execOp f ⟨d, .nilCheck x, ty, pos, aft, g⟩).run P w = .ok (.value (.pointer (some a))) w := by
  simp [execOp, hx]
theorem X.extract {vs : Array Value} {i : Nat} (hx : f x = .tuple vs) (hv : vs[i]? = some v) : (execOp f ⟨d, .extract x i, ty, pos, aft, g⟩).run P w = .ok (.value v) w := by
  simp [execOp, hx, Instr.extract, hv]
def Ent (P : Program) (c : FuncId) : Prop := (match P.funcs[c]? with
  | some fn => !(fn.name == "runtime.NumGoroutine") && fn.body.isSome
  | none => false) = true
theorem Ent.run {c : FuncId} (h : Ent P c) (args : Array Value) (w : World) : (callFunc c args).run P w = .ok (.enter c args) w := by
  unfold Ent at h
  unfold callFunc
  simp only [Sem.run_bind, run_program, Result.andThen_ok]
  cases hf : P.funcs[c]? with
  | none => rw [hf] at h; cases h
  | some fn =>
    rw [hf] at h
    simp only [Bool.and_eq_true, Bool.not_eq_true'] at h
    simp only [h.1]
    have hn : fn.body.isNone = false := by
      cases hb : fn.body with
      | none => rw [hb] at h; cases h.2
      | some _ => rfl
    simp [hn]
theorem X.enter {c : FuncId} {l : List Operand} {ts : Array TypeId} {vs : List Value} (he : Ent P c) (hfn : f (.func c) = .func (.func c) #[] #[]) (hv : l.map f = vs) : (execOp f ⟨d, .call { callee := .value (.func c), args := l.toArray, argTypes := ts }, ty, pos, aft, g⟩).run P w = .ok (.enter c vs.toArray) w := by
  subst hv
  simp only [execOp, resolve, hfn, Deferred.ofValue, Sem.run_bind, Sem.run_pure, Result.andThen_ok, invoke, List.map_toArray, Array.append_empty, Array.empty_append, he.run]
end
end Go.Proofs.YtpomklkfedpkfaaGreat.H
namespace Go.Proofs.YtpomklkfedpkfaaGreat.H
open Go.RowKit Go.Proofs.YtpomklkfedpkfaaGreat
set_option linter.unusedSimpArgs false
set_option linter.unusedVariables false
def Ext (w w' : World) : Prop := Below w.heap.size w w'
theorem Ext.refl (w : World) : Ext w w := Below.refl _ _
theorem Ext.trans {a b c : World} (h : Ext a b) (k : Ext b c) : Ext a c := Below.trans h (k.mono (Below.size h))
theorem Ext.ext {a b c : World} (h : Ext a b) (k : Ext b c) : Ext a c := h.trans k
theorem Ext.le {a b : World} (h : Ext a b) : a.heap.size ≤ b.heap.size := Below.size h
theorem Ext.alloc (w : World) (o : Obj) : Ext w (w.alloc o) := (Below.refl _ _).alloc (Nat.le_refl _) o
theorem Ext.drew (w : World) : Ext w w.drew := (Below.refl _ _).drew
theorem Ext.low {a b c : World} {B : Nat} (h : Ext a b) (k : Below B b c) (hB : a.heap.size ≤ B) : Ext a c := Below.trans h (k.mono hB)
theorem Ext.grw {a b c : World} {r : Option Nat} (h : Ext a b) (k : b.grownBy c r) (hr : ∀ g, r = some g → a.heap.size ≤ g) : Ext a c := Below.grown h k (Below.size h) hr
section
variable {w w' : World} {B size n : Nat} {A : Option Addr} {xs : List Value} {g : Nat} {t : TypeId} {cs : Array Value}
theorem Reads.keep' (h : Reads w B size A n xs) (hk : ∀ b, b < w.heap.size → b < B → w'.heap[b]? = w.heap[b]?) : Reads w' B size A n xs :=
  ⟨h.1, fun hn => by
    obtain ⟨ad, e, hb, hc⟩ := h.2 hn
    refine ⟨ad, e, hb, fun j u hu => ?_⟩
    have h1 := hc j u hu
    rw [← h1]
    refine World.cell?_of_block (hk _ ?_ (by rw [block_of_add]; exact hb))
    rcases Nat.lt_or_ge (ad.add j).block w.heap.size with h2 | h2
    · exact h2
    · simp [World.cell?, Array.getElem?_eq_none h2] at h1⟩
theorem _root_.Go.Proofs.YtpomklkfedpkfaaGreat.Reads.ext (h : Reads w B size A n xs) (he : Ext w w') : Reads w' B size A n xs := Reads.keep' h fun b hb _ => Below.block he b hb
theorem _root_.Go.Proofs.YtpomklkfedpkfaaGreat.Reads.low {B' : Nat} (h : Reads w B size A n xs) (hb : Below B' w w') (hB : B ≤ B') : Reads w' B size A n xs := Reads.keep' h fun b _ hb' => hb.block b (by omega)
theorem _root_.Go.Proofs.YtpomklkfedpkfaaGreat.Reads.grw {r : Option Nat} (h : Reads w B size A n xs) (hg : w.grownBy w' r) (hr : ∀ g, r = some g → B ≤ g) : Reads w' B size A n xs :=
  Reads.keep' h fun b hb hB => hg.block b hb (fun e => by have := hr b e.symm; omega)
theorem _root_.Go.Proofs.YtpomklkfedpkfaaGreat.Blk.ext (h : Blk w g t cs) (he : Ext w w') : Blk w' g t cs := h.below he h.lt
theorem _root_.Go.World.ownsRow.ext {base : Nat} {e : TypeId} {v : Value} (h : w.ownsRow base e size v n xs) (he : Ext w w') : w'.ownsRow base e size v n xs :=
  h.kept (row := none) ⟨Below.os he, Below.tape he, Below.output he, Below.size he, fun k hk _ => Below.block he k hk⟩ (by cases hv : v.ownBlock with | none => exact .inl rfl | some b => exact .inr (by simp))
theorem _root_.Go.Proofs.YtpomklkfedpkfaaGreat.Reads.here (h : Reads w B size A n xs) (hs : 0 < size) : Reads w w.heap.size size A n xs :=
  ⟨h.1, fun hn => by
    obtain ⟨ad, e, hb, hc⟩ := h.2 hn
    refine ⟨ad, e, ?_, hc⟩
    have hl : 0 < xs.length := by rw [h.1]; exact Nat.mul_pos hn hs
    have h1 := hc 0 _ (List.getElem?_eq_getElem hl)
    rcases Nat.lt_or_ge ad.block w.heap.size with h2 | h2
    · exact h2
    · have e0 : w.heap[ad.block]? = none := Array.getElem?_eq_none h2
      simp [World.cell?, block_of_add, e0] at h1⟩
theorem Ld.rd (h : Reads w B size A n xs) {j : Nat} (hj : j < n * size) : Ld w (pA A j) (xs.getD j undef) := by
  have hn : 0 < n := Nat.pos_of_ne_zero (fun h0 => by subst h0; simp at hj)
  obtain ⟨ad, rfl, _, hc⟩ := h.2 hn
  have hl : j < xs.length := by rw [h.1]; exact hj
  refine ⟨ad.add j, rfl, ?_⟩
  rw [hc j _ (List.getElem?_eq_getElem hl)]
  simp [List.getD, hl]
theorem Ld.num {k : IntKind} {zs : List Int} (h : Reads w B 1 A n (nums k zs)) {j : Nat} (hj : j < n) : Ld w (pA A j) (.int k (zs.getD j 0)) := by
  have h1 := Ld.rd h (j := j) (by omega)
  have hl : j < zs.length := by have := h.1; rw [nums_length] at this; omega
  have : (nums k zs).getD j undef = .int k (zs.getD j 0) := by simp [nums, List.getD, hl]
  rwa [this] at h1
theorem Ld.blk (h : Blk w g t cs) {i : Nat} {v : Value} (hv : cs[i]? = some v) : Ld w (.pointer (some ⟨g, i, none⟩)) v := ⟨_, rfl, (h.cell i).trans hv⟩
theorem Ld.own {base : Nat} {e : TypeId} {c : Nat} {k : IntKind} {zs : List Int} (h : w.ownsRow base e 1 (.slice A n c) n (nums k zs)) {j : Nat} (hj : j < n) : Ld w (pA A j) (.int k (zs.getD j 0)) :=
  Ld.num (own_reads h) hj
theorem _root_.Go.Proofs.YtpomklkfedpkfaaGreat.Reads.some_ (h : Reads w B size A n xs) (hn : 0 < n) : A ≠ none := by
  obtain ⟨ad, rfl, _⟩ := h.2 hn
  simp
theorem range_blk (h : Blk w g t cs) : w.rangeAt g 0 cs.toList := by
  intro j v hv
  rw [Nat.zero_add, h.cell]
  simpa using hv
def Zer (P : Program) (t : TypeId) (l : List Value) : Prop := ∃ i z, P.info? t = some i ∧ i.zero = some z ∧ z.cells = l.toArray
theorem Zer.of {P : Program} {t : TypeId} {l : List Value} (h : ((P.info? t).bind (·.zero)).map (·.cells.toList) = some l) : Zer P t l := by
  cases hi : P.info? t with
  | none => rw [hi] at h; cases h
  | some i =>
    rw [hi] at h
    cases hz : i.zero with
    | none => simp [hz] at h
    | some z =>
      simp [hz] at h
      exact ⟨i, z, hi, hz, by rw [← h]⟩
theorem Zer.run {P : Program} {t : TypeId} {l : List Value} (h : Zer P t l) (w : World) : ∃ z, z.cells = l.toArray ∧ (zeroValue t).run P w = .ok z w := by
  obtain ⟨i, z, hi, hz, hc⟩ := h
  refine ⟨z, hc, ?_⟩
  simp [zeroValue, typeInfo, hi, hz]
end
section
variable {P : Program} {n : Nat} {ops rest : List Oper} {Q : Exit → Fr → World → Prop} {f : Fr} {w w' : World} {d : Option Tmp} {ty : TypeId} {pos : String} {aft : Array Edge} {g : Option (Nat × Bool)} {x y z : Operand} {v u p : Value} {t e tx tz : TypeId}
theorem L.call {c : FuncId} {l : List Operand} {vs : List Value} {ts : Array TypeId} {R : Ending → World → Prop} (hg : wn ops f g = true) (he : Ent P c) (hv : l.map (ev f) = vs) (hc : Calls P c vs.toArray w R)
    (h : ∀ e w', R e w' → ∃ v, e = .returned v ∧ L P n ops Q rest (putO f d v) w') : L P n ops Q (⟨d, .call { callee := .value (.func c), args := l.toArray, argTypes := ts }, ty, pos, aft, g⟩ :: rest) f w :=
  L.enter hg (X.enter he rfl hv) hc h
theorem L.alloc {l : List Value} (hg : wn ops f g = true) (hz : Zer P t l) (h : ∀ b w', b = w.heap.size → w'.heap.size = w.heap.size + 1 → Blk w' b t l.toArray → Ext w w' → L P n ops Q rest (putO f d (.pointer (some ⟨b, 0, none⟩))) w') :
    L P n ops Q (⟨d, .alloc t, ty, pos, aft, g⟩ :: rest) f w := by
  obtain ⟨z, hc, hr⟩ := hz.run w
  refine L.val hg ?_ (h w.heap.size (w.alloc (.cells l.toArray t)) rfl (by simp) (Blk.new _ _ _) (Ext.alloc _ _))
  simp [execOp, Instr.alloc, hr, newVar, newRow, newObj, hc]
  rfl
theorem L.box (hg : wn ops f g = true) (hx : ev f x = v) (h : ∀ b w', b = w.heap.size → w'.heap.size = w.heap.size + 1 → Blk w' b t v.cells → Ext w w' → L P n ops Q rest (putO f d (.pointer (some ⟨b, 0, none⟩))) w') :
    L P n ops Q (⟨d, .box t x, ty, pos, aft, g⟩ :: rest) f w := by
  refine L.val hg ?_ (h w.heap.size (w.alloc (.cells v.cells t)) rfl (by simp) (Blk.new _ _ _) (Ext.alloc _ _))
  simp [execOp, Instr.box, newVar, newRow, newObj, hx]
  rfl
theorem only_setRow (w : World) (b : Nat) (cs : Array Value) : w.grownBy (w.setRow b cs) (some b) :=
  ⟨rfl, rfl, rfl, by simp, fun k _ hk => setRow_other w b k cs (fun e => hk (by rw [e]))⟩
theorem run_store_blk {b o : Nat} {tb : TypeId} {cs : Array Value} {vs : List Value} (hc : v.cells = vs.toArray) (h1 : (vs.all (·.oneCell')) = true) (hz : Siz P t vs.length) (hb : Blk w b tb cs) (hi : o + vs.length ≤ cs.size) :
    (Instr.storeAt t (.pointer (some ⟨b, o, none⟩)) v).run P w = .ok () (w.setRow b (cs.toList.take o ++ vs ++ cs.toList.drop (o + vs.length)).toArray) := by
  have := run_storeCells_at (P := P) b o tb vs 0 cs w hb (by omega) (fun u hu => List.all_eq_true.1 h1 u hu)
  simp only [Nat.add_zero] at this
  simp only [Instr.storeAt, Instr.sureAddr, storeVar, Sem.run_bind, Sem.run_pure, Result.andThen_ok, hz.run, hc]
  simp [this]
theorem L.storeC {b o : Nat} {tb : TypeId} {cs : Array Value} {vs : List Value} (hg : wn ops f g = true) (hx : ev f x = .pointer (some ⟨b, o, none⟩)) (hy : ev f y = v) (hc : v.cells = vs.toArray) (h1 : (vs.all (·.oneCell')) = true) (hz : Siz P t vs.length) (hb : Blk w b tb cs) (hi : o + vs.length ≤ cs.size)
    (h : ∀ w', Blk w' b tb (cs.toList.take o ++ vs ++ cs.toList.drop (o + vs.length)).toArray → w.grownBy w' (some b) → w'.heap.size = w.heap.size → L P n ops Q rest (putO f d undef) w') : L P n ops Q (⟨d, .store t x y, ty, pos, aft, g⟩ :: rest) f w := by
  refine L.skip hg ?_ (h (w.setRow b (cs.toList.take o ++ vs ++ cs.toList.drop (o + vs.length)).toArray) (setRow_heap w b _ _ _ _ hb) (only_setRow _ _ _) (by simp))
  simp only [execOp, hx, hy]
  rw [Sem.run_bind, run_store_blk hc h1 hz hb hi]
  rfl
theorem L.store {b i : Nat} {tb : TypeId} {cs : Array Value} (hg : wn ops f g = true) (hx : ev f x = .pointer (some ⟨b, i, none⟩)) (hy : ev f y = v) (h1 : v.oneCell' = true) (hz : Siz P t 1) (hb : Blk w b tb cs) (hi : i < cs.size)
    (h : ∀ w', Blk w' b tb (cs.setIfInBounds i v) → w.grownBy w' (some b) → w'.heap.size = w.heap.size → L P n ops Q rest (putO f d undef) w') : L P n ops Q (⟨d, .store t x y, ty, pos, aft, g⟩ :: rest) f w := by
  refine L.storeC (vs := [v]) hg hx hy (by cases v <;> first | rfl | cases h1) (by simp [h1]) hz hb (show i + [v].length ≤ cs.size from hi) ?_
  have e : (cs.toList.take i ++ [v] ++ cs.toList.drop (i + [v].length)).toArray = cs.setIfInBounds i v := by
    apply Array.ext'
    simp only [Array.toList_setIfInBounds]
    rw [List.set_eq_take_append_cons_drop, if_pos (by simpa using hi)]
    simp
  rw [e]
  exact h
theorem L.storeAgg {b : Nat} {tb : TypeId} {cs : Array Value} {vs : List Value} (hg : wn ops f g = true) (hx : ev f x = .pointer (some ⟨b, 0, none⟩)) (hy : ev f y = .agg vs.toArray) (h1 : (vs.all (·.oneCell')) = true) (hz : Siz P t vs.length) (hb : Blk w b tb cs) (hi : cs.size = vs.length)
    (h : ∀ w', Blk w' b tb vs.toArray → w.grownBy w' (some b) → w'.heap.size = w.heap.size → L P n ops Q rest (putO f d undef) w') : L P n ops Q (⟨d, .store t x y, ty, pos, aft, g⟩ :: rest) f w := by
  refine L.storeC (vs := vs) hg hx hy rfl h1 hz hb (by omega) ?_
  have e : (cs.toList.take 0 ++ vs ++ cs.toList.drop (0 + vs.length)).toArray = vs.toArray := by simp [← hi]
  rw [e]
  exact h
theorem X.slice {A : Option Addr} {q c sz : Nat} {k kx : IntKind} {m m' : Int} (hx : ev f x = .slice A q c) (hy : ev f y = .int k m) (hz : ev f z = .int kx m') (ht : P.underlying t = some (.slice e)) (hs : Siz P e sz) (hij : 0 ≤ m ∧ m ≤ m' ∧ m' ≤ (c : Int)) :
    (execOp (ev f) ⟨d, .slice t x (some y) (some z) none, ty, pos, aft, g⟩).run P w = .ok (.value (.slice (if c = m.toNat then A else A.map (·.add (m.toNat * sz))) (m'.toNat - m.toNat) (c - m.toNat))) w := by
  simp only [execOp, Instr.sliceAt, Instr.slice, Instr.sliceBounds, Instr.sliceBound, Option.map_some, Option.map_none, hx, hy, hz, Sem.run_bind, run_underlying ht, Result.andThen_ok, asIntOf, Sem.run_pure, hs.run]
  have h1 : 0 ≤ m' ∧ m' ≤ (c : Int) := ⟨by omega, hij.2.2⟩
  have h2 : 0 ≤ m ∧ m ≤ ((m'.toNat : Nat) : Int) := ⟨hij.1, by omega⟩
  simp [h1, h2, hs.run]
  intro hlt
  omega
theorem X.sliceTo {A : Option Addr} {q c sz : Nat} {kx : IntKind} {m' : Int} (hx : ev f x = .slice A q c) (hz : ev f z = .int kx m') (ht : P.underlying t = some (.slice e)) (hs : Siz P e sz) (hij : 0 ≤ m' ∧ m' ≤ (c : Int)) :
    (execOp (ev f) ⟨d, .slice t x none (some z) none, ty, pos, aft, g⟩).run P w = .ok (.value (.slice A m'.toNat c)) w := by
  simp only [execOp, Instr.sliceAt, Instr.slice, Instr.sliceBounds, Instr.sliceBound, Option.map_some, Option.map_none, hx, hz, Sem.run_bind, run_underlying ht, Result.andThen_ok, asIntOf, Sem.run_pure, hs.run]
  simp [hij, hs.run]
  cases A <;> simp [Addr.add_zero']
theorem X.sliceFrom {A : Option Addr} {q c sz : Nat} {k : IntKind} {m : Int} (hx : ev f x = .slice A q c) (hy : ev f y = .int k m) (ht : P.underlying t = some (.slice e)) (hs : Siz P e sz) (hij : 0 ≤ m ∧ m ≤ (q : Int)) :
    (execOp (ev f) ⟨d, .slice t x (some y) none none, ty, pos, aft, g⟩).run P w = .ok (.value (.slice (if c = m.toNat then A else A.map (·.add (m.toNat * sz))) (q - m.toNat) (c - m.toNat))) w := by
  simp only [execOp, Instr.sliceAt, Instr.slice, Instr.sliceBounds, Instr.sliceBound, Option.map_some, Option.map_none, hx, hy, Sem.run_bind, run_underlying ht, Result.andThen_ok, asIntOf, Sem.run_pure, hs.run]
  simp [hij, hs.run]
theorem X.sliceTon {A : Option Addr} {q c j sz : Nat} {kx : IntKind} (hx : ev f x = .slice A q c) (hz : ev f z = .int kx (j : Int)) (ht : P.underlying t = some (.slice e)) (hs : Siz P e sz) (hij : j ≤ c) :
    (execOp (ev f) ⟨d, .slice t x none (some z) none, ty, pos, aft, g⟩).run P w = .ok (.value (.slice A j c)) w :=
  X.sliceTo hx hz ht hs ⟨by omega, by omega⟩
theorem X.sliceFromn {A : Option Addr} {q c i sz : Nat} {k : IntKind} (hx : ev f x = .slice A q c) (hy : ev f y = .int k (i : Int)) (ht : P.underlying t = some (.slice e)) (hs : Siz P e sz) (hij : i ≤ q) :
    (execOp (ev f) ⟨d, .slice t x (some y) none none, ty, pos, aft, g⟩).run P w = .ok (.value (.slice (if c = i then A else A.map (·.add (i * sz))) (q - i) (c - i))) w :=
  X.sliceFrom hx hy ht hs ⟨by omega, by omega⟩
def Evs (f : Fr) : List (Nat × Operand) → List (Nat × Value) → Prop
  | [], [] => True
  | (i, x) :: ps, (j, v) :: qs => i = j ∧ ev f x = v ∧ Evs f ps qs
  | _, _ => False
theorem Evs.nil : Evs f [] [] := trivial
theorem Evs.cons {i : Nat} {ps : List (Nat × Operand)} {qs : List (Nat × Value)} (h : ev f x = v) (t : Evs f ps qs) : Evs f ((i, x) :: ps) ((i, v) :: qs) := ⟨rfl, h, t⟩
theorem Evs.map : ∀ {ps : List (Nat × Operand)} {qs : List (Nat × Value)}, Evs f ps qs → ps.map (fun p => (p.1, ev f p.2)) = qs
  | [], [], _ => rfl
  | (i, x) :: ps, (j, v) :: qs, ⟨h1, h2, h3⟩ => by simp only [List.map_cons, h1, h2, Evs.map h3]
  | [], _ :: _, h => h.elim
  | _ :: _, [], h => h.elim
theorem X.build {ps : List (Nat × Operand)} {qs : List (Nat × Value)} {l : List Value} (hq : Evs f ps qs) (h : (Instr.build t qs.toArray).run P w = .ok (.agg l.toArray) w) : (execOp (ev f) ⟨d, .build t ps.toArray, ty, pos, aft, g⟩).run P w = .ok (.value (.agg l.toArray)) w := by
  simp only [execOp, List.map_toArray, Sem.run_bind, hq.map]
  rw [h]
  rfl
theorem part_reads {B sz q c i j : Nat} {A : Option Addr} {xs : List Value} (h : Reads w B sz A q xs) (hij : i ≤ j) (hj : j ≤ q) (hq : q ≤ c) : Reads w B sz (if c = i then A else A.map (·.add (i * sz))) (j - i) ((xs.drop (i * sz)).take ((j - i) * sz)) :=
  (h.cut (by omega) hq).first (by omega)
theorem part_nums {B q c i j : Nat} {A : Option Addr} {k : IntKind} {zs : List Int} (h : Reads w B 1 A q (nums k zs)) (hij : i ≤ j) (hj : j ≤ q) (hq : q ≤ c) : Reads w B 1 (if c = i then A else A.map (·.add (i * 1))) (j - i) (nums k ((zs.drop i).take (j - i))) := by
  have := part_reads h hij hj hq
  simpa [nums] using this
theorem fill_ones : ∀ (l : List Value) (i : Nat) (cells : Array Value), (∀ v ∈ l, v.oneCell' = true) → i + l.length ≤ cells.size →
    Instr.fill (fun i => some (i * 1, 1)) cells ((List.range' i l.length).zip l) = some (cells.toList.take i ++ l ++ cells.toList.drop (i + l.length)).toArray
  | [], i, cells, _, _ => by simp [Instr.fill]
  | v :: l, i, cells, h1, hl => by
    have hv : v.cells = #[v] := by
      have := h1 v (by simp)
      cases v <;> first | rfl | cases this
    simp only [List.length_cons] at hl
    have hlt : i < cells.toList.length := by simp; omega
    simp only [List.length_cons, List.range'_succ, List.zip_cons_cons, Instr.fill, hv, Nat.mul_one]
    rw [if_neg (by simp; omega)]
    have e : (#[v].zipIdx.foldl (fun cs x => cs.setIfInBounds (i + x.2) x.1) cells) = cells.setIfInBounds i v := by simp
    have ih := fill_ones l (i + 1) (cells.setIfInBounds i v) (fun u hu => h1 u (by simp [hu])) (by simp; omega)
    have e2 : (List.foldl (fun cs x => cs.setIfInBounds (i + x.2) x.1) cells #[v].zipIdx.toList) = cells.setIfInBounds i v := by simp
    simp only [Nat.mul_one] at ih
    first
      | (rw [e, ih])
      | (simp only [← Array.foldl_toList]; rw [e2, ih])
    congr 1
    apply Array.ext'
    simp only [Array.toList_setIfInBounds]
    rw [List.set_eq_take_append_cons_drop, if_pos hlt]
    simp only [List.take_append, List.length_take, List.drop_append]
    rw [Nat.min_eq_left (by omega)]
    simp
    rw [List.take_of_length_le (show (cells.toList.take i).length ≤ i + 1 by simp; omega), List.drop_of_length_le (show (cells.toList.take i).length ≤ i + 1 + l.length by simp; omega), show i + 1 + l.length - i = l.length + 1 by omega, List.drop_succ_cons, List.drop_drop]
    rw [show i + 1 + l.length = i + (l.length + 1) by omega]
    rfl
theorem L.bslice {ps : List (Nat × Operand)} {vs zs : List Value} {q : Nat} {qs : List (Nat × Value)} (hg : wn ops f g = true) (hv0 : Evs f ps qs) (hv1 : qs.map (·.2) = vs) (hi : ps.map (·.1) = List.range' 0 q) (hq : vs.length = q) (h1 : (vs.all (·.oneCell')) = true) (ht : P.underlying t = some (.slice e)) (hs : Siz P e 1) (hzr : Zer P e zs) (hq2 : q ≤ 16777216)
    (h : ∀ b w', b = w.heap.size → w'.heap.size = w.heap.size + 1 → Blk w' b e vs.toArray → Ext w w' → L P n ops Q rest (putO f d (.slice (some ⟨b, 0, none⟩) q q)) w') : L P n ops Q (⟨d, .buildSlice t q ps.toArray, ty, pos, aft, g⟩ :: rest) f w := by
  refine L.val hg ?_ (h w.heap.size (w.alloc (.cells vs.toArray e)) rfl (by simp) (Blk.new _ _ _) (Ext.alloc _ _))
  obtain ⟨z, hzc, hzr⟩ := hzr.run w
  have hv : ps.map (fun p => ev f p.2) = vs := by rw [← hv1, ← hv0.map]; simp
  have hps : ps.map (fun p => (p.1, ev f p.2)) = (List.range' 0 vs.length).zip vs := by
    rw [hq, ← hi, ← hv, List.zip_map', ]
  have hall : ∀ v ∈ vs, v.oneCell' = true := fun v hv => List.all_eq_true.1 h1 v hv
  have key : ∀ z : Array Value, Instr.fill (fun i => some (i * 1, 1)) ((Array.range (q * 1)).map (z[· % z.size]!)) (ps.map (fun p => (p.1, ev f p.2))) = some vs.toArray := by
    intro z
    rw [hps, fill_ones vs 0 _ hall (by simp; omega)]
    simp [hq]
  simp only [execOp, Instr.buildSlice, Sem.run_bind, run_underlying ht, Result.andThen_ok, hs.run, List.map_toArray]
  rw [if_neg (by omega)]
  by_cases h0 : q * 1 = 0
  · simp only [if_pos h0, Sem.run_pure, Result.andThen_ok, key, newRow, newObj]
    rfl
  · simp only [if_neg h0, Sem.run_bind, hzr, Sem.run_pure, Result.andThen_ok, key, newRow, newObj]
    rfl
end
end Go.Proofs.YtpomklkfedpkfaaGreat.H
namespace Go.Proofs.YtpomklkfedpkfaaGreat.H
open Go.RowKit Go.Proofs.YtpomklkfedpkfaaGreat
set_option linter.unusedSimpArgs false
set_option linter.unusedVariables false
section
variable {P : Program} {n : Nat} {ops rest : List Oper} {Q : Exit → Fr → World → Prop} {f : Fr} {w w' : World} {d : Option Tmp} {ty : TypeId} {pos : String} {aft : Array Edge} {g : Option (Nat × Bool)} {x y z : Operand} {v u p : Value} {t e tx tz : TypeId}
def Elm (P : Program) (e : TypeId) (z : Value) (size bytes : Nat) : Prop := (P.info? e).map (fun i => (i.zero, i.size, i.bytes)) = some (some z, size, bytes) ∧ z.cells.size = size ∧ 0 < size
theorem Elm.of {e : TypeId} {z : Value} {size bytes : Nat} (h : (P.info? e).map (fun i => (i.zero, i.size, i.bytes)) = some (some z, size, bytes)) (h1 : z.cells.size = size) (h2 : 0 < size) : Elm P e z size bytes := ⟨h, h1, h2⟩
theorem L.append {base n' m c B size bytes : Nat} {A : Option Addr} {xs news : List Value} {z : Value} (hg : wn ops f g = true) (hs : ev f x = v) (hx : ev f y = .slice A m c) (ht : P.underlying t = some (.slice e)) (he : Elm P e z size bytes)
    (hown : w.ownsRow base e size v n' xs) (hr : Reads w B size A m news) (h1 : (news.all (·.oneCell')) = true) (hlen : n' + m ≤ maxLen ∧ (n' + m) * bytes ≤ 140737488355328) (hbase : base ≤ w.heap.size)
    (h : ∀ A' c' w', w'.ownsRow base e size (.slice A' (n' + m) c') (n' + m) (xs ++ news) → w.grownBy w' v.ownBlock → Below base w w' → (Value.ownBlock (.slice A' (n' + m) c') = v.ownBlock ∨ Value.ownBlock (.slice A' (n' + m) c') = some w.heap.size) → L P n ops Q rest (putO f d (.slice A' (n' + m) c')) w') :
    L P n ops Q (⟨d, .call { callee := .builtin .append, args := #[x, y], argTypes := #[t, t] }, ty, pos, aft, g⟩ :: rest) f w := by
  refine L.law hg fun a hr' K hK => ?_
  obtain ⟨i, hi0, hz, hs1, hb1⟩ := info_parts he.1
  refine wp_append_any w x y t rfl base e i z size bytes ht hi0 hz hs1 hb1 he.2.1 he.2.2 v n' xs (by rw [hr'.eval]; exact hs) hown B A m c news (by rw [hr'.eval]; exact hx) hr (fun u hu => List.all_eq_true.1 h1 u hu) hlen.1 hlen.2 hbase ?_
  intro v' w' h2 h3 h4
  obtain ⟨A', c', rfl⟩ := ownsRow_slice h2
  exact hK _ _ (h A' c' w' h2 h3 (below_grown hown h3 hbase) h4)
theorem nums_ones (k : IntKind) (zs : List Int) : ((nums k zs).all (·.oneCell')) = true := by
  rw [List.all_eq_true]
  exact nums_one k zs
theorem L.appendN {base n' m c B bytes : Nat} {k : IntKind} {A : Option Addr} {xs zs : List Int} {z : Value} (hg : wn ops f g = true) (hs : ev f x = v) (hx : ev f y = .slice A m c) (ht : P.underlying t = some (.slice e)) (he : Elm P e z 1 bytes)
    (hown : w.ownsRow base e 1 v n' (nums k xs)) (hr : Reads w B 1 A m (nums k zs)) (hlen : n' + m ≤ maxLen ∧ (n' + m) * bytes ≤ 140737488355328) (hbase : base ≤ w.heap.size)
    (h : ∀ A' c' w', w'.ownsRow base e 1 (.slice A' (n' + m) c') (n' + m) (nums k (xs ++ zs)) → w.grownBy w' v.ownBlock → Below base w w' → (Value.ownBlock (.slice A' (n' + m) c') = v.ownBlock ∨ Value.ownBlock (.slice A' (n' + m) c') = some w.heap.size) → L P n ops Q rest (putO f d (.slice A' (n' + m) c')) w') :
    L P n ops Q (⟨d, .call { callee := .builtin .append, args := #[x, y], argTypes := #[t, t] }, ty, pos, aft, g⟩ :: rest) f w := by
  refine L.append hg hs hx ht he hown hr (nums_ones _ _) hlen hbase ?_
  rw [nums_append]
  exact h
theorem L.appendQ {base n' m c B bytes q : Nat} {k : IntKind} {A : Option Addr} {xs zs ys : List Int} {z : Value} (hg : wn ops f g = true) (hs : ev f x = v) (hx : ev f y = .slice A m c) (ht : P.underlying t = some (.slice e)) (he : Elm P e z 1 bytes)
    (hown : w.ownsRow base e 1 v n' (nums k xs)) (hr : Reads w B 1 A m (nums k zs)) (hq : n' + m = q) (hy : xs ++ zs = ys) (hlen : q ≤ maxLen ∧ q * bytes ≤ 140737488355328) (hbase : base ≤ w.heap.size)
    (h : ∀ A' c' w', w'.ownsRow base e 1 (.slice A' q c') q (nums k ys) → w.grownBy w' v.ownBlock → Below base w w' → (Value.ownBlock (.slice A' q c') = v.ownBlock ∨ Value.ownBlock (.slice A' q c') = some w.heap.size) → L P n ops Q rest (putO f d (.slice A' q c')) w') :
    L P n ops Q (⟨d, .call { callee := .builtin .append, args := #[x, y], argTypes := #[t, t] }, ty, pos, aft, g⟩ :: rest) f w := by
  subst hq hy
  exact L.appendN hg hs hx ht he hown hr hlen hbase h
theorem L.appendV {base n' m c B size bytes q : Nat} {A : Option Addr} {xs news ys : List Value} {z : Value} (hg : wn ops f g = true) (hs : ev f x = v) (hx : ev f y = .slice A m c) (ht : P.underlying t = some (.slice e)) (he : Elm P e z size bytes)
    (hown : w.ownsRow base e size v n' xs) (hr : Reads w B size A m news) (h1 : (news.all (·.oneCell')) = true) (hq : n' + m = q) (hy : xs ++ news = ys) (hlen : q ≤ maxLen ∧ q * bytes ≤ 140737488355328) (hbase : base ≤ w.heap.size)
    (h : ∀ A' c' w', w'.ownsRow base e size (.slice A' q c') q ys → w.grownBy w' v.ownBlock → Below base w w' → (Value.ownBlock (.slice A' q c') = v.ownBlock ∨ Value.ownBlock (.slice A' q c') = some w.heap.size) → L P n ops Q rest (putO f d (.slice A' q c')) w') :
    L P n ops Q (⟨d, .call { callee := .builtin .append, args := #[x, y], argTypes := #[t, t] }, ty, pos, aft, g⟩ :: rest) f w := by
  subst hq hy
  exact L.append hg hs hx ht he hown hr h1 hlen hbase h
theorem own_nil (w : World) (base : Nat) (e : TypeId) (size : Nat) : w.ownsRow base e size (.slice none 0 0) 0 [] := World.ownsRow_nil _ _ _ _
theorem blk_own {base b q c size : Nat} {l : List Value} (h : Blk w b e l.toArray) (hb : base ≤ b) (hq : q ≤ c) (hm : c ≤ maxLen) (hl : l.length = c * size) : w.ownsRow base e size (.slice (some ⟨b, 0, none⟩) q c) q (l.take (q * size)) := by
  refine ⟨by rw [List.length_take, hl]; exact Nat.min_eq_left (Nat.mul_le_mul_right _ hq), .inr ⟨b, c, l.toArray, rfl, hb, h, hq, hm, by simpa using hl, by simp⟩⟩
theorem blk_own1 {base b q : Nat} {l : List Value} (h : Blk w b e l.toArray) (hb : base ≤ b) (hm : q ≤ maxLen) (hl : l.length = q) : w.ownsRow base e 1 (.slice (some ⟨b, 0, none⟩) q q) q l := by
  have := blk_own (size := 1) h hb (Nat.le_refl _) hm (by omega)
  rwa [List.take_of_length_le (by omega)] at this
theorem blk_reads {b q B : Nat} {l : List Value} (h : Blk w b t l.toArray) (hb : b < B) (hl : l.length = q) : Reads w B 1 (some ⟨b, 0, none⟩) q l := by
  refine ⟨by omega, fun _ => ⟨_, rfl, hb, fun j u hu => ?_⟩⟩
  rw [Addr.add_mid, Nat.zero_add, h.cell]
  simpa using hu
theorem L.make {size bytes : Nat} {z : Value} {q c : Nat} {k kx : IntKind} (hg : wn ops f g = true) (hx : ev f x = .int k (q : Int)) (hy : ev f y = .int kx (c : Int)) (ht : P.underlying t = some (.slice e)) (he : Elm P e z size bytes) (hq : q ≤ c ∧ bytes * c ≤ 281474976710656 ∧ c ≤ 9223372036854775807)
    (h : ∀ b w', b = w.heap.size → w'.heap.size = w.heap.size + 1 → Blk w' b e (madeCells z.cells (c * size)) → Ext w w' → L P n ops Q rest (putO f d (.slice (some ⟨b, 0, none⟩) q c)) w') :
    L P n ops Q (⟨d, .makeSlice t x y, ty, pos, aft, g⟩ :: rest) f w := by
  obtain ⟨i, hi0, hz, hs1, hb1⟩ := info_parts he.1
  have := run_make_rowN (P := P) t e i z ht hi0 hz k kx q c hq.1 (by rw [hb1]; exact hq.2.1) hq.2.2 w
  rw [hs1] at this
  refine L.val hg ?_ (h w.heap.size _ rfl (by simp) (Blk.new _ _ _) (Ext.alloc _ _))
  simp only [execOp, hx, hy, Sem.run_bind, this]
  rfl
theorem made_one {z : Value} {c : Nat} (hz : z.cells = #[z]) : madeCells z.cells (c * 1) = (List.replicate c z).toArray := by
  apply Array.ext'
  rw [hz, Nat.mul_one, toList_madeCells_one]
def wpAnyL (P : Program) (ops : Array Oper) (Q : Exit → Act → World → Prop) (S : World → Prop) (ℓ : Nat) : Nat → Array Bool → Act → World → Prop
  | 0, listed, a, w => Region.ready .any ops listed = [] ∧ Q .normal a w
  | fuel + 1, listed, a, w =>
    (Region.ready .any ops listed = [] → Q .normal a w) ∧
    ∀ i ∈ Region.ready .any ops listed, wpOp P ops Q i (fun a' w' => (i ≠ ℓ → S w') ∧ wpAnyL P ops Q S ℓ fuel (listed.setIfInBounds i true) a' w') a w
theorem wpAny_of_L {P : Program} {ops : Array Oper} {Q : Exit → Act → World → Prop} {S : World → Prop} {ℓ : Nat} : ∀ (fuel : Nat) (listed : Array Bool) (a : Act) (w : World), wpAnyL P ops Q S ℓ fuel listed a w → wpAny P .any ops Q fuel listed a w
  | 0, _, _, _, h => h
  | fuel + 1, _, _, _, h => ⟨h.1, fun i hi => wpOp_mono (fun a' w' h' => wpAny_of_L fuel _ a' w' h'.2) (h.2 i hi)⟩
def waiters (ops : Array Oper) (i : Nat) : List Nat :=
  (List.range ops.size).foldl (fun W j => match ops[j]? with
    | some o => if o.after.any (fun e => Region.binds .any e && (e.on == i || W.contains e.on)) then j :: W else W
    | none => W) []
def late (ops : Array Oper) (listed : Array Bool) (i ℓ : Nat) : Bool :=
  Nat.ble ops.size ℓ || ((waiters ops i).contains ℓ && (waiters ops i).all fun j => !listed.getD j true && (match ops[j]? with
    | some o => o.after.any (fun e => Region.binds .any e && (e.on == i || (waiters ops i).contains e.on))
    | none => false))
theorem wpAnyL_gen {P : Program} {ops : Array Oper} {Q : Exit → Act → World → Prop} {S : World → Prop} {ℓ i : Nat} {oi : Oper} {v : Value} {Y : Act → Prop} (hi : ops[i]? = some oi)
    (hop : ∀ {K : Act → World → Prop} {a : Act} {w : World}, Y a → S w → K (a.put oi.dst v) w → wpOp P ops Q i K a w)
    (hpast : ∀ {j : Nat} {oj : Oper} {K : Act → World → Prop} {a : Act} {w : World}, ops[j]? = some oj → oi.apart ops oj = true → Y a → wpOp P ops Q j K (a.put oi.dst v) w → wpOp P ops Q j (fun a' w' => Y a' ∧ K (a'.put oi.dst v) w') a w)
    (W : List Nat) (hW : ∀ j ∈ W, ∃ oj, ops[j]? = some oj ∧ ∃ e ∈ oj.after, Region.binds .any e = true ∧ (e.on = i ∨ e.on ∈ W)) (hℓ : ℓ ∈ W ∨ ops.size ≤ ℓ) :
    ∀ (fuel : Nat) (listed : Array Bool) (a : Act) (w : World),
      (∀ j oj, ops[j]? = some oj → j ≠ i → listed.getD j true = false → (∀ e ∈ oj.after, Region.binds .any e = true → e.on ≠ i) → oi.apart ops oj = true) →
      (∀ j ∈ W, listed.getD j true = false) →
      i ∈ Region.ready .any ops listed → Y a → S w →
      wpAnyL P ops Q S ℓ fuel (listed.setIfInBounds i true) (a.put oi.dst v) w → wpAnyL P ops Q S ℓ (fuel + 1) listed a w := by
  intro fuel
  induction fuel with
  | zero =>
    intro listed a w _ _ hr hy hS H
    refine ⟨fun h => (by rw [h] at hr; cases hr), fun j hj => ?_⟩
    by_cases hji : j = i
    · subst hji; exact hop hy hS ⟨fun _ => hS, H⟩
    · have := ready_mono hj hji
      rw [H.1] at this
      cases this
  | succ fuel ih =>
    intro listed a w hfree hWl hr hy hS H
    refine ⟨fun h => (by rw [h] at hr; cases hr), fun j hj => ?_⟩
    by_cases hji : j = i
    · subst hji; exact hop hy hS ⟨fun _ => hS, H⟩
    · have h1 := H.2 j (ready_mono hj hji)
      obtain ⟨hjun, oj, hoj, hall⟩ := mem_ready.1 hj
      have hiun := (mem_ready.1 hr).1
      have clash : ∀ k, listed.getD k false = true → listed.getD k true = false → False := fun k h1 h0 => by
        rcases Nat.lt_or_ge k listed.size with h' | h'
        · simp [h'] at h0 h1; rw [h0] at h1; cases h1
        · simp [Array.getElem?_eq_none h'] at h1
      have hnot : ∀ e ∈ oj.after, Region.binds .any e = true → e.on ≠ i := fun e he hb heq => by
        have h1 := hall e he hb
        rw [heq] at h1
        exact clash i h1 hiun
      have hjW : j ∉ W := fun hjW => by
        obtain ⟨oj', hoj', e, he, hb, hon⟩ := hW j hjW
        rw [hoj] at hoj'
        obtain rfl : oj = oj' := by injection hoj'
        have h1 := hall e he hb
        rcases hon with hon | hon
        · rw [hon] at h1; exact clash i h1 hiun
        · exact clash e.on h1 (hWl e.on hon)
      have hjℓ : j ≠ ℓ := fun h => by
        subst h
        rcases hℓ with h | h
        · exact hjW h
        · rw [Array.getElem?_eq_none h] at hoj; cases hoj
      have h2 := hpast hoj (hfree j oj hoj hji hjun hnot) hy h1
      have hfree' : ∀ k ok, ops[k]? = some ok → k ≠ i → (listed.setIfInBounds j true).getD k true = false →
          (∀ e ∈ ok.after, Region.binds .any e = true → e.on ≠ i) → oi.apart ops ok = true := fun k ok hk hki hun hno => by
        refine hfree k ok hk hki ?_ hno
        by_cases hjk : j = k
        · subst hjk; exact hjun
        · rw [getD_set_ne true hjk] at hun; exact hun
      have hWl' : ∀ k ∈ W, (listed.setIfInBounds j true).getD k true = false := fun k hk => by
        rw [getD_set_ne true (show j ≠ k from fun h => by subst h; exact hjW hk)]; exact hWl k hk
      refine wpOp_mono (fun a' w' h3 => ⟨h3.2.1, ih (listed.setIfInBounds j true) a' w' hfree' hWl' (ready_mono hr (Ne.symm hji)) h3.1 (h3.2.1 hjℓ) ?_⟩) h2
      rw [Array.setIfInBounds_comm _ _ hji]
      exact h3.2.2
theorem late_spec {ops : Array Oper} {listed : Array Bool} {i ℓ : Nat} (h : late ops listed i ℓ = true) :
    ∃ W : List Nat, (∀ j ∈ W, ∃ oj, ops[j]? = some oj ∧ ∃ e ∈ oj.after, Region.binds .any e = true ∧ (e.on = i ∨ e.on ∈ W)) ∧ (ℓ ∈ W ∨ ops.size ≤ ℓ) ∧ ∀ j ∈ W, listed.getD j true = false := by
  unfold late at h
  rw [Bool.or_eq_true, Bool.and_eq_true] at h
  rcases h with h | ⟨h1, h2⟩
  · exact ⟨[], fun j hj => (List.not_mem_nil hj).elim, Or.inr (Nat.le_of_ble_eq_true h), fun j hj => (List.not_mem_nil hj).elim⟩
  · refine ⟨waiters ops i, fun j hj => ?_, .inl (by simpa using h1), fun j hj => ?_⟩
    · have h3 := List.all_eq_true.1 h2 j hj
      rw [Bool.and_eq_true] at h3
      have h4 := h3.2
      cases ho : ops[j]? with
      | none => rw [ho] at h4; cases h4
      | some o =>
        rw [ho] at h4
        simp only [Array.any_eq_true'] at h4
        obtain ⟨e, he, hb⟩ := h4
        refine ⟨o, rfl, e, he, ?_⟩
        simpa using hb
    · have h3 := List.all_eq_true.1 h2 j hj
      rw [Bool.and_eq_true] at h3
      simpa using h3.1
theorem wpAnyL_take {P : Program} {ops : Array Oper} {Q : Exit → Act → World → Prop} {S : World → Prop} {ℓ i : Nat} {oi : Oper} {v : Value} {fuel : Nat} {listed : Array Bool} {a : Act} {w : World} (hi : ops[i]? = some oi)
    (hs : Region.noSelect ops = true) (hf : Region.free .any ops listed i = true) (hr : (Region.ready .any ops listed).contains i = true) (hl : late ops listed i ℓ = true)
    (hQ : ∀ c a w, Q (.panic c) (a.put oi.dst v) w → Q (.panic c) a w) (hy : YieldsIf P ops S oi v a) (hS : S w)
    (h : wpAnyL P ops Q S ℓ fuel (listed.setIfInBounds i true) (a.put oi.dst v) w) : wpAnyL P ops Q S ℓ (fuel + 1) listed a w := by
  obtain ⟨W, h1, h2, h3⟩ := late_spec hl
  have hsel := Region.noSelect_spec hs
  exact wpAnyL_gen hi (fun hy hS h => hy.wpOp hi hS h) (fun {j oj K a w} hj hap hy h => wpOp_putIf hj hap (fun cs b => hsel i oi cs b hi) (fun cs b => hsel j oj cs b hj) hQ hy h) W h1 h2 fuel listed a w (Region.free_spec hi hf) h3 (by simpa using hr) hy hS h
theorem wpAnyL_all {P : Program} {ops : Array Oper} {Q : Exit → Act → World → Prop} {S : World → Prop} {ℓ : Nat} {rs : List Nat} {fuel : Nat} {listed : Array Bool} {a : Act} {w : World} (hr : Region.ready .any ops listed = rs) (hne : rs ≠ [])
    (h : ∀ i ∈ rs, wpOp P ops Q i (fun a' w' => (i ≠ ℓ → S w') ∧ wpAnyL P ops Q S ℓ fuel (listed.setIfInBounds i true) a' w') a w) : wpAnyL P ops Q S ℓ (fuel + 1) listed a w :=
  ⟨fun h0 => absurd (hr ▸ h0) hne, hr ▸ h⟩
theorem wpAnyL_done {P : Program} {ops : Array Oper} {Q : Exit → Act → World → Prop} {S : World → Prop} {ℓ : Nat} {listed : Array Bool} {a : Act} {w : World} (hr : Region.ready .any ops listed = []) (h : Q .normal a w) :
    ∀ fuel, wpAnyL P ops Q S ℓ fuel listed a w
  | 0 => ⟨hr, h⟩
  | _ + 1 => ⟨fun _ => h, by rw [hr]; simp⟩
def D (P : Program) (n : Nat) (ops : List Oper) (S : World → Prop) (ℓ : Nat) (Q : Exit → Fr → World → Prop) (fuel : Nat) (listed : Array Bool) (f : Fr) (w : World) : Prop :=
  ops.all (fitO n) = true → ∀ a, Rep n f a → wpAnyL P ops.toArray (lft n Q) S ℓ fuel listed a w
theorem J.draw {id : Nat} {l : List Oper} {S : World → Prop} {ℓ : Nat} (hm : P.follows .mixedOrders = true) (h : ∀ w1, Ext w w1 → w1.heap = w.heap → D P n l S ℓ Q l.length (Array.replicate l.length false) f w1) : J P n (.region id l.toArray true) Q f w := by
  intro hf a hr
  simp only [fitC] at hf
  refine wp_region_any hm (wpAny_of_L (S := S) (ℓ := ℓ) _ _ _ _ ?_)
  have := h w.drew (Ext.drew w) rfl hf a hr
  simpa using this
theorem D.done {S : World → Prop} {ℓ : Nat} {fuel : Nat} {listed : Array Bool} (hr : Region.ready .any ops.toArray listed = []) (h : Q .normal f w) : D P n ops S ℓ Q fuel listed f w :=
  fun _ _ hr' => wpAnyL_done hr ⟨f, hr', h⟩ fuel
theorem D.take {S : World → Prop} {ℓ : Nat} {fuel : Nat} {listed : Array Bool} (i : Nat) {o : Oper} (ho : ops[i]? = some o)
    (hb : (Region.noSelect ops.toArray && Region.free .any ops.toArray listed i && (Region.ready .any ops.toArray listed).contains i && late ops.toArray listed i ℓ) = true) (hQ : ∀ c f w, Q (.panic c) f w → False)
    (hg : wn ops f o.guard = true) (hx : ∀ w', S w' → (execOp (ev f) o).run P w' = .ok (.value v) w') (hS : S w) (h : D P n ops S ℓ Q fuel (listed.setIfInBounds i true) (putO f o.dst v) w) : D P n ops S ℓ Q (fuel + 1) listed f w := by
  intro hf a hr
  simp only [Bool.and_eq_true] at hb
  refine wpAnyL_take (i := i) (oi := o) (v := v) (by simpa using ho) hb.1.1.1 hb.1.1.2 hb.1.2 hb.2 ?_ (.inl ⟨by rw [wanted_eq hr]; exact hg, fun w' hw' => by rw [hr.eval]; exact hx w' hw'⟩) hS ?_
  · rintro c a w ⟨f', _, hq⟩
    exact absurd hq (hQ c f' w)
  · exact h hf _ (hr.put v (List.all_eq_true.1 hf o (List.mem_of_getElem? ho)))
theorem D.off {S : World → Prop} {ℓ : Nat} {fuel : Nat} {listed : Array Bool} (i : Nat) {o : Oper} (ho : ops[i]? = some o)
    (hb : (Region.noSelect ops.toArray && Region.free .any ops.toArray listed i && (Region.ready .any ops.toArray listed).contains i && late ops.toArray listed i ℓ) = true) (hQ : ∀ c f w, Q (.panic c) f w → False)
    (hg : wn ops f o.guard = false) (hS : S w) (h : D P n ops S ℓ Q fuel (listed.setIfInBounds i true) (putO f o.dst undef) w) : D P n ops S ℓ Q (fuel + 1) listed f w := by
  intro hf a hr
  simp only [Bool.and_eq_true] at hb
  refine wpAnyL_take (i := i) (oi := o) (v := undef) (by simpa using ho) hb.1.1.1 hb.1.1.2 hb.1.2 hb.2 ?_ (.inr ⟨by rw [wanted_eq hr]; exact hg, rfl⟩) hS ?_
  · rintro c a w ⟨f', _, hq⟩
    exact absurd hq (hQ c f' w)
  · exact h hf _ (hr.put undef (List.all_eq_true.1 hf o (List.mem_of_getElem? ho)))
theorem wp_mono2 {o : Oper} {a : Act} {w : World} {K K' : Act → World → Prop} {Q1 Q2 : Exit → Act → World → Prop} (hK : ∀ a w, K a w → K' a w) (hQ : ∀ e a w, e ≠ .normal → Q1 e a w → Q2 e a w) (h : o.wp P a w K Q1) : o.wp P a w K' Q2 := by
  unfold Oper.wp at *
  generalize (execOp a.eval o).run P w = r at *
  cases r with
  | ok n w' =>
    cases n <;> simp only [Oper.upon] at h ⊢ <;>
      first
        | exact hK _ _ h
        | exact Calls.mono h (fun e w'' he => by
            cases e
            case returned => exact hK _ _ he
            case panicked => exact hQ _ _ _ (by simp) he
            case outgrown => obtain ⟨a2, w2, h2⟩ := he; exact ⟨a2, w2, hQ _ _ _ (by simp) h2⟩)
        | exact Rows.mono h (fun _ _ he => hK _ _ he)
  | halt x w' => cases x <;> simp only [Oper.upon] at h ⊢ <;> first | exact hQ _ _ _ (by simp) h | exact h
theorem D.va {S : World → Prop} {ℓ : Nat} {fuel : Nat} {listed : Array Bool} (i : Nat) {k : Nat} {op : Op} (ho : ops[i]? = some ⟨some k, op, ty, pos, aft, g⟩)
    (hb : (Region.noSelect ops.toArray && Region.free .any ops.toArray listed i && (Region.ready .any ops.toArray listed).contains i && late ops.toArray listed i ℓ) = true) (hQ : ∀ c f w, Q (.panic c) f w → False)
    (hg : wn ops f g = true) (hx : ∀ w', S w' → (execOp (ev f) ⟨some k, op, ty, pos, aft, g⟩).run P w' = .ok (.value v) w') (hS : S w) (h : D P n ops S ℓ Q fuel (listed.setIfInBounds i true) (lk [(k, v)] f) w) : D P n ops S ℓ Q (fuel + 1) listed f w := D.take i ho hb hQ hg hx hS h
theorem D.no {S : World → Prop} {ℓ : Nat} {fuel : Nat} {listed : Array Bool} (i : Nat) {k : Nat} {op : Op} (ho : ops[i]? = some ⟨some k, op, ty, pos, aft, g⟩)
    (hb : (Region.noSelect ops.toArray && Region.free .any ops.toArray listed i && (Region.ready .any ops.toArray listed).contains i && late ops.toArray listed i ℓ) = true) (hQ : ∀ c f w, Q (.panic c) f w → False)
    (hg : wn ops f g = false) (hS : S w) (h : D P n ops S ℓ Q fuel (listed.setIfInBounds i true) (lk [(k, undef)] f) w) : D P n ops S ℓ Q (fuel + 1) listed f w := D.off i ho hb hQ hg hS h
theorem D.all {S : World → Prop} {ℓ : Nat} {fuel : Nat} {listed : Array Bool} {rs : List Nat} (hr : Region.ready .any ops.toArray listed = rs) (hne : rs ≠ [])
    (h : ∀ i ∈ rs, ∃ o, ops[i]? = some o ∧ L P n ops (thn (fun f' w' => (i ≠ ℓ → S w') ∧ D P n ops S ℓ Q fuel (listed.setIfInBounds i true) f' w') Q) [o] f w) : D P n ops S ℓ Q (fuel + 1) listed f w := by
  intro hf a hr'
  refine wpAnyL_all hr hne fun i hi => ?_
  obtain ⟨o, ho, hl⟩ := h i hi
  have h1 := hl (by simp only [List.all_cons, List.all_nil, Bool.and_true]; exact List.all_eq_true.1 hf o (List.mem_of_getElem? ho)) a hr'
  unfold wpOp
  rw [show ops.toArray[i]? = some o by simpa using ho]
  simp only
  have mono : ∀ a' w', lft n (thn (fun f' w' => (i ≠ ℓ → S w') ∧ D P n ops S ℓ Q fuel (listed.setIfInBounds i true) f' w') Q) .normal a' w' → (i ≠ ℓ → S w') ∧ wpAnyL P ops.toArray (lft n Q) S ℓ fuel (listed.setIfInBounds i true) a' w' := by
    rintro a' w' ⟨f', hr2, hs, hd⟩
    exact ⟨hs, hd hf a' hr2⟩
  have monoQ : ∀ e a' w', e ≠ .normal → lft n (thn (fun f' w' => (i ≠ ℓ → S w') ∧ D P n ops S ℓ Q fuel (listed.setIfInBounds i true) f' w') Q) e a' w' → lft n Q e a' w' := by
    rintro e a' w' hne ⟨f', hr2, hq⟩
    refine ⟨f', hr2, ?_⟩
    cases e
    case normal => exact absurd rfl hne
    all_goals exact hq
  unfold wpList at h1
  by_cases hw : Region.wanted o (yielded ops.toArray a.tmps) = true
  · rw [if_pos hw] at h1 ⊢
    rcases h1 with h1 | ⟨h1, a2, w2, h2⟩
    · exact .inl (wp_mono2 mono monoQ h1)
    · exact .inr ⟨h1, a2, w2, monoQ _ _ _ (by simp) h2⟩
  · rw [if_neg hw] at h1 ⊢
    exact mono _ _ h1
theorem D.one {S : World → Prop} {ℓ : Nat} {fuel : Nat} {listed : Array Bool} (i : Nat) {o : Oper} (hr : Region.ready .any ops.toArray listed = [i]) (ho : ops[i]? = some o)
    (h : L P n ops (thn (fun f' w' => (i ≠ ℓ → S w') ∧ D P n ops S ℓ Q fuel (listed.setIfInBounds i true) f' w') Q) [o] f w) : D P n ops S ℓ Q (fuel + 1) listed f w :=
  D.all hr (by simp) (fun j hj => by
    obtain rfl : j = i := by simpa using hj
    exact ⟨o, ho, h⟩)
theorem D.two {S : World → Prop} {ℓ : Nat} {fuel : Nat} {listed : Array Bool} (i j : Nat) {o o' : Oper} (hr : Region.ready .any ops.toArray listed = [i, j]) (ho : ops[i]? = some o) (ho' : ops[j]? = some o')
    (h : L P n ops (thn (fun f' w' => (i ≠ ℓ → S w') ∧ D P n ops S ℓ Q fuel (listed.setIfInBounds i true) f' w') Q) [o] f w)
    (h' : L P n ops (thn (fun f' w' => (j ≠ ℓ → S w') ∧ D P n ops S ℓ Q fuel (listed.setIfInBounds j true) f' w') Q) [o'] f w) : D P n ops S ℓ Q (fuel + 1) listed f w :=
  D.all hr (by simp) (fun k hk => by
    have : k = i ∨ k = j := by simpa using hk
    rcases this with rfl | rfl
    · exact ⟨o, ho, h⟩
    · exact ⟨o', ho', h'⟩)
def args (l : List Value) : Nat → List (Nat × Value) := fun i => (List.range' i l.length).zip l
def resF (rs : Array ResultVar) (f : Fr) : Sem Value := do
  let vs ← rs.mapM fun
    | .tmp t => pure (f t)
    | .cell a t => do loadVar t (← asAddr (f a))
  pure (if h : vs.size = 1 then vs[0] else .tuple vs)
theorem results_eq {fn : Func} {a : Act} (hr : Rep n f a) : results fn a.tmps = resF fn.results f := by
  unfold results resF
  have : (fun t => a.tmps.getD t undef) = f := funext hr.get
  congr 1
  congr 1
  funext r
  cases r with
  | tmp t => simp only [hr.get]
  | cell c t => simp only [hr.get]
def fin (P : Program) (rs : Array ResultVar) (R : Ending → World → Prop) : Exit → Fr → World → Prop
  | .normal, f, w => ∃ v, (resF rs f).run P w = .ok v w ∧ R (.returned v) w
  | .ret, f, w => ∃ v, (resF rs f).run P w = .ok v w ∧ R (.returned v) w
  | _, _, _ => False
theorem enter {id : FuncId} {fn : Func} {c : Code} {l : List Value} {R : Ending → World → Prop} (hf : P.funcs[id]? = some fn) (hb : fn.body = some c) (hk : (fitC fn.ntmps c && Nat.ble l.length fn.ntmps) = true)
    (h : J P fn.ntmps c (fin P fn.results R) (lk (args l 0) fun _ => undef) w) : Calls P id l.toArray w R := by
  simp only [Bool.and_eq_true] at hk
  have hle : l.length ≤ fn.ntmps := by simpa using hk.2
  refine calls_of_wp hf hb (wp_mono (h hk.1 _ ⟨by simp; omega, rfl, ?_⟩) ?_)
  · intro j
    have key : ∀ (l : List Value) (i j : Nat), lk ((List.range' i l.length).zip l) (fun _ => undef) j = if i ≤ j then l.getD (j - i) undef else undef := by
      intro l
      induction l with
      | nil => intro i j; simp [lk]
      | cons a l ih =>
        intro i j
        simp only [List.length_cons, List.range'_succ, List.zip_cons_cons, lk]
        rw [ih (i + 1) j]
        cases hb : Nat.beq j i with
        | true =>
          have := Nat.eq_of_beq_eq_true hb
          subst this
          simp
        | false =>
          have hne : j ≠ i := fun e => by subst e; rw [Nat.beq_refl] at hb; cases hb
          by_cases hij : i + 1 ≤ j
          · rw [if_pos hij, if_pos (by omega), show j - i = (j - (i + 1)) + 1 by omega]
            simp
          · rw [if_neg hij, if_neg (by omega)]
            rfl
    show (l.toArray ++ Array.replicate (fn.ntmps - l.toArray.size) undef).getD j undef = _
    unfold args
    rw [key l 0 j, if_pos (Nat.zero_le _), Nat.sub_zero, Array.getD_eq_getD_getElem?, Array.getElem?_append]
    by_cases hj : j < l.length
    · simp [hj, List.getD]
    · simp only [List.size_toArray, hj, if_false, List.getD, List.getElem?_eq_none (Nat.le_of_not_lt hj)]
      rw [Array.getElem?_replicate]
      split <;> rfl
  · rintro e a' w' ⟨f', hr, hq⟩
    cases e <;> simp only [fin] at hq <;> first
      | (obtain ⟨v, hv, hR⟩ := hq
         exact ⟨hr.defers, v, by rw [results_eq hr]; exact hv, hR⟩)
      | exact hq.elim
theorem thn_ret {K : Fr → World → Prop} (h : Q .ret f w) : thn K Q .ret f w := h
theorem inB_ret {id : Nat} (h : Q .ret f w) : inB id Q .ret f w := h
theorem fin1 {R : Ending → World → Prop} {k : Tmp} (h : R (.returned (f k)) w) : fin P #[.tmp k] R .ret f w := ⟨f k, by simp [resF], h⟩
theorem fin2 {R : Ending → World → Prop} {k1 k2 : Tmp} (h : R (.returned (.tuple #[f k1, f k2])) w) : fin P #[.tmp k1, .tmp k2] R .ret f w := ⟨_, by simp [resF], h⟩
theorem fin0 {R : Ending → World → Prop} {e : Exit} (he : e = .ret ∨ e = .normal) (h : R (.returned (.tuple #[])) w) : fin P #[] R e f w := by
  rcases he with rfl | rfl <;> exact ⟨_, by simp [resF], h⟩
end
end Go.Proofs.YtpomklkfedpkfaaGreat.H
namespace Go.Proofs.YtpomklkfedpkfaaGreat.H
open Go.RowKit Go.Proofs.YtpomklkfedpkfaaGreat
set_option linter.unusedSimpArgs false
set_option linter.unusedVariables false
section
variable {P : Program} {n : Nat} {ops rest l : List Oper} {Q : Exit → Fr → World → Prop} {f : Fr} {w w' : World} {d : Option Tmp} {ty : TypeId} {pos : String} {aft : Array Edge} {g : Option (Nat × Bool)} {x y z o : Operand} {v u p : Value} {t e tx tz : TypeId} {c1 c2 : Code}
theorem J.iteT (hc : ev f o = .bool true) (h : J P n c1 Q f w) : J P n (.cond o c1 c2) Q f w := J.ite hc (fun _ => h) (fun h' => by cases h')
theorem J.iteF (hc : ev f o = .bool false) (h : J P n c2 Q f w) : J P n (.cond o c1 c2) Q f w := J.ite hc (fun h' => by cases h') (fun _ => h)
theorem J.decT {p : Prop} [Decidable p] (hc : ev f o = .bool (decide p)) (hp : p) (h : J P n c1 Q f w) : J P n (.cond o c1 c2) Q f w := J.dec hc (fun _ => h) (fun h' => absurd hp h')
theorem J.decF {p : Prop} [Decidable p] (hc : ev f o = .bool (decide p)) (hp : ¬ p) (h : J P n c2 Q f w) : J P n (.cond o c1 c2) Q f w := J.dec hc (fun h' => absurd h' hp) (fun _ => h)
theorem J.ndecT {p : Prop} [Decidable p] (hc : ev f o = .bool (!decide p)) (hp : ¬ p) (h : J P n c1 Q f w) : J P n (.cond o c1 c2) Q f w := J.ndec hc (fun _ => h) (fun h' => absurd h' hp)
theorem J.ndecF {p : Prop} [Decidable p] (hc : ev f o = .bool (!decide p)) (hp : p) (h : J P n c2 Q f w) : J P n (.cond o c1 c2) Q f w := J.ndec hc (fun h' => absurd hp h') (fun _ => h)
theorem lk_self (k : Nat) (v : Value) (h : f k = v) : lk [(k, v)] f = f := by
  funext j
  show (bif Nat.beq j k then v else f j) = f j
  cases hb : Nat.beq j k with
  | false => rfl
  | true =>
    have := Nat.eq_of_beq_eq_true hb
    subst this
    exact h.symm
theorem caseB_ {C : Fr → Prop} {k : Nat} {b : Bool} (hk : f k = .bool b) (h1 : b = true → C (lk [(k, .bool true)] f)) (h2 : b = false → C (lk [(k, .bool false)] f)) : C f := by
  cases b
  · have := h2 rfl; rwa [lk_self k _ hk] at this
  · have := h1 rfl; rwa [lk_self k _ hk] at this
theorem caseDec_ {C : Fr → Prop} {k : Nat} {p : Prop} [Decidable p] (hk : f k = .bool (decide p)) (h1 : p → C (lk [(k, .bool true)] f)) (h2 : ¬ p → C (lk [(k, .bool false)] f)) : C f :=
  caseB_ hk (fun h => h1 (of_decide_eq_true h)) (fun h => h2 (of_decide_eq_false h))
theorem caseNdec_ {C : Fr → Prop} {k : Nat} {p : Prop} [Decidable p] (hk : f k = .bool (!decide p)) (h1 : ¬ p → C (lk [(k, .bool true)] f)) (h2 : p → C (lk [(k, .bool false)] f)) : C f :=
  caseB_ hk (fun h => h1 (by simpa using h)) (fun h => h2 (by simpa using h))
theorem L.caseB {k : Nat} {b : Bool} (hk : f k = .bool b) (h1 : b = true → L P n ops Q rest (lk [(k, .bool true)] f) w) (h2 : b = false → L P n ops Q rest (lk [(k, .bool false)] f) w) : L P n ops Q rest f w := caseB_ (C := fun f => L P n ops Q rest f w) hk h1 h2
theorem L.caseDec {k : Nat} {p : Prop} [Decidable p] (hk : f k = .bool (decide p)) (h1 : p → L P n ops Q rest (lk [(k, .bool true)] f) w) (h2 : ¬ p → L P n ops Q rest (lk [(k, .bool false)] f) w) : L P n ops Q rest f w := caseDec_ (C := fun f => L P n ops Q rest f w) hk h1 h2
theorem L.caseNdec {k : Nat} {p : Prop} [Decidable p] (hk : f k = .bool (!decide p)) (h1 : ¬ p → L P n ops Q rest (lk [(k, .bool true)] f) w) (h2 : p → L P n ops Q rest (lk [(k, .bool false)] f) w) : L P n ops Q rest f w := caseNdec_ (C := fun f => L P n ops Q rest f w) hk h1 h2
theorem L.caseDecT {k : Nat} {p : Prop} [Decidable p] (hk : f k = .bool (decide p)) (hp : p) (h1 : L P n ops Q rest (lk [(k, .bool true)] f) w) : L P n ops Q rest f w := L.caseDec hk (fun _ => h1) (fun h => absurd hp h)
theorem L.caseDecF {k : Nat} {p : Prop} [Decidable p] (hk : f k = .bool (decide p)) (hp : ¬ p) (h1 : L P n ops Q rest (lk [(k, .bool false)] f) w) : L P n ops Q rest f w := L.caseDec hk (fun h => absurd h hp) (fun _ => h1)
theorem L.caseNdecT {k : Nat} {p : Prop} [Decidable p] (hk : f k = .bool (!decide p)) (hp : ¬ p) (h1 : L P n ops Q rest (lk [(k, .bool true)] f) w) : L P n ops Q rest f w := L.caseNdec hk (fun _ => h1) (fun h => absurd h hp)
theorem L.caseNdecF {k : Nat} {p : Prop} [Decidable p] (hk : f k = .bool (!decide p)) (hp : p) (h1 : L P n ops Q rest (lk [(k, .bool false)] f) w) : L P n ops Q rest f w := L.caseNdec hk (fun h => absurd hp h) (fun _ => h1)
theorem L.caseBT {k : Nat} {b : Bool} (hk : f k = .bool b) (hp : b = true) (h1 : L P n ops Q rest (lk [(k, .bool true)] f) w) : L P n ops Q rest f w := L.caseB hk (fun _ => h1) (fun h => by rw [hp] at h; cases h)
theorem L.caseBF {k : Nat} {b : Bool} (hk : f k = .bool b) (hp : b = false) (h1 : L P n ops Q rest (lk [(k, .bool false)] f) w) : L P n ops Q rest f w := L.caseB hk (fun h => by rw [hp] at h; cases h) (fun _ => h1)
section
variable {S : World → Prop} {ℓ : Nat} {fuel : Nat} {listed : Array Bool}
theorem D.caseB {k : Nat} {b : Bool} (hk : f k = .bool b) (h1 : b = true → D P n ops S ℓ Q fuel listed (lk [(k, .bool true)] f) w) (h2 : b = false → D P n ops S ℓ Q fuel listed (lk [(k, .bool false)] f) w) : D P n ops S ℓ Q fuel listed f w := caseB_ (C := fun f => D P n ops S ℓ Q fuel listed f w) hk h1 h2
theorem D.caseDec {k : Nat} {p : Prop} [Decidable p] (hk : f k = .bool (decide p)) (h1 : p → D P n ops S ℓ Q fuel listed (lk [(k, .bool true)] f) w) (h2 : ¬ p → D P n ops S ℓ Q fuel listed (lk [(k, .bool false)] f) w) : D P n ops S ℓ Q fuel listed f w := caseDec_ (C := fun f => D P n ops S ℓ Q fuel listed f w) hk h1 h2
theorem D.caseNdec {k : Nat} {p : Prop} [Decidable p] (hk : f k = .bool (!decide p)) (h1 : ¬ p → D P n ops S ℓ Q fuel listed (lk [(k, .bool true)] f) w) (h2 : p → D P n ops S ℓ Q fuel listed (lk [(k, .bool false)] f) w) : D P n ops S ℓ Q fuel listed f w := caseNdec_ (C := fun f => D P n ops S ℓ Q fuel listed f w) hk h1 h2
theorem D.caseDecT {k : Nat} {p : Prop} [Decidable p] (hk : f k = .bool (decide p)) (hp : p) (h1 : D P n ops S ℓ Q fuel listed (lk [(k, .bool true)] f) w) : D P n ops S ℓ Q fuel listed f w := D.caseDec hk (fun _ => h1) (fun h => absurd hp h)
theorem D.caseDecF {k : Nat} {p : Prop} [Decidable p] (hk : f k = .bool (decide p)) (hp : ¬ p) (h1 : D P n ops S ℓ Q fuel listed (lk [(k, .bool false)] f) w) : D P n ops S ℓ Q fuel listed f w := D.caseDec hk (fun h => absurd h hp) (fun _ => h1)
theorem D.caseNdecT {k : Nat} {p : Prop} [Decidable p] (hk : f k = .bool (!decide p)) (hp : ¬ p) (h1 : D P n ops S ℓ Q fuel listed (lk [(k, .bool true)] f) w) : D P n ops S ℓ Q fuel listed f w := D.caseNdec hk (fun _ => h1) (fun h => absurd h hp)
theorem D.caseNdecF {k : Nat} {p : Prop} [Decidable p] (hk : f k = .bool (!decide p)) (hp : p) (h1 : D P n ops S ℓ Q fuel listed (lk [(k, .bool false)] f) w) : D P n ops S ℓ Q fuel listed f w := D.caseNdec hk (fun h => absurd hp h) (fun _ => h1)
theorem D.caseBT {k : Nat} {b : Bool} (hk : f k = .bool b) (hp : b = true) (h1 : D P n ops S ℓ Q fuel listed (lk [(k, .bool true)] f) w) : D P n ops S ℓ Q fuel listed f w := D.caseB hk (fun _ => h1) (fun h => by rw [hp] at h; cases h)
theorem D.caseBF {k : Nat} {b : Bool} (hk : f k = .bool b) (hp : b = false) (h1 : D P n ops S ℓ Q fuel listed (lk [(k, .bool false)] f) w) : D P n ops S ℓ Q fuel listed f w := D.caseB hk (fun h => by rw [hp] at h; cases h) (fun _ => h1)
end
theorem at_int {k : Nat} {kd : IntKind} {m m' : Int} (h : f k = .int kd m) (e : m = m') : f k = .int kd m' := by rw [h, e]
theorem at_slice {k : Nat} {A : Option Addr} {m m' c : Nat} (h : f k = .slice A m c) (e : m = m') : f k = .slice A m' c := by rw [h, e]
theorem At1 {k1 : Nat} {v1 : Value} (h1 : f k1 = v1) : At f [(k1, v1)] := ⟨h1, trivial⟩
theorem At2 {k1 k2 : Nat} {v1 v2 : Value} (h1 : f k1 = v1) (h2 : f k2 = v2) : At f [(k1, v1), (k2, v2)] := ⟨h1, h2, trivial⟩
theorem At3 {k1 k2 k3 : Nat} {v1 v2 v3 : Value} (h1 : f k1 = v1) (h2 : f k2 = v2) (h3 : f k3 = v3) : At f [(k1, v1), (k2, v2), (k3, v3)] := ⟨h1, h2, h3, trivial⟩
theorem At5 {k1 k2 k3 k4 k5 : Nat} {v1 v2 v3 v4 v5 : Value} (h1 : f k1 = v1) (h2 : f k2 = v2) (h3 : f k3 = v3) (h4 : f k4 = v4) (h5 : f k5 = v5) : At f [(k1, v1), (k2, v2), (k3, v3), (k4, v4), (k5, v5)] := ⟨h1, h2, h3, h4, h5, trivial⟩
theorem At0 : At f [] := trivial
theorem own_ne {base size n' c : Nat} {A : Option Addr} {xs : List Value} (h : w.ownsRow base e size (.slice A n' c) n' xs) (hn : 0 < n') : A ≠ none := by
  obtain ⟨b, cap, hA, _, _⟩ := h.form hn
  injection hA with hA
  rw [hA]; simp
theorem X.fieldP {ρ : Operand → Value} {A : Option Addr} {i j sz : Nat} {fs : Array Field} {fd : Field} (hx : ρ x = pA A j) (ht : P.underlying t = some (.struct fs)) (hi : fs[i]? = some fd) (hz : Siz P fd.type sz) (hpos : 0 < sz) (hA : A ≠ none) :
    (execOp ρ ⟨d, .fieldAddr t x i, ty, pos, aft, g⟩).run P w = .ok (.value (pA A (j + fd.offset))) w := by
  cases A with
  | none => exact absurd rfl hA
  | some a =>
    simp only [pA, Option.map_some] at hx
    simp only [execOp, hx, Instr.fieldAt, Sem.run_bind, run_underlying ht, Result.andThen_ok, hi, Instr.sureAddr, Sem.run_pure, fieldPlace, hz.run]
    rw [if_neg (by omega)]
    simp only [Sem.run_pure, Result.andThen_ok, pA, Option.map_some, add_of_add]
def Plc (P : Program) (fs : Array Field) (ps : List (Nat × Nat)) : Prop := ∀ w : World, (fs.mapM fun f => (do pure (f.offset, ← sizeOf f.type) : Sem (Nat × Nat))).run P w = .ok ps.toArray w
theorem bld_run {fs : Array Field} {ps : List (Nat × Nat)} {zs l : List Value} {qs : List (Nat × Value)} (ht : P.underlying t = some (.struct fs)) (hp : Plc P fs ps) (hz : Zer P t zs) (h : Instr.fill (fun i => ps.toArray[i]?) zs.toArray qs = some l.toArray) :
    (Instr.build t qs.toArray).run P w = .ok (.agg l.toArray) w := by
  obtain ⟨z, hc, hr⟩ := hz.run w
  have hp' := hp w
  simp only [Instr.build, Sem.run_bind, hr, Result.andThen_ok, run_underlying ht, hc]
  rw [hp']
  simp only [Result.andThen_ok, h]
  rfl
theorem set_all : ∀ (l : List Value) (k : Nat) (init : Array Value), k + l.length ≤ init.size → (l.zipIdx k).foldl (fun cs x => cs.setIfInBounds x.2 x.1) init = (init.toList.take k ++ l ++ init.toList.drop (k + l.length)).toArray
  | [], k, init, _ => by simp
  | a :: l, k, init, h => by
    simp only [List.length_cons] at h
    have hlt : k < init.toList.length := by simp; omega
    simp only [List.zipIdx_cons, List.foldl_cons]
    rw [set_all l (k + 1) _ (by simp; omega)]
    apply Array.ext'
    simp only [Array.toList_setIfInBounds]
    rw [List.set_eq_take_append_cons_drop, if_pos hlt]
    simp only [List.take_append, List.length_take, List.drop_append]
    rw [Nat.min_eq_left (by omega)]
    simp only [List.length_cons, List.append_assoc]
    rw [List.take_of_length_le (show (init.toList.take k).length ≤ k + 1 by simp; omega), List.drop_of_length_le (show (init.toList.take k).length ≤ k + 1 + l.length by simp; omega), show k + 1 + l.length - k = l.length + 1 by omega, List.drop_succ_cons, List.drop_drop]
    rw [show k + 1 + l.length = k + (l.length + 1) by omega]
    simp
theorem L.bslice1 {zs l : List Value} {sz : Nat} (hg : wn ops f g = true) (hx : ev f x = .agg l.toArray) (hsl : sz = l.length) (ht : P.underlying t = some (.slice e)) (hs : Siz P e sz) (hz : Zer P e zs) (hsz : Nat.ble sz 1000 = true)
    (h : ∀ b w', b = w.heap.size → w'.heap.size = w.heap.size + 1 → Blk w' b e l.toArray → Ext w w' → L P n ops Q rest (putO f d (.slice (some ⟨b, 0, none⟩) 1 1)) w') : L P n ops Q (⟨d, .buildSlice t 1 #[(0, x)], ty, pos, aft, g⟩ :: rest) f w := by
  refine L.val hg ?_ (h w.heap.size (w.alloc (.cells l.toArray e)) rfl (by simp) (Blk.new _ _ _) (Ext.alloc _ _))
  obtain ⟨z, hzc, hzr⟩ := hz.run w
  have hle : sz ≤ 1000 := Nat.le_of_ble_eq_true hsz
  subst hsl
  have key : ∀ z : Array Value, Instr.fill (fun i => some (i * l.length, l.length)) ((Array.range (1 * l.length)).map (z[· % z.size]!)) [(0, Value.agg l.toArray)] = some l.toArray := by
    intro z
    simp only [Instr.fill]
    rw [if_neg (by simp [Value.cells])]
    have h1 := set_all l 0 ((Array.range (1 * l.length)).map (z[· % z.size]!)) (by simp)
    congr 1
    have h2 : (Value.agg l.toArray).cells.zipIdx.toList = l.zipIdx 0 := by simp [Value.cells]
    rw [← Array.foldl_toList, h2]
    simp only [Nat.zero_mul, Nat.zero_add]
    refine Eq.trans ?_ (h1.trans ?_)
    · rfl
    · simp
  simp only [execOp, Instr.buildSlice, Sem.run_bind, run_underlying ht, Result.andThen_ok, hs.run, List.map_toArray, List.map_cons, List.map_nil, hx]
  rw [if_neg (by omega)]
  by_cases h0 : 1 * l.length = 0
  · simp only [if_pos h0, Sem.run_pure, Result.andThen_ok, key, newRow, newObj]
    rfl
  · simp only [if_neg h0, Sem.run_bind, hzr, Sem.run_pure, Result.andThen_ok, key, newRow, newObj]
    rfl
end
end Go.Proofs.YtpomklkfedpkfaaGreat.H
namespace Go.Proofs.YtpomklkfedpkfaaGreat.H
open Go.RowKit Go.Proofs.YtpomklkfedpkfaaGreat
set_option linter.unusedSimpArgs false
set_option linter.unusedVariables false
section
variable {P : Program} {n : Nat} {ops rest l : List Oper} {f : Fr} {w w' : World} {d : Option Tmp} {ty : TypeId} {pos : String} {aft : Array Edge} {g : Option (Nat × Bool)} {x y z o : Operand} {v u p : Value} {t e tx tz : TypeId}
def Qt (P : Program) (n : Nat) (ops : List Oper) (C : World → Prop) (Q : Fr → Prop) (l : List Oper) (f : Fr) : Prop :=
  l.all (fitO n) = true → ∀ a, Rep n f a → wpQuiet P ops.toArray C (fun a' => ∃ f', Rep n f' a' ∧ Q f') l a
variable {C : World → Prop} {Q : Fr → Prop}
theorem J.quiet {id : Nat} {Q : Exit → Fr → World → Prop} (hm : P.follows .mixedOrders = true) (hB : Region.lexB .any l.toArray = true) (h : Qt P n l (Ext w) (fun f' => ∀ w', Ext w w' → Q .normal f' w') l f) : J P n (.region id l.toArray true) Q f w := by
  intro hf a hr
  simp only [fitC] at hf
  refine wp_region_quiet (C := Ext w) hm hB (Ext.drew w) ?_
  have := h hf a hr
  refine wpQuiet_mono ?_ this
  rintro a' ⟨f', hr', hq⟩ w' hw'
  exact ⟨f', hr', hq w' hw'⟩
theorem Qt.nil (h : Q f) : Qt P n ops C Q [] f := fun _ _ hr => ⟨f, hr, h⟩
theorem Qt.va {k : Nat} {op : Op} (hg : wn ops f g = true) (hx : ∀ w', C w' → (execOp (ev f) ⟨some k, op, ty, pos, aft, g⟩).run P w' = .ok (.value v) w') (h : Qt P n ops C Q rest (lk [(k, v)] f)) : Qt P n ops C Q (⟨some k, op, ty, pos, aft, g⟩ :: rest) f := by
  intro hf a hr
  simp only [List.all_cons, Bool.and_eq_true] at hf
  unfold wpQuiet
  rw [wanted_eq hr, if_pos hg]
  refine ⟨v, fun w' hw' => ?_, h hf.2 _ (hr.put (d := some k) v hf.1)⟩
  unfold Oper.quietAt
  rw [hr.eval, hx w' hw']
  exact ⟨rfl, rfl⟩
theorem Qt.no {k : Nat} {op : Op} (hg : wn ops f g = false) (h : Qt P n ops C Q rest (lk [(k, undef)] f)) : Qt P n ops C Q (⟨some k, op, ty, pos, aft, g⟩ :: rest) f := by
  intro hf a hr
  simp only [List.all_cons, Bool.and_eq_true] at hf
  unfold wpQuiet
  rw [wanted_eq hr, if_neg (by rw [hg]; simp)]
  exact h hf.2 _ (hr.put (d := some k) undef hf.1)
theorem Qt.call {k : Nat} {c : FuncId} {l : List Operand} {vs : List Value} {ts : Array TypeId} (hg : wn ops f g = true) (he : Ent P c) (hv : l.map (ev f) = vs) (hc : ∀ w', C w' → Calls P c vs.toArray w' fun e w'' => e = .returned v ∧ C w'') (h : Qt P n ops C Q rest (lk [(k, v)] f)) :
    Qt P n ops C Q (⟨some k, .call { callee := .value (.func c), args := l.toArray, argTypes := ts }, ty, pos, aft, g⟩ :: rest) f := by
  intro hf a hr
  simp only [List.all_cons, Bool.and_eq_true] at hf
  unfold wpQuiet
  rw [wanted_eq hr, if_pos hg]
  refine ⟨v, fun w' hw' => ?_, h hf.2 _ (hr.put (d := some k) v hf.1)⟩
  unfold Oper.quietAt
  rw [hr.eval, X.enter he rfl hv]
  exact ⟨rfl, hc w' hw'⟩
theorem Qt.caseB {k : Nat} {b : Bool} (hk : f k = .bool b) (h1 : b = true → Qt P n ops C Q rest (lk [(k, .bool true)] f)) (h2 : b = false → Qt P n ops C Q rest (lk [(k, .bool false)] f)) : Qt P n ops C Q rest f := caseB_ (C := fun f => Qt P n ops C Q rest f) hk h1 h2
theorem Qt.caseDec {k : Nat} {p : Prop} [Decidable p] (hk : f k = .bool (decide p)) (h1 : p → Qt P n ops C Q rest (lk [(k, .bool true)] f)) (h2 : ¬ p → Qt P n ops C Q rest (lk [(k, .bool false)] f)) : Qt P n ops C Q rest f := caseDec_ (C := fun f => Qt P n ops C Q rest f) hk h1 h2
theorem Qt.caseNdec {k : Nat} {p : Prop} [Decidable p] (hk : f k = .bool (!decide p)) (h1 : ¬ p → Qt P n ops C Q rest (lk [(k, .bool true)] f)) (h2 : p → Qt P n ops C Q rest (lk [(k, .bool false)] f)) : Qt P n ops C Q rest f := caseNdec_ (C := fun f => Qt P n ops C Q rest f) hk h1 h2
theorem Qt.caseDecT {k : Nat} {p : Prop} [Decidable p] (hk : f k = .bool (decide p)) (hp : p) (h1 : Qt P n ops C Q rest (lk [(k, .bool true)] f)) : Qt P n ops C Q rest f := Qt.caseDec hk (fun _ => h1) (fun h => absurd hp h)
theorem Qt.caseDecF {k : Nat} {p : Prop} [Decidable p] (hk : f k = .bool (decide p)) (hp : ¬ p) (h1 : Qt P n ops C Q rest (lk [(k, .bool false)] f)) : Qt P n ops C Q rest f := Qt.caseDec hk (fun h => absurd h hp) (fun _ => h1)
theorem Qt.caseNdecT {k : Nat} {p : Prop} [Decidable p] (hk : f k = .bool (!decide p)) (hp : ¬ p) (h1 : Qt P n ops C Q rest (lk [(k, .bool true)] f)) : Qt P n ops C Q rest f := Qt.caseNdec hk (fun _ => h1) (fun h => absurd h hp)
theorem Qt.caseNdecF {k : Nat} {p : Prop} [Decidable p] (hk : f k = .bool (!decide p)) (hp : p) (h1 : Qt P n ops C Q rest (lk [(k, .bool false)] f)) : Qt P n ops C Q rest f := Qt.caseNdec hk (fun h => absurd hp h) (fun _ => h1)
theorem Qt.caseBT {k : Nat} {b : Bool} (hk : f k = .bool b) (hp : b = true) (h1 : Qt P n ops C Q rest (lk [(k, .bool true)] f)) : Qt P n ops C Q rest f := Qt.caseB hk (fun _ => h1) (fun h => by rw [hp] at h; cases h)
theorem Qt.caseBF {k : Nat} {b : Bool} (hk : f k = .bool b) (hp : b = false) (h1 : Qt P n ops C Q rest (lk [(k, .bool false)] f)) : Qt P n ops C Q rest f := Qt.caseB hk (fun h => by rw [hp] at h; cases h) (fun _ => h1)
theorem calls_ext {c : FuncId} {vs : Array Value} {w0 : World} (hw : Ext w0 w) (h : Calls P c vs w fun e w' => e = .returned v ∧ Ext w w') : Calls P c vs w fun e w' => e = .returned v ∧ Ext w0 w' :=
  h.mono fun _ _ ⟨he, hx⟩ => ⟨he, hw.trans hx⟩
theorem calls_same {c : FuncId} {vs : Array Value} {w0 : World} (hw : Ext w0 w) (h : Calls P c vs w fun e w' => e = .returned v ∧ w = w') : Calls P c vs w fun e w' => e = .returned v ∧ Ext w0 w' :=
  h.mono fun _ _ ⟨he, hx⟩ => ⟨he, hx ▸ hw⟩
def Acts (P : Program) (ops : Array Oper) (S : World → Prop) (o : Oper) (v : Value) (a : Act) : Prop :=
  (Region.wanted o (yielded ops a.tmps) = true ∧ ∀ w, S w → o.quietAt P a (fun w'' => w'' = w) w v) ∨ (Region.wanted o (yielded ops a.tmps) = false ∧ v = undef)
section
variable {ops : Array Oper} {S : World → Prop} {md : Region.Mode} {Q : Exit → Act → World → Prop}
theorem Acts.wpOp {i : Nat} {o : Oper} {v : Value} {a : Act} (hi : ops[i]? = some o) (hy : Acts P ops S o v a) {K : Act → World → Prop} {w : World} (hS : S w) (h : K (a.put o.dst v) w) : wpOp P ops Q i K a w := by
  unfold Go.wpOp
  simp only [hi]
  rcases hy with ⟨hw, hv⟩ | ⟨hw, rfl⟩
  · simp only [hw, if_true]
    refine .inl ?_
    have h3 := hv w hS
    unfold Oper.quietAt at h3
    unfold Oper.wp
    generalize (execOp a.eval o).run P w = r at *
    cases r with
    | ok n w' =>
      cases n <;> simp only [Oper.quietUpon] at h3 <;> simp only [Oper.upon]
      case value u => obtain ⟨rfl, rfl⟩ := h3; exact h
      case skip => obtain ⟨rfl, rfl⟩ := h3; exact h
      case enter f args =>
        obtain ⟨rfl, hc⟩ := h3
        exact hc.mono fun e w'' ⟨he, hw''⟩ => by subst he; subst hw''; exact h
    | halt x w' => simp only [Oper.quietUpon] at h3
  · simp only [hw, Bool.false_eq_true, if_false]; exact h
theorem Acts.of_same {o : Oper} {v : Value} {a a' : Act} (hy : Acts P ops S o v a) (he : execOp a'.eval o = execOp a.eval o) (hw : Region.wanted o (yielded ops a'.tmps) = Region.wanted o (yielded ops a.tmps)) : Acts P ops S o v a' := by
  unfold Acts Oper.quietAt at *
  rw [he, hw]
  exact hy
theorem acts_past {j : Nat} {oi oj : Oper} {v : Value} (hj : ops[j]? = some oj) (hap : oi.apart ops oj = true) (hsi : ∀ cs b, oi.op ≠ .select cs b) (hsj : ∀ cs b, oj.op ≠ .select cs b)
    (hQ : ∀ c a w, Q (.panic c) (a.put oi.dst v) w → Q (.panic c) a w) {K : Act → World → Prop} {a : Act} {w : World}
    (hy : Acts P ops S oi v a) (h : wpOp P ops Q j K (a.put oi.dst v) w) : wpOp P ops Q j (fun a' w' => Acts P ops S oi v a' ∧ K (a'.put oi.dst v) w') a w := by
  obtain ⟨h1, h2, h3⟩ := Oper.apart_spec hap
  have keep : ∀ (a : Act), Acts P ops S oi v a → ∀ u, Acts P ops S oi v (a.put oj.dst u) := fun a hy u => hy.of_same (execOp_put oi hsi a oj.dst u h3) (wanted_put oi a oj.dst u h3)
  have keepD : ∀ d, Acts P ops S oi v { a with defers := d :: a.defers } := fun d => hy.of_same rfl rfl
  unfold wpOp at *
  simp only [hj] at *
  rw [wanted_put oj a oi.dst v h1] at h
  split
  · rename_i hw
    simp only [hw, if_true] at h
    rcases h with h | ⟨hasks, hlets⟩
    case inr => exact .inr ⟨by unfold Oper.asks at *; rw [execOp_put oj hsj a oi.dst v h1] at hasks; exact hasks, hlets⟩
    refine .inl ?_
    unfold Oper.wp at *
    rw [execOp_put oj hsj a oi.dst v h1] at h
    generalize (execOp a.eval oj).run P w = r at *
    cases r with
    | ok n w' =>
      cases n <;> simp only [Oper.upon] at h ⊢
      case value u => exact ⟨keep a hy u, by rw [← Act.put_comm a v u h2]; exact h⟩
      case skip => exact ⟨keep a hy _, by rw [← Act.put_comm a v undef h2]; exact h⟩
      case defer d =>
        refine ⟨keep _ (keepD d) _, ?_⟩
        rw [← Act.put_comm _ v undef h2, ← Act.put_defers]
        exact h
      case enter f args =>
        refine Calls.mono h fun e w'' he => ?_
        cases e with
        | returned u => exact ⟨keep a hy u, by rw [← Act.put_comm a v u h2]; exact he⟩
        | panicked c => exact hQ _ _ _ he
        | outgrown => exact he
      case row row args => exact Rows.mono h fun u w'' he => ⟨keep a hy u, by rw [← Act.put_comm a v u h2]; exact he⟩
    | halt x w' =>
      cases x <;> simp only [Oper.upon] at h ⊢
      case panic u => exact hQ _ _ _ h
  · rename_i hw
    simp only [hw] at h
    exact ⟨keep a hy _, by rw [← Act.put_comm a v undef h2]; exact h⟩
theorem acts_first {i ℓ : Nat} {oi : Oper} {v : Value} {fuel : Nat} {listed : Array Bool} {a : Act} {w : World} (hi : ops[i]? = some oi)
    (hs : Region.noSelect ops = true) (hf : Region.free .any ops listed i = true) (hr : (Region.ready .any ops listed).contains i = true) (hl : late ops listed i ℓ = true)
    (hQ : ∀ c a w, Q (.panic c) (a.put oi.dst v) w → Q (.panic c) a w) (hy : Acts P ops S oi v a) (hS : S w)
    (h : wpAnyL P ops Q S ℓ fuel (listed.setIfInBounds i true) (a.put oi.dst v) w) : wpAnyL P ops Q S ℓ (fuel + 1) listed a w := by
  obtain ⟨W, h1, h2, h3⟩ := late_spec hl
  have hsel := Region.noSelect_spec hs
  exact wpAnyL_gen hi (fun hy hS h => hy.wpOp hi hS h) (fun {j oj K a w} hj hap hy h => acts_past hj hap (fun cs b => hsel i oi cs b hi) (fun cs b => hsel j oj cs b hj) hQ hy h) W h1 h2 fuel listed a w (Region.free_spec hi hf) h3 (by simpa using hr) hy hS h
end
theorem D.call {Q : Exit → Fr → World → Prop} {S : World → Prop} {ℓ : Nat} {fuel : Nat} {listed : Array Bool} (i : Nat) {k : Nat} {c : FuncId} {l : List Operand} {vs : List Value} {ts : Array TypeId} (ho : ops[i]? = some ⟨some k, .call { callee := .value (.func c), args := l.toArray, argTypes := ts }, ty, pos, aft, g⟩)
    (hb : (Region.noSelect ops.toArray && Region.free .any ops.toArray listed i && (Region.ready .any ops.toArray listed).contains i && late ops.toArray listed i ℓ) = true) (hQ : ∀ c f w, Q (.panic c) f w → False)
    (hg : wn ops f g = true) (he : Ent P c) (hv : l.map (ev f) = vs) (hc : ∀ w', S w' → Calls P c vs.toArray w' fun e w'' => e = .returned v ∧ w' = w'') (hS : S w) (h : D P n ops S ℓ Q fuel (listed.setIfInBounds i true) (lk [(k, v)] f) w) : D P n ops S ℓ Q (fuel + 1) listed f w := by
  intro hf a hr
  simp only [Bool.and_eq_true] at hb
  refine acts_first (i := i) (v := v) (by simpa using ho) hb.1.1.1 hb.1.1.2 hb.1.2 hb.2 ?_ (.inl ⟨by rw [wanted_eq hr]; exact hg, fun w' hw' => ?_⟩) hS ?_
  · rintro c a w ⟨f', _, hq⟩
    exact absurd hq (hQ c f' w)
  · unfold Oper.quietAt
    rw [hr.eval, X.enter he rfl hv]
    exact ⟨rfl, (hc w' hw').mono fun _ _ ⟨h1, h2⟩ => ⟨h1, h2.symm⟩⟩
  · exact h hf _ (hr.put v (List.all_eq_true.1 hf _ (List.mem_of_getElem? ho)))
theorem run_cell {b : Nat} {tb : TypeId} {l : List Value} {ds : TypeDesc} (hb : Blk w b tb l.toArray) (hu : P.underlying t = some ds) (hd : ds.isRow = true) (hi : (P.info? t).map (·.size) = some l.length) : (loadVar t ⟨b, 0, none⟩).run P w = .ok (.agg l.toArray) w :=
  run_loadVar_mid w b 0 t l ds (by have := range_blk hb; simpa using this) hu hd hi
theorem finC {R : Ending → World → Prop} {a b : Nat} {u : Value} (hp : f a = .pointer (some ⟨b, 0, none⟩)) (hl : (loadVar t ⟨b, 0, none⟩).run P w = .ok u w) (h : R (.returned u) w) : fin P #[.cell a t] R .ret f w :=
  ⟨u, by simp [resF, hp, asAddr, hl], h⟩
theorem finCT {R : Ending → World → Prop} {a b k : Nat} {u : Value} (hp : f a = .pointer (some ⟨b, 0, none⟩)) (hl : (loadVar t ⟨b, 0, none⟩).run P w = .ok u w) (h : R (.returned (.tuple #[u, f k])) w) : fin P #[.cell a t, .tmp k] R .ret f w :=
  ⟨.tuple #[u, f k], by simp [resF, hp, asAddr, hl], h⟩
theorem own_cut {base size k c : Nat} {n' : Nat} {A : Option Addr} {xs : List Value} (h : w.ownsRow base e size (.slice A n' c) n' xs) (hk : k ≤ n') : w.ownsRow base e size (.slice A k c) k (xs.take (k * size)) := by
  refine ⟨by rw [List.length_take, h.1]; exact Nat.min_eq_left (Nat.mul_le_mul_right _ hk), ?_⟩
  rcases h.2 with ⟨h1, rfl⟩ | ⟨b, cap, cur, h1, hb, hh, h2, h3, h4, rfl⟩
  · injection h1 with h1 _ h3
    subst h1 h3
    have : k = 0 := by omega
    subst this
    exact .inl ⟨rfl, rfl⟩
  · injection h1 with h1 _ h5
    subst h1 h5
    refine .inr ⟨b, c, cur, rfl, hb, hh, by omega, h3, h4, ?_⟩
    rw [List.take_take, Nat.min_eq_left (Nat.mul_le_mul_right _ hk)]
theorem own_cutN {base k c : Nat} {n' : Nat} {A : Option Addr} {kd : IntKind} {zs : List Int} (h : w.ownsRow base e 1 (.slice A n' c) n' (nums kd zs)) (hk : k ≤ n') : w.ownsRow base e 1 (.slice A k c) k (nums kd (zs.take k)) := by
  have := own_cut h hk
  simpa [nums] using this
theorem range_l {b : Nat} {l : List Value} (h : Blk w b t l.toArray) : w.rangeAt b 0 l := by have := range_blk h; simpa using this
theorem L.boxA {n : Nat} {Q : Exit → Fr → World → Prop} {l : List Value} (hg : wn ops f g = true) (hx : ev f x = .agg l.toArray) (h : ∀ b w', b = w.heap.size → w'.heap.size = w.heap.size + 1 → Blk w' b t l.toArray → Ext w w' → L P n ops Q rest (putO f d (.pointer (some ⟨b, 0, none⟩))) w') :
    L P n ops Q (⟨d, .box t x, ty, pos, aft, g⟩ :: rest) f w := L.box hg hx h
theorem _root_.Go.Proofs.YtpomklkfedpkfaaGreat.Blk.low {b B : Nat} {cs : Array Value} (h : Blk w b t cs) (hb : Below B w w') (hg : b < B) : Blk w' b t cs := h.below hb hg
end
end Go.Proofs.YtpomklkfedpkfaaGreat.H
namespace Go.Proofs.YtpomklkfedpkfaaGreat.H
open Go.RowKit Go.Proofs.YtpomklkfedpkfaaGreat
set_option linter.unusedSimpArgs false
set_option linter.unusedVariables false
section
variable {P : Program} {n : Nat} {ops rest : List Oper} {Q : Exit → Fr → World → Prop} {f : Fr} {w w' : World} {d : Option Tmp} {ty : TypeId} {pos : String} {aft : Array Edge} {g : Option (Nat × Bool)} {x y z o : Operand} {v u p : Value} {t e tx tz : TypeId}
theorem L.storeO {A : Option Addr} {n' c j base size : Nat} {xs : List Value} (hg : wn ops f g = true) (hx : ev f x = pA A j) (hy : ev f y = v) (h1 : v.oneCell' = true) (hz : Siz P t 1) (hown : w.ownsRow base e size (.slice A n' c) n' xs) (hj : j < n' * size)
    (h : ∀ w', w'.ownsRow base e size (.slice A n' c) n' (xs.set j v) → w.grownBy w' (Value.ownBlock (.slice A n' c)) → Below base w w' → w'.heap.size = w.heap.size → L P n ops Q rest (putO f d undef) w') : L P n ops Q (⟨d, .store t x y, ty, pos, aft, g⟩ :: rest) f w := by
  have hn : 0 < n' := Nat.pos_of_ne_zero (fun h0 => by subst h0; simp at hj)
  obtain ⟨b, cap, hA, hb, hlt⟩ := hown.form hn
  injection hA with hA _ hc
  subst hA hc
  obtain ⟨s1, s2⟩ := hown.stored j v
  have hcell : (w.cell? ⟨b, j, none⟩).isSome = true := by
    rw [hown.cellAt j hj, List.getElem?_eq_getElem (by rw [hown.1]; exact hj)]; rfl
  refine L.skip hg ?_ (h (w.setCell ⟨b, j, none⟩ v) s1 s2 ((Below.refl _ _).setCell hb _) (by simp [World.setCell]))
  have hcs : v.cells = #[v] := by cases v <;> first | rfl | cases h1
  have hth : w.there b j #[v].size := fun i hi => by
    have : i = 0 := by simpa using hi
    subst this
    exact ⟨hcell, hown.frozenAt j⟩
  obtain ⟨inf, hinf, hsz⟩ := hz
  have hrun := run_storeVar_mid (P := P) w b j t #[v] hth (by rw [hinf]; simp [hsz]) (by simp [h1])
  have e1 : (storeVar t ⟨b, j, none⟩ v).run P w = (storeVar t ⟨b, j, none⟩ (.agg #[v])).run P w := by
    unfold storeVar
    rw [hcs, show (Value.agg #[v]).cells = #[v] from rfl]
  have hx' : ev f x = .pointer (some ⟨b, j, none⟩) := by rw [hx]; simp [pA, Addr.add_mid]
  simp only [execOp, Instr.storeAt, hx', hy, Instr.sureAddr, Sem.run_bind, Sem.run_pure, Result.andThen_ok]
  rw [e1, hrun]
  rfl
theorem nums_set' (k : IntKind) (zs : List Int) (i : Nat) (z : Int) : (nums k zs).set i (.int k z) = nums k (zs.set i z) := by
  unfold nums
  rw [List.map_set]
theorem L.storeON {A : Option Addr} {n' c j base : Nat} {k : IntKind} {zs : List Int} {m : Int} (hg : wn ops f g = true) (hx : ev f x = pA A j) (hy : ev f y = .int k m) (hz : Siz P t 1) (hown : w.ownsRow base e 1 (.slice A n' c) n' (nums k zs)) (hj : j < n')
    (h : ∀ w', w'.ownsRow base e 1 (.slice A n' c) n' (nums k (zs.set j m)) → w.grownBy w' (Value.ownBlock (.slice A n' c)) → Below base w w' → w'.heap.size = w.heap.size → L P n ops Q rest (putO f d undef) w') : L P n ops Q (⟨d, .store t x y, ty, pos, aft, g⟩ :: rest) f w := by
  refine L.storeO hg hx hy rfl hz hown (by omega) ?_
  rw [nums_set']
  exact h
end
end Go.Proofs.YtpomklkfedpkfaaGreat.H
namespace Go.Proofs.YtpomklkfedpkfaaGreat.H
open Go.RowKit Go.Proofs.YtpomklkfedpkfaaGreat
set_option linter.unusedSimpArgs false
set_option linter.unusedVariables false
section
variable {P : Program} {n : Nat} {ops rest l : List Oper} {Q : Exit → Fr → World → Prop} {f : Fr} {w w' : World} {d : Option Tmp} {ty : TypeId} {pos : String} {aft : Array Edge} {g : Option (Nat × Bool)} {x y z o : Operand} {v u p : Value} {t e tx tz : TypeId}
theorem zip_off (off : Nat) : ∀ (l : List Value) (a : Nat) (init : Array Value), (l.zipIdx a).foldl (fun cs x => cs.setIfInBounds (off + x.2) x.1) init = (l.zipIdx (off + a)).foldl (fun cs x => cs.setIfInBounds x.2 x.1) init
  | [], _, _ => rfl
  | x :: l, a, init => by
    simp only [List.zipIdx_cons, List.foldl_cons]
    rw [zip_off off l (a + 1)]
    rfl
theorem fill_rows (sz : Nat) : ∀ (ls : List (List Value)) (k : Nat) (init : Array Value), (∀ l ∈ ls, l.length = sz) → init.size = (k + ls.length) * sz →
    Instr.fill (fun i => some (i * sz, sz)) init ((List.range' k ls.length).zip (ls.map fun l => Value.agg l.toArray)) = some (init.toList.take (k * sz) ++ ls.flatten).toArray
  | [], k, init, _, hs => by
    simp only [List.length_nil, Nat.add_zero] at hs
    simp only [List.length_nil, List.range'_zero, List.map_nil, List.zip_nil_left, Instr.fill, List.flatten_nil, List.append_nil]
    rw [List.take_of_length_le (by simp [hs])]
  | l :: ls, k, init, hl, hs => by
    have h0 : l.length = sz := hl l (by simp)
    have h2 : (k + 1) * sz = k * sz + sz := Nat.succ_mul k sz
    have h1 : k * sz + sz ≤ init.size := by
      rw [hs, ← h2]
      exact Nat.mul_le_mul_right _ (by simp only [List.length_cons]; omega)
    have e1 : (Value.agg l.toArray).cells = l.toArray := rfl
    have e2 : (l.toArray.zipIdx.foldl (fun cs x => cs.setIfInBounds (k * sz + x.2) x.1) init) = (init.toList.take (k * sz) ++ l ++ init.toList.drop (k * sz + sz)).toArray := by
      rw [← Array.foldl_toList]
      have e3 : l.toArray.zipIdx.toList = l.zipIdx 0 := by simp
      rw [e3, zip_off, Nat.add_zero, set_all l (k * sz) init (by omega), h0]
    have hlen : (init.toList.take (k * sz) ++ l).length = k * sz + sz := by rw [List.length_append, List.length_take, h0, Array.length_toList]; omega
    simp only [List.length_cons, List.range'_succ, List.map_cons, List.zip_cons_cons, Instr.fill, e1, List.size_toArray, h0]
    rw [if_neg (by simp; omega), e2, fill_rows sz ls (k + 1) _ (fun x hx => hl x (by simp [hx])) (by
      simp only [List.size_toArray, List.length_append, List.length_take, List.length_drop, h0, Array.length_toList]
      rw [hs]
      have e4 : (k + 1 + ls.length) * sz = (k + (l :: ls).length) * sz := by simp only [List.length_cons]; congr 1; omega
      rw [e4, ← hs]
      omega)]
    rw [h2, List.take_append_of_le_length (Nat.le_of_eq hlen.symm), List.take_of_length_le (Nat.le_of_eq hlen)]
    simp
theorem L.bsliceR {ps : List (Nat × Operand)} {ls : List (List Value)} {zs : List Value} {q sz : Nat} {qs : List (Nat × Value)} (hg : wn ops f g = true) (hv0 : Evs f ps qs) (hv1 : qs.map (·.2) = ls.map fun l => Value.agg l.toArray) (hi : ps.map (·.1) = List.range' 0 q) (hq : ls.length = q) (h1 : ls.all (fun l => Nat.beq l.length sz) = true) (ht : P.underlying t = some (.slice e)) (hs : Siz P e sz) (hzr : Zer P e zs) (hq2 : q * sz ≤ 16777216)
    (h : ∀ b w', b = w.heap.size → w'.heap.size = w.heap.size + 1 → Blk w' b e ls.flatten.toArray → Ext w w' → L P n ops Q rest (putO f d (.slice (some ⟨b, 0, none⟩) q q)) w') : L P n ops Q (⟨d, .buildSlice t q ps.toArray, ty, pos, aft, g⟩ :: rest) f w := by
  refine L.val hg ?_ (h w.heap.size (w.alloc (.cells ls.flatten.toArray e)) rfl (by simp) (Blk.new _ _ _) (Ext.alloc _ _))
  obtain ⟨z, hzc, hzr⟩ := hzr.run w
  have hv : ps.map (fun p => ev f p.2) = ls.map fun l => Value.agg l.toArray := by rw [← hv1, ← hv0.map]; simp
  have hps : ps.map (fun p => (p.1, ev f p.2)) = (List.range' 0 ls.length).zip (ls.map fun l => Value.agg l.toArray) := by
    rw [hq, ← hi, ← hv, List.zip_map', ]
  have hall : ∀ l ∈ ls, l.length = sz := fun l hl => Nat.eq_of_beq_eq_true (List.all_eq_true.1 h1 l hl)
  have key : ∀ z : Array Value, Instr.fill (fun i => some (i * sz, sz)) ((Array.range (q * sz)).map (z[· % z.size]!)) (ps.map (fun p => (p.1, ev f p.2))) = some ls.flatten.toArray := by
    intro z
    rw [hps, fill_rows sz ls 0 _ hall (by simp [hq])]
    simp
  simp only [execOp, Instr.buildSlice, Sem.run_bind, run_underlying ht, Result.andThen_ok, hs.run, List.map_toArray]
  rw [if_neg (by omega)]
  by_cases h0 : q * sz = 0
  · simp only [if_pos h0, Sem.run_pure, Result.andThen_ok, key, newRow, newObj]
    rfl
  · simp only [if_neg h0, Sem.run_bind, hzr, Sem.run_pure, Result.andThen_ok, key, newRow, newObj]
    rfl
theorem X.neqB {a b : Bool} (hx : ev f x = .bool a) (hy : ev f y = .bool b) (ht : P.underlying tx = some .bool) : (execOp (ev f) ⟨d, .binOp .neq tx x y tz, ty, pos, aft, g⟩).run P w = .ok (.value (.bool (!(a == b)))) w :=
  X.bin hx hy (by simp [go_sem]) (by simp [binOp, run_equal_bool w tx a b ht])
theorem X.max2 {k : IntKind} {m n' : Int} (hx : ev f x = .int k m) (hy : ev f y = .int k n') :
    (execOp (ev f) ⟨d, .call { callee := .builtin .max, args := #[x, y], argTypes := #[t, t] }, ty, pos, aft, g⟩).run P w = .ok (.value (.int k (max m n'))) w := by
  have h : (max m n' : Int) = if m < n' then n' else m := by rw [Int.max_def]; split <;> split <;> omega
  rw [h]
  simp [hx, hy, go_sem, Builtin.max_, Builtin.max2]
end
end Go.Proofs.YtpomklkfedpkfaaGreat.H
namespace Go.Proofs.YtpomklkfedpkfaaGreat.H
open Go.RowKit Go.Proofs.YtpomklkfedpkfaaGreat
set_option linter.unusedSimpArgs false
set_option linter.unusedVariables false
section
variable {P : Program} {n : Nat} {ops rest l : List Oper} {Q : Exit → Fr → World → Prop} {f : Fr} {w w' : World} {d : Option Tmp} {ty : TypeId} {pos : String} {aft : Array Edge} {g : Option (Nat × Bool)} {x y z o : Operand} {v u p rv : Value} {t e tx tz : TypeId} {name : String}
def Mtd (P : Program) (t : TypeId) (v rv : Value) (name : String) (c : FuncId) (w : World) : Prop := ∀ args, (callMethod (.iface t v) name args).run P w = .ok (.enter c (#[rv] ++ args)) w
theorem X.invoke {ρ : Operand → Value} {c : FuncId} {l : List Operand} {ts : Array TypeId} {vs : List Value} (hx : ρ x = .iface t v) (hm : Mtd P t v rv name c w) (hv : l.map ρ = vs) : (execOp ρ ⟨d, .call { callee := .invoke x name, args := l.toArray, argTypes := ts }, ty, pos, aft, g⟩).run P w = .ok (.enter c (rv :: vs).toArray) w := by
  subst hv
  have e : ((#[Value.iface t v] ++ (l.map ρ).toArray).extract 1 (#[Value.iface t v] ++ (l.map ρ).toArray).size) = (l.map ρ).toArray := by
    apply Array.ext'
    simp [List.take_of_length_le]
  have e2 : (#[rv] ++ (l.map ρ).toArray) = (rv :: l.map ρ).toArray := by
    apply Array.ext'
    simp
  have h0 : (#[Value.iface t v] ++ (l.map ρ).toArray)[0]? = some (Value.iface t v) := by simp
  simp only [execOp, resolve, hx, Sem.run_bind, Sem.run_pure, Result.andThen_ok, Go.invoke, List.map_toArray, h0, e]
  rw [hm, e2]
theorem L.invoke {c : FuncId} {l : List Operand} {vs : List Value} {ts : Array TypeId} {R : Ending → World → Prop} (hg : wn ops f g = true) (hx : ev f x = .iface t v) (hm : Mtd P t v rv name c w) (hv : l.map (ev f) = vs) (hc : Calls P c (rv :: vs).toArray w R)
    (h : ∀ e w', R e w' → ∃ v, e = .returned v ∧ L P n ops Q rest (putO f d v) w') : L P n ops Q (⟨d, .call { callee := .invoke x name, args := l.toArray, argTypes := ts }, ty, pos, aft, g⟩ :: rest) f w :=
  L.enter hg (X.invoke hx hm hv) hc h
def Has (P : Program) (t : TypeId) (name : String) (c : FuncId) (ptr : Bool) : Prop := ((P.info? t).bind fun i => (i.methods.find? fun m => m.name == name).map fun m => (m.path.toList, m.func)) = some ([], some (c, ptr))
theorem Has.run {c : FuncId} {b : Bool} (h : Has P t name c b) : ∃ i m, P.info? t = some i ∧ i.methods.find? (fun m => m.name == name) = some m ∧ m.path = #[] ∧ m.func = some (c, b) := by
  unfold Has at h
  cases hi : P.info? t with
  | none => rw [hi] at h; cases h
  | some i =>
    rw [hi] at h
    simp only [Option.bind_some] at h
    cases hm : i.methods.find? (fun m => m.name == name) with
    | none => rw [hm] at h; cases h
    | some m =>
      rw [hm] at h
      simp only [Option.map_some, Option.some.injEq, Prod.mk.injEq] at h
      exact ⟨i, m, rfl, hm, by apply Array.ext'; rw [h.1], h.2⟩
theorem thn_exit {K : Fr → World → Prop} {k : Nat} (h : Q (.exit k) f w) : thn K Q (.exit k) f w := h
theorem inB_ne {k id : Nat} (hk : Nat.beq k id = false) (h : Q (.exit k) f w) : inB id Q (.exit k) f w := by
  show (bif Nat.beq k id then Q .normal f w else Q (.exit k) f w)
  rw [hk]
  exact h
theorem inB_eq {k : Nat} (h : Q .normal f w) : inB k Q (.exit k) f w := by
  show (bif Nat.beq k k then Q .normal f w else Q (.exit k) f w)
  rw [show Nat.beq k k = true from Nat.beq_refl k]
  exact h
end
end Go.Proofs.YtpomklkfedpkfaaGreat.H
namespace Go.Proofs.YtpomklkfedpkfaaGreat
open Go.RowKit H
set_option linter.unusedVariables false
structure Chg (S : Nat → Prop) (w w' : World) : Prop where
  os : w'.os = w.os
  tape : w'.tape = w.tape
  output : w'.output = w.output
  size : w.heap.size ≤ w'.heap.size
  block : ∀ g, g < w.heap.size → ¬ S g → w'.heap[g]? = w.heap[g]?
theorem Chg.of_ext {S : Nat → Prop} {w w' : World} (h : Ext w w') : Chg S w w' := ⟨Below.os h, Below.tape h, Below.output h, Ext.le h, fun g hg _ => Below.block h g hg⟩
theorem Chg.of_grown {S : Nat → Prop} {w w' : World} {r : Option Nat} (h : w.grownBy w' r) (hr : ∀ g, r = some g → S g) : Chg S w w' :=
  ⟨h.os, h.tape, h.output, h.size, fun g hg hS => h.block g hg (fun e => hS (hr g e.symm))⟩
theorem Chg.trans {S S' : Nat → Prop} {a b c : World} (h : Chg S a b) (k : Chg S' b c) (hs : ∀ g, g < a.heap.size → S' g → S g) : Chg S a c :=
  ⟨k.os.trans h.os, k.tape.trans h.tape, k.output.trans h.output, Nat.le_trans h.size k.size, fun g hg hS => (k.block g (Nat.lt_of_lt_of_le hg h.size) (fun hh => hS (hs g hg hh))).trans (h.block g hg hS)⟩
theorem Chg.mono {S S' : Nat → Prop} {a b : World} (h : Chg S a b) (hs : ∀ g, S g → S' g) : Chg S' a b := ⟨h.os, h.tape, h.output, h.size, fun g hg hS => h.block g hg (fun hh => hS (hs g hh))⟩
theorem Chg.below {S : Nat → Prop} {w w' : World} {B : Nat} (h : Chg S w w') (hB : B ≤ w.heap.size) (hs : ∀ g, S g → B ≤ g) : Below B w w' :=
  ⟨h.os, h.tape, h.output, h.size, fun g hg => h.block g (by omega) (fun hh => by have := hs g hh; omega)⟩
theorem Chg.blk {S : Nat → Prop} {w w' : World} {g t : Nat} {cs : Array Value} (h : Chg S w w') (hb : Blk w g t cs) (hg : ¬ S g) : Blk w' g t cs := by
  have := h.block g hb.lt hg
  exact this.trans hb
theorem Chg.own {S : Nat → Prop} {w w' : World} {N e sz n : Nat} {x : Value} {xs : List Value} (h : Chg S w w') (ho : w.ownsRow N e sz x n xs) (hg : ∀ g, x.ownBlock = some g → ¬ S g) : w'.ownsRow N e sz x n xs := by
  refine ⟨ho.1, ?_⟩
  rcases ho.2 with h1 | ⟨b, cap, cur, rfl, hb, hh, h4⟩
  · exact .inl h1
  · exact .inr ⟨b, cap, cur, rfl, hb, (h.blk (t := e) (cs := cur) hh (hg b rfl)), h4⟩
theorem own_le' {w : World} {base e sz n n' c : Nat} {A : Option Addr} {xs : List Value} (h : w.ownsRow base e sz (.slice A n c) n' xs) : n' ≤ c := by
  rcases h.2 with ⟨h1, rfl⟩ | ⟨b, cap, cur, h1, _, _, h2, _⟩
  · omega
  · injection h1 with _ _ h3
    subst h3
    exact h2
end Go.Proofs.YtpomklkfedpkfaaGreat
namespace Go.Proofs.YtpomklkfedpkfaaGreat.H
open Go.RowKit Go.Proofs.YtpomklkfedpkfaaGreat
set_option linter.unusedSimpArgs false
set_option linter.unusedVariables false
section
variable {P : Program} {n : Nat} {ops rest l : List Oper} {Q : Exit → Fr → World → Prop} {f : Fr} {w w' : World} {d : Option Tmp} {ty : TypeId} {pos : String} {aft : Array Edge} {g : Option (Nat × Bool)} {x y z o : Operand} {v u p rv : Value} {t e tx tz : TypeId} {name : String}
end
end Go.Proofs.YtpomklkfedpkfaaGreat.H
namespace Go.Proofs.YtpomklkfedpkfaaGreat.H
open Go.RowKit Go.Proofs.YtpomklkfedpkfaaGreat
theorem mixed : Tryz.prog.follows .mixedOrders = true := by kernel_rfl
theorem sc_2 : Scal Tryz.prog 2 := Scal.of Tryz.underlying2 rfl
theorem sz_2 : Siz Tryz.prog 2 1 := Siz.of (by kernel_rfl)
theorem sc_3 : Scal Tryz.prog 3 := Scal.of Tryz.underlying3 rfl
theorem is_3 : (Tryz.prog.underlying 3).isSome = true := by rw [Tryz.underlying3]; rfl
theorem sz_3 : Siz Tryz.prog 3 1 := Siz.of (by kernel_rfl)
theorem zr_3 : Zer Tryz.prog 3 [.int .i64 (0)] := Zer.of (by kernel_rfl)
theorem el_3 : Elm Tryz.prog 3 (.int .i64 (0)) 1 8 := Elm.of (by kernel_rfl) rfl (by decide)
theorem sc_4 : Scal Tryz.prog 4 := Scal.of Tryz.underlying4 rfl
theorem sz_4 : Siz Tryz.prog 4 1 := Siz.of (by kernel_rfl)
theorem sc_5 : Scal Tryz.prog 5 := Scal.of Tryz.underlying5 rfl
theorem is_5 : (Tryz.prog.underlying 5).isSome = true := by rw [Tryz.underlying5]; rfl
theorem sz_5 : Siz Tryz.prog 5 1 := Siz.of (by kernel_rfl)
theorem zr_5 : Zer Tryz.prog 5 [.int .u8 (0)] := Zer.of (by kernel_rfl)
theorem el_5 : Elm Tryz.prog 5 (.int .u8 (0)) 1 1 := Elm.of (by kernel_rfl) rfl (by decide)
theorem sc_9 : Scal Tryz.prog 9 := Scal.of Tryz.underlying9 rfl
theorem sz_9 : Siz Tryz.prog 9 1 := Siz.of (by kernel_rfl)
theorem zr_9 : Zer Tryz.prog 9 [.string ⟨#[]⟩] := Zer.of (by kernel_rfl)
theorem el_9 : Elm Tryz.prog 9 (.string ⟨#[]⟩) 1 16 := Elm.of (by kernel_rfl) rfl (by decide)
theorem sc_22 : Scal Tryz.prog 22 := Scal.of Tryz.underlying22 rfl
theorem sz_22 : Siz Tryz.prog 22 1 := Siz.of (by kernel_rfl)
theorem sc_23 : Scal Tryz.prog 23 := Scal.of Tryz.underlying23 rfl
theorem sz_23 : Siz Tryz.prog 23 1 := Siz.of (by kernel_rfl)
theorem sc_24 : Scal Tryz.prog 24 := Scal.of Tryz.underlying24 rfl
theorem sz_24 : Siz Tryz.prog 24 1 := Siz.of (by kernel_rfl)
theorem sz_26 : Siz Tryz.prog 26 4 := Siz.of (by kernel_rfl)
theorem zr_26 : Zer Tryz.prog 26 [.slice none 0 0, .slice none 0 0, .slice none 0 0, .slice none 0 0] := Zer.of (by kernel_rfl)
theorem bp_26 {fs : Array Field} (h : Tryz.prog.underlying 26 = some (.struct fs)) : Plc Tryz.prog fs [(0, 1), (1, 1), (2, 1), (3, 1)] := by
  have e := h.symm.trans Tryz.underlying26
  injection e with e
  injection e with e
  subst e
  unfold Plc
  intro w
  kernel_rfl
theorem sc_27 : Scal Tryz.prog 27 := Scal.of Tryz.underlying27 rfl
theorem is_27 : (Tryz.prog.underlying 27).isSome = true := by rw [Tryz.underlying27]; rfl
theorem sz_27 : Siz Tryz.prog 27 1 := Siz.of (by kernel_rfl)
theorem zr_27 : Zer Tryz.prog 27 [.int .u32 (0)] := Zer.of (by kernel_rfl)
theorem el_27 : Elm Tryz.prog 27 (.int .u32 (0)) 1 4 := Elm.of (by kernel_rfl) rfl (by decide)
theorem sc_28 : Scal Tryz.prog 28 := Scal.of Tryz.underlying28 rfl
theorem sz_28 : Siz Tryz.prog 28 1 := Siz.of (by kernel_rfl)
theorem sc_29 : Scal Tryz.prog 29 := Scal.of Tryz.underlying29 rfl
theorem sz_29 : Siz Tryz.prog 29 1 := Siz.of (by kernel_rfl)
theorem sc_44 : Scal Tryz.prog 44 := Scal.of Tryz.underlying44 rfl
theorem sz_44 : Siz Tryz.prog 44 1 := Siz.of (by kernel_rfl)
theorem sz_46 : Siz Tryz.prog 46 2 := Siz.of (by kernel_rfl)
theorem zr_46 : Zer Tryz.prog 46 [.int .i64 (0), .slice none 0 0] := Zer.of (by kernel_rfl)
theorem el_46 : Elm Tryz.prog 46 (.agg #[.int .i64 (0), .slice none 0 0]) 2 32 := Elm.of (by kernel_rfl) rfl (by decide)
theorem bp_46 {fs : Array Field} (h : Tryz.prog.underlying 46 = some (.struct fs)) : Plc Tryz.prog fs [(0, 1), (1, 1)] := by
  have e := h.symm.trans Tryz.underlying46
  injection e with e
  injection e with e
  subst e
  unfold Plc
  intro w
  kernel_rfl
theorem sc_48 : Scal Tryz.prog 48 := Scal.of Tryz.underlying48 rfl
theorem is_48 : (Tryz.prog.underlying 48).isSome = true := by rw [Tryz.underlying48]; rfl
theorem sz_48 : Siz Tryz.prog 48 1 := Siz.of (by kernel_rfl)
theorem sc_49 : Scal Tryz.prog 49 := Scal.of Tryz.underlying49 rfl
theorem sz_49 : Siz Tryz.prog 49 1 := Siz.of (by kernel_rfl)
theorem sc_50 : Scal Tryz.prog 50 := Scal.of Tryz.underlying50 rfl
theorem sz_50 : Siz Tryz.prog 50 1 := Siz.of (by kernel_rfl)
theorem sz_52 : Siz Tryz.prog 52 4 := Siz.of (by kernel_rfl)
theorem zr_52 : Zer Tryz.prog 52 [.int .u64 (0), .int .i64 (0), .slice none 0 0, .slice none 0 0] := Zer.of (by kernel_rfl)
theorem el_52 : Elm Tryz.prog 52 (.agg #[.int .u64 (0), .int .i64 (0), .slice none 0 0, .slice none 0 0]) 4 64 := Elm.of (by kernel_rfl) rfl (by decide)
theorem sz_54 : Siz Tryz.prog 54 2 := Siz.of (by kernel_rfl)
theorem zr_54 : Zer Tryz.prog 54 [.string ⟨#[]⟩, .int .i64 (0)] := Zer.of (by kernel_rfl)
theorem bp_54 {fs : Array Field} (h : Tryz.prog.underlying 54 = some (.struct fs)) : Plc Tryz.prog fs [(0, 1), (1, 1)] := by
  have e := h.symm.trans Tryz.underlying54
  injection e with e
  injection e with e
  subst e
  unfold Plc
  intro w
  kernel_rfl
theorem sz_70 : Siz Tryz.prog 70 5 := Siz.of (by kernel_rfl)
theorem zr_70 : Zer Tryz.prog 70 [.int .i64 (0), .int .i64 (0), .slice none 0 0, .int .i64 (0), .int .i64 (0)] := Zer.of (by kernel_rfl)
theorem el_70 : Elm Tryz.prog 70 (.agg #[.int .i64 (0), .int .i64 (0), .slice none 0 0, .int .i64 (0), .int .i64 (0)]) 5 56 := Elm.of (by kernel_rfl) rfl (by decide)
theorem sc_71 : Scal Tryz.prog 71 := Scal.of Tryz.underlying71 rfl
theorem sz_71 : Siz Tryz.prog 71 1 := Siz.of (by kernel_rfl)
theorem sc_72 : Scal Tryz.prog 72 := Scal.of Tryz.underlying72 rfl
theorem sz_72 : Siz Tryz.prog 72 1 := Siz.of (by kernel_rfl)
theorem sz_74 : Siz Tryz.prog 74 3 := Siz.of (by kernel_rfl)
theorem zr_74 : Zer Tryz.prog 74 [.slice none 0 0, .float .f64 0, .float .f64 0] := Zer.of (by kernel_rfl)
theorem el_74 : Elm Tryz.prog 74 (.agg #[.slice none 0 0, .float .f64 0, .float .f64 0]) 3 40 := Elm.of (by kernel_rfl) rfl (by decide)
theorem sz_111 : Siz Tryz.prog 111 2 := Siz.of (by kernel_rfl)
theorem zr_111 : Zer Tryz.prog 111 [.bool false, .slice none 0 0] := Zer.of (by kernel_rfl)
theorem bp_111 {fs : Array Field} (h : Tryz.prog.underlying 111 = some (.struct fs)) : Plc Tryz.prog fs [(0, 1), (1, 1)] := by
  have e := h.symm.trans Tryz.underlying111
  injection e with e
  injection e with e
  subst e
  unfold Plc
  intro w
  kernel_rfl
theorem sz_113 : Siz Tryz.prog 113 7 := Siz.of (by kernel_rfl)
theorem zr_113 : Zer Tryz.prog 113 [.bool false, .bool false, .bool false, .bool false, .bool false, .bool false, .slice none 0 0] := Zer.of (by kernel_rfl)
theorem bp_113 {fs : Array Field} (h : Tryz.prog.underlying 113 = some (.struct fs)) : Plc Tryz.prog fs [(0, 1), (1, 1), (2, 1), (3, 1), (4, 1), (5, 2)] := by
  have e := h.symm.trans Tryz.underlying113
  injection e with e
  injection e with e
  subst e
  unfold Plc
  intro w
  kernel_rfl
theorem is_120 : (Tryz.prog.underlying 120).isSome = true := by rw [Tryz.underlying120]; rfl
theorem zr_126 : Zer Tryz.prog 126 [.bool false, .int .u8 (0), .bool false, .slice none 0 0] := Zer.of (by kernel_rfl)
theorem bp_126 {fs : Array Field} (h : Tryz.prog.underlying 126 = some (.struct fs)) : Plc Tryz.prog fs [(0, 1), (1, 1), (2, 1), (3, 1)] := by
  have e := h.symm.trans Tryz.underlying126
  injection e with e
  injection e with e
  subst e
  unfold Plc
  intro w
  kernel_rfl
theorem sc_150 : Scal Tryz.prog 150 := Scal.of Tryz.underlying150 rfl
theorem sz_150 : Siz Tryz.prog 150 1 := Siz.of (by kernel_rfl)
theorem zr_150 : Zer Tryz.prog 150 [.int .u64 (0)] := Zer.of (by kernel_rfl)
theorem en_4 : Ent Tryz.prog 4 := by unfold Ent; kernel_rfl
theorem en_5 : Ent Tryz.prog 5 := by unfold Ent; kernel_rfl
theorem en_6 : Ent Tryz.prog 6 := by unfold Ent; kernel_rfl
theorem en_7 : Ent Tryz.prog 7 := by unfold Ent; kernel_rfl
theorem en_8 : Ent Tryz.prog 8 := by unfold Ent; kernel_rfl
theorem en_9 : Ent Tryz.prog 9 := by unfold Ent; kernel_rfl
theorem en_10 : Ent Tryz.prog 10 := by unfold Ent; kernel_rfl
theorem en_11 : Ent Tryz.prog 11 := by unfold Ent; kernel_rfl
theorem en_12 : Ent Tryz.prog 12 := by unfold Ent; kernel_rfl
theorem en_13 : Ent Tryz.prog 13 := by unfold Ent; kernel_rfl
theorem en_14 : Ent Tryz.prog 14 := by unfold Ent; kernel_rfl
theorem en_15 : Ent Tryz.prog 15 := by unfold Ent; kernel_rfl
theorem en_16 : Ent Tryz.prog 16 := by unfold Ent; kernel_rfl
theorem en_17 : Ent Tryz.prog 17 := by unfold Ent; kernel_rfl
theorem en_18 : Ent Tryz.prog 18 := by unfold Ent; kernel_rfl
theorem en_19 : Ent Tryz.prog 19 := by unfold Ent; kernel_rfl
theorem en_20 : Ent Tryz.prog 20 := by unfold Ent; kernel_rfl
theorem en_21 : Ent Tryz.prog 21 := by unfold Ent; kernel_rfl
theorem en_22 : Ent Tryz.prog 22 := by unfold Ent; kernel_rfl
theorem en_23 : Ent Tryz.prog 23 := by unfold Ent; kernel_rfl
theorem en_24 : Ent Tryz.prog 24 := by unfold Ent; kernel_rfl
theorem en_25 : Ent Tryz.prog 25 := by unfold Ent; kernel_rfl
theorem en_26 : Ent Tryz.prog 26 := by unfold Ent; kernel_rfl
theorem en_27 : Ent Tryz.prog 27 := by unfold Ent; kernel_rfl
theorem en_28 : Ent Tryz.prog 28 := by unfold Ent; kernel_rfl
theorem en_29 : Ent Tryz.prog 29 := by unfold Ent; kernel_rfl
theorem en_30 : Ent Tryz.prog 30 := by unfold Ent; kernel_rfl
theorem en_31 : Ent Tryz.prog 31 := by unfold Ent; kernel_rfl
theorem en_32 : Ent Tryz.prog 32 := by unfold Ent; kernel_rfl
theorem en_33 : Ent Tryz.prog 33 := by unfold Ent; kernel_rfl
theorem en_34 : Ent Tryz.prog 34 := by unfold Ent; kernel_rfl
theorem en_35 : Ent Tryz.prog 35 := by unfold Ent; kernel_rfl
theorem en_36 : Ent Tryz.prog 36 := by unfold Ent; kernel_rfl
theorem en_38 : Ent Tryz.prog 38 := by unfold Ent; kernel_rfl
theorem en_39 : Ent Tryz.prog 39 := by unfold Ent; kernel_rfl
theorem en_40 : Ent Tryz.prog 40 := by unfold Ent; kernel_rfl
theorem en_41 : Ent Tryz.prog 41 := by unfold Ent; kernel_rfl
theorem en_42 : Ent Tryz.prog 42 := by unfold Ent; kernel_rfl
theorem en_43 : Ent Tryz.prog 43 := by unfold Ent; kernel_rfl
theorem en_44 : Ent Tryz.prog 44 := by unfold Ent; kernel_rfl
theorem en_45 : Ent Tryz.prog 45 := by unfold Ent; kernel_rfl
theorem en_46 : Ent Tryz.prog 46 := by unfold Ent; kernel_rfl
theorem en_47 : Ent Tryz.prog 47 := by unfold Ent; kernel_rfl
theorem en_48 : Ent Tryz.prog 48 := by unfold Ent; kernel_rfl
theorem en_49 : Ent Tryz.prog 49 := by unfold Ent; kernel_rfl
theorem en_50 : Ent Tryz.prog 50 := by unfold Ent; kernel_rfl
theorem en_51 : Ent Tryz.prog 51 := by unfold Ent; kernel_rfl
theorem en_52 : Ent Tryz.prog 52 := by unfold Ent; kernel_rfl
theorem en_53 : Ent Tryz.prog 53 := by unfold Ent; kernel_rfl
theorem en_54 : Ent Tryz.prog 54 := by unfold Ent; kernel_rfl
theorem en_55 : Ent Tryz.prog 55 := by unfold Ent; kernel_rfl
theorem en_56 : Ent Tryz.prog 56 := by unfold Ent; kernel_rfl
theorem en_57 : Ent Tryz.prog 57 := by unfold Ent; kernel_rfl
theorem en_58 : Ent Tryz.prog 58 := by unfold Ent; kernel_rfl
theorem en_59 : Ent Tryz.prog 59 := by unfold Ent; kernel_rfl
theorem en_60 : Ent Tryz.prog 60 := by unfold Ent; kernel_rfl
theorem en_61 : Ent Tryz.prog 61 := by unfold Ent; kernel_rfl
theorem en_65 : Ent Tryz.prog 65 := by unfold Ent; kernel_rfl
theorem en_66 : Ent Tryz.prog 66 := by unfold Ent; kernel_rfl
theorem en_67 : Ent Tryz.prog 67 := by unfold Ent; kernel_rfl
theorem en_68 : Ent Tryz.prog 68 := by unfold Ent; kernel_rfl
theorem en_69 : Ent Tryz.prog 69 := by unfold Ent; kernel_rfl
theorem en_70 : Ent Tryz.prog 70 := by unfold Ent; kernel_rfl
theorem en_71 : Ent Tryz.prog 71 := by unfold Ent; kernel_rfl
theorem en_72 : Ent Tryz.prog 72 := by unfold Ent; kernel_rfl
theorem en_73 : Ent Tryz.prog 73 := by unfold Ent; kernel_rfl
theorem en_74 : Ent Tryz.prog 74 := by unfold Ent; kernel_rfl
theorem en_75 : Ent Tryz.prog 75 := by unfold Ent; kernel_rfl
theorem en_76 : Ent Tryz.prog 76 := by unfold Ent; kernel_rfl
theorem en_77 : Ent Tryz.prog 77 := by unfold Ent; kernel_rfl
theorem en_83 : Ent Tryz.prog 83 := by unfold Ent; kernel_rfl
theorem en_84 : Ent Tryz.prog 84 := by unfold Ent; kernel_rfl
theorem en_85 : Ent Tryz.prog 85 := by unfold Ent; kernel_rfl
theorem en_86 : Ent Tryz.prog 86 := by unfold Ent; kernel_rfl
theorem en_87 : Ent Tryz.prog 87 := by unfold Ent; kernel_rfl
theorem en_88 : Ent Tryz.prog 88 := by unfold Ent; kernel_rfl
theorem en_89 : Ent Tryz.prog 89 := by unfold Ent; kernel_rfl
theorem en_90 : Ent Tryz.prog 90 := by unfold Ent; kernel_rfl
theorem en_91 : Ent Tryz.prog 91 := by unfold Ent; kernel_rfl
theorem en_92 : Ent Tryz.prog 92 := by unfold Ent; kernel_rfl
theorem en_93 : Ent Tryz.prog 93 := by unfold Ent; kernel_rfl
theorem en_94 : Ent Tryz.prog 94 := by unfold Ent; kernel_rfl
theorem en_95 : Ent Tryz.prog 95 := by unfold Ent; kernel_rfl
theorem en_97 : Ent Tryz.prog 97 := by unfold Ent; kernel_rfl
theorem en_98 : Ent Tryz.prog 98 := by unfold Ent; kernel_rfl
theorem en_103 : Ent Tryz.prog 103 := by unfold Ent; kernel_rfl
theorem en_104 : Ent Tryz.prog 104 := by unfold Ent; kernel_rfl
theorem en_105 : Ent Tryz.prog 105 := by unfold Ent; kernel_rfl
theorem en_106 : Ent Tryz.prog 106 := by unfold Ent; kernel_rfl
theorem en_107 : Ent Tryz.prog 107 := by unfold Ent; kernel_rfl
theorem en_108 : Ent Tryz.prog 108 := by unfold Ent; kernel_rfl
theorem en_109 : Ent Tryz.prog 109 := by unfold Ent; kernel_rfl
theorem en_110 : Ent Tryz.prog 110 := by unfold Ent; kernel_rfl
theorem en_111 : Ent Tryz.prog 111 := by unfold Ent; kernel_rfl
theorem en_112 : Ent Tryz.prog 112 := by unfold Ent; kernel_rfl
theorem en_115 : Ent Tryz.prog 115 := by unfold Ent; kernel_rfl
theorem en_118 : Ent Tryz.prog 118 := by unfold Ent; kernel_rfl
theorem en_120 : Ent Tryz.prog 120 := by unfold Ent; kernel_rfl
end Go.Proofs.YtpomklkfedpkfaaGreat.H
namespace Go.Proofs.YtpomklkfedpkfaaGreat
open Go.RowKit H
open Mk
set_option linter.unusedVariables false
def zl (l : List Nat) : List Int := l.map fun n : Nat => (n : Int)
theorem zl_getD (l : List Nat) (i : Nat) : (zl l).getD i 0 = ((l.getD i 0 : Nat) : Int) := by
  simp only [zl, List.getD, List.getElem?_map]
  cases l[i]? <;> rfl
theorem grb_trans {a b c : World} {r : Option Nat} (h : a.grownBy b r) (k : b.grownBy c r) : a.grownBy c r :=
  ⟨k.os.trans h.os, k.tape.trans h.tape, k.output.trans h.output, Nat.le_trans h.size k.size, fun i hi hne => (k.block i (Nat.lt_of_lt_of_le hi h.size) hne).trans (h.block i hi hne)⟩
theorem own_nilN (w : World) (base : Nat) (e : TypeId) (k : IntKind) : w.ownsRow base e 1 (.slice none 0 0) 0 (nums k []) := own_nil w base e 1
theorem grown_ext {a b : World} {r : Option Nat} (h : Ext a b) : a.grownBy b r := ⟨Below.os h, Below.tape h, Below.output h, Ext.le h, fun i hi _ => Below.block h i hi⟩
theorem made_nums (k : IntKind) (q : Nat) : madeCells (Value.int k 0).cells (q * 1) = (nums k (List.replicate q 0)).toArray := by
  rw [Nat.mul_one]
  apply Array.ext'
  rw [show (Value.int k 0).cells = #[.int k 0] from rfl, toList_madeCells_one]
  simp [nums]
theorem zl_of : ∀ (zs : List Int), (∀ z ∈ zs, 0 ≤ z) → zl (zs.map Int.toNat) = zs
  | [], _ => rfl
  | z :: zs, h => by
    have h1 := h z (by simp)
    have h2 := zl_of zs (fun u hu => h u (by simp [hu]))
    simp only [zl, List.map_cons] at h2 ⊢
    rw [h2, Int.toNat_of_nonneg h1]
theorem u32_list (xs : List (Nm .u32)) : ∃ vs : List Nat, zsOf xs = zl vs ∧ ∀ v ∈ vs, v < 4294967296 := by
  refine ⟨(zsOf xs).map Int.toNat, (zl_of _ ?_).symm, ?_⟩
  · intro z hz
    simp only [zsOf, List.mem_map] at hz
    obtain ⟨x, _, rfl⟩ := hz
    exact x.u32.1
  · intro v hv
    simp only [zsOf, List.mem_map] at hv
    obtain ⟨z, ⟨x, _, rfl⟩, rfl⟩ := hv
    have := x.u32
    omega
theorem blk_readsN {w : World} {t b q sz B : Nat} {l : List Value} (h : Blk w b t l.toArray) (hb : b < B) (hl : l.length = q * sz) : Reads w B sz (some ⟨b, 0, none⟩) q l := by
  refine ⟨hl, fun _ => ⟨⟨b, 0, none⟩, rfl, hb, fun j u hu => ?_⟩⟩
  have := h.cell j
  rw [Addr.add_mid, Nat.zero_add, this]
  simpa using hu
namespace H
theorem X.loadRow {P : Program} {w : World} {f : Operand → Value} {x : Operand} {d : Option Tmp} {t ty : TypeId} {pos : String} {aft : Array Edge} {g : Option (Nat × Bool)} {A : Option Addr} {B size n j : Nat} {xs cs : List Value} {ds : TypeDesc} (hx : f x = pA A j) (hr : Reads w B size A n xs) (hcs : ∀ r v, cs[r]? = some v → xs[j + r]? = some v) (hp : 0 < cs.length) (hu : P.underlying t = some ds) (hd : ds.isRow = true) (hi : (P.info? t).map (·.size) = some cs.length) :
    (execOp f ⟨d, .load t x, ty, pos, aft, g⟩).run P w = .ok (.value (.agg cs.toArray)) w := by
  have h00 := hcs 0 _ (List.getElem?_eq_getElem hp)
  have hlt := (List.getElem?_eq_some_iff.1 h00).1
  have hn : 0 < n := Nat.pos_of_ne_zero (fun h0 => by have := hr.1; rw [h0, Nat.zero_mul] at this; omega)
  obtain ⟨⟨b, off, spot⟩, rfl, hb, hc⟩ := hr.2 hn
  have hs0 := hc 0 _ (List.getElem?_eq_getElem (by omega : 0 < xs.length))
  have hs : spot = none := by simpa [Addr.add] using World.cell?_spot hs0
  subst hs
  have hx' : f x = .pointer (some ⟨b, off + j, none⟩) := by rw [hx]; simp [pA, Addr.add_mid]
  refine X.loadAgg hx' (fun r v hv => ?_) hu hd hi
  have := hc _ _ (hcs r v hv)
  rw [Addr.add_mid] at this
  rw [Nat.add_assoc]
  exact this
end H
end Go.Proofs.YtpomklkfedpkfaaGreat
namespace Go.Proofs.YtpomklkfedpkfaaGreat
open Go.RowKit
section
variable {X : Type} {f : X → List Value} {sz : Nat}
theorem flat_length (h : ∀ x, (f x).length = sz) (l : List X) : (l.flatMap f).length = l.length * sz := by
  induction l with
  | nil => simp
  | cons a l ih => rw [List.flatMap_cons, List.length_append, ih, h, List.length_cons, Nat.add_mul, Nat.one_mul, Nat.add_comm]
theorem flat_at (h : ∀ x, (f x).length = sz) : ∀ (l : List X) (i r : Nat), r < sz → (l.flatMap f)[i * sz + r]? = (l[i]?).bind fun x => (f x)[r]?
  | [], i, r, _ => by simp
  | a :: l, 0, r, hr => by
    rw [List.flatMap_cons, Nat.zero_mul, Nat.zero_add, List.getElem?_append_left (by rw [h]; exact hr)]
    rfl
  | a :: l, i + 1, r, hr => by
    rw [List.flatMap_cons, List.getElem?_append_right (by rw [h, Nat.add_mul]; omega), h, show (i + 1) * sz + r - sz = i * sz + r by rw [Nat.add_mul]; omega, flat_at h l i r hr]
    rfl
theorem flat_row (h : ∀ x, (f x).length = sz) {l : List X} {i : Nat} {x : X} (hi : l[i]? = some x) : ∀ (r : Nat) (u : Value), (f x)[r]? = some u → (l.flatMap f)[i * sz + r]? = some u := by
  intro r u hu
  have hr : r < sz := by rw [← h x]; exact (List.getElem?_eq_some_iff.1 hu).1
  rw [flat_at h l i r hr, hi]
  exact hu
theorem LiesSlice.rows {α : Type} [Lay α] {w : World} {B n : Nat} {A : Option Addr} {xs : List α} (hl : LiesSlice w B A n xs) {g : X → Prop} (h : ∀ x, (f x).length = Lay.size α) (hx : ∀ (us : List Value) (a : α), Lay.lies w B us a → ∃ x, us = f x ∧ g x) :
    ∃ l : List X, l.length = n ∧ Reads w B (Lay.size α) A n (l.flatMap f) ∧ ∀ x ∈ l, g x := by
  rcases Nat.eq_zero_or_pos n with h0 | hn
  · subst h0
    exact ⟨[], rfl, ⟨by simp, fun h0 => absurd h0 (Nat.lt_irrefl 0)⟩, fun x hx => by cases hx⟩
  obtain ⟨ad, rfl, hb, hc⟩ := hl.2 hn
  have key : ∀ m, m ≤ n → ∃ l : List X, l.length = m ∧ (∀ i x, l[i]? = some x → g x ∧ ∀ j, j < Lay.size α → w.cell? (ad.add (i * Lay.size α + j)) = (f x)[j]?) := by
    intro m
    induction m with
    | zero => intro _; exact ⟨[], rfl, fun i x hi => by simp at hi⟩
    | succ m ih =>
      intro hm
      obtain ⟨l, hll, hls⟩ := ih (by omega)
      have hmx : m < xs.length := by rw [hl.1]; omega
      obtain ⟨us, hus, hlies⟩ := hc m _ (List.getElem?_eq_getElem hmx)
      obtain ⟨x, rfl, hgx⟩ := hx us _ hlies
      refine ⟨l ++ [x], by simp [hll], fun i y hi => ?_⟩
      rcases Nat.lt_or_ge i l.length with hlt | hge
      · rw [List.getElem?_append_left hlt] at hi
        exact hls i y hi
      · have hi2 : i < (l ++ [x]).length := (List.getElem?_eq_some_iff.1 hi).1
        obtain rfl : i = m := by simp at hi2; omega
        rw [List.getElem?_append_right (by omega), hll, Nat.sub_self] at hi
        injection hi with hi
        subst hi
        exact ⟨hgx, hus⟩
  obtain ⟨l, hll, hls⟩ := key n (Nat.le_refl _)
  refine ⟨l, hll, ⟨by rw [flat_length h, hll], fun _ => ⟨ad, rfl, hb, fun j u hu => ?_⟩⟩, fun x hx => ?_⟩
  · have hj : j < n * Lay.size α := by rw [← hll, ← flat_length h l]; exact (List.getElem?_eq_some_iff.1 hu).1
    have hs : 0 < Lay.size α := Nat.pos_of_ne_zero (fun h0 => by rw [h0] at hj; omega)
    have hr := Nat.mod_lt j hs
    have e : j / Lay.size α * Lay.size α + j % Lay.size α = j := by rw [Nat.mul_comm]; exact Nat.div_add_mod j _
    have hu2 := hu
    rw [← e, flat_at h l _ _ hr] at hu2
    obtain ⟨x, hx1, hx2⟩ := Option.bind_eq_some_iff.1 hu2
    rw [← e, (hls _ x hx1).2 _ hr, hx2]
  · obtain ⟨i, hi, rfl⟩ := List.getElem_of_mem hx
    exact (hls i _ (List.getElem?_eq_getElem hi)).1
end
end Go.Proofs.YtpomklkfedpkfaaGreat
namespace Go.Proofs.YtpomklkfedpkfaaGreat
set_option maxRecDepth 100000
open Go.RowKit H
set_option linter.unusedVariables false
namespace H
section
variable {P : Program} {w : World} {d : Option Tmp} {ty t tx tz t1 t2 : TypeId} {pos : String} {aft : Array Edge} {g : Option (Nat × Bool)} {x y : Operand} {ρ : Operand → Value}
structure Two (P : Program) (t t1 t2 : TypeId) : Prop where
  ht : P.underlying t = some (.struct (P.fieldsOf t))
  hp : P.stoodInHeld t = false
  hm : P.eqGuardType P.depth t = false
  hf : (P.fieldsOf t).toList.map (fun f => (f.name != "_", f.type, f.offset)) = [(true, t1, 0), (true, t2, 1)]
theorem Two.eq (h : Two P t t1 t2) {a1 a2 b1 b2 : Value} {r1 r2 : Bool} (h1 : ∀ w : World, (Op.equalIn 9999 t1 a1 b1).run P w = .ok r1 w) (h2 : ∀ w : World, (Op.equalIn 9999 t2 a2 b2).run P w = .ok r2 w) (s1 : Scal P t1) (s2 : Scal P t2) :
    (Op.equalIn 10000 t (.agg #[a1, a2]) (.agg #[b1, b2])).run P w = .ok (r1 && r2) w := by
  rw [run_equalIn_agg w 9999 t _ _ h.ht h.hp]
  have hf := h.hf
  generalize (P.fieldsOf t).toList = fs at hf
  obtain ⟨f1, f2, rfl⟩ : ∃ f1 f2, fs = [f1, f2] := by
    rcases fs with _ | ⟨f1, _ | ⟨f2, _ | ⟨f3, fs⟩⟩⟩
    · cases hf
    · simp at hf
    · exact ⟨f1, f2, rfl⟩
    · simp at hf
  · simp only [List.map_cons, List.map_nil, List.cons.injEq, Prod.mk.injEq, and_true] at hf
    obtain ⟨⟨n1, rfl, o1⟩, n2, rfl, o2⟩ := hf
    have n1' : f1.name ≠ "_" := by simpa using n1
    have n2' : f2.name ≠ "_" := by simpa using n2
    have p1 : ∀ (u v : Value) (w : World), (part f1.type #[u, v] f1.offset).run P w = .ok u w := fun u v w => by
      rw [o1]
      simp [part, s1 w, Result.andThen]
    have p2 : ∀ (u v : Value) (w : World), (part f2.type #[u, v] f2.offset).run P w = .ok v w := fun u v w => by
      rw [o2]
      simp [part, s2 w, Result.andThen]
    cases r1 <;> cases r2 <;> simp [Op.eqFields, n1', n2', p1, p2, h1, h2, Result.andThen]
end
end H
end Go.Proofs.YtpomklkfedpkfaaGreat
namespace Go.Proofs.YtpomklkfedpkfaaGreat
set_option maxRecDepth 100000
open Go.RowKit H
open Go.MapKept Go.ChangeMaps Go.WideMaps
set_option linter.unusedVariables false
namespace H
section
variable {P : Program} {k e t : TypeId} {w w' : World} {b n : Nat} {f : ByteArray → Option Int}
def MapSI (P : Program) (k e : TypeId) (w : World) (b n : Nat) (f : ByteArray → Option Int) : Prop :=
  ∃ D : DataW Unit, w.ownsMap P k (plainElem P e) b n D ∧ ∀ s : ByteArray, s.size ≤ maxLen → Maps.has D (.string s.data.toList) = (f s).isSome ∧ D.atKey (.string s.data.toList) (.lit (.int .i64 0)) = .lit (.int .i64 ((f s).getD 0))
theorem MapSI.made (P : Program) (k e : TypeId) (w : World) : MapSI P k e (w.alloc (.map #[] 0)) w.heap.size 0 (fun _ => none) :=
  ⟨.map [], World.ownsMap_made w P k _, fun s _ => ⟨rfl, rfl⟩⟩
theorem MapSI.kept {row : Option Nat} (h : MapSI P k e w b n f) (hg : w.grownBy w' row) (hne : some b ≠ row) : MapSI P k e w' b n f := by
  obtain ⟨D, h1, h2⟩ := h
  exact ⟨D, h1.kept hg hne, h2⟩
theorem MapSI.ext (h : MapSI P k e w b n f) (he : Ext w w') : MapSI P k e w' b n f :=
  h.kept (row := none) ⟨Below.os he, Below.tape he, Below.output he, Ext.le he, fun i hi _ => Below.block he i hi⟩ (by simp)
theorem MapSI.lt (h : MapSI P k e w b n f) : b < w.heap.size := by
  obtain ⟨D, h1, _⟩ := h
  exact h1.lt
theorem MapSI.look (h : MapSI P k e w b n f) (ht : P.underlying t = some (.map k e)) (hk : P.underlying k = some .string) (he : P.underlying e = some (.int .i64)) (hz : (zeroValue e).run P w = .ok (.int .i64 0) w) {s : ByteArray} (hs : s.size ≤ maxLen) :
    (Instr.lookup t (.map (some b)) (.string s) true).run P w = .ok (.tuple #[.int .i64 ((f s).getD 0), .bool (f s).isSome]) w := by
  obtain ⟨D, h1, h2⟩ := h
  obtain ⟨v, ps, hrun, hv⟩ := h1.look_ok (Maps.string_keyed hk) ht hz (plainElem_int he (by decide)) (keyOf_string_mk hk hs)
  obtain ⟨a, rfl, ha, _⟩ := plainElem_int_inv he hv
  obtain ⟨g1, g2⟩ := h2 s hs
  rw [hrun, g1]
  have := congrArg Prod.fst ha
  simp only [g2] at this
  injection this with this
  injection this with _ this
  rw [this]
theorem MapSI.put (h : MapSI P k e w b n f) (ht : P.underlying t = some (.map k e)) (hk : P.underlying k = some .string) (he : P.underlying e = some (.int .i64)) (hn : n < maxLen) {s : ByteArray} (hs : s.size ≤ maxLen) {v : Int} (hv : (Lit.int .i64 v).wf = true) :
    ∃ w', (Instr.mapUpdate t (.map (some b)) (.string s) (.int .i64 v)).run P w = .ok () w' ∧ MapSI P k e w' b (n + 1) (fun x => if x = s then some v else f x) ∧ w.grownBy w' (some b) := by
  obtain ⟨D, h1, h2⟩ := h
  have hkey := keyOf_string_mk (P := P) hk hs
  obtain ⟨w', hrun, r1, r2⟩ := h1.update (Maps.string_keyed hk) ht hn hkey (plainElem_int he hv)
  refine ⟨w', hrun, ⟨_, r1, fun x hx => ?_⟩, r2⟩
  by_cases hxs : x = s
  · subst hxs
    rw [Maps.has_put_same h1.isMap ((Maps.string_keyed hk).key hkey), Maps.atKey_put_same h1.isMap ((Maps.string_keyed hk).key hkey)]
    simp
  · have hne : Lit.string x.data.toList ≠ Lit.string s.data.toList := by
      intro hh
      injection hh with hh
      apply hxs
      cases x; cases s
      simp only at hh
      rw [Array.toList_inj.1 hh]
    rw [Maps.has_put_other hne, Maps.atKey_put_other hne]
    simp only [if_neg hxs]
    exact h2 x hx
theorem wf64 {v : Int} (h : -9223372036854775808 ≤ v ∧ v ≤ 9223372036854775807) : (Lit.int .i64 v).wf = true := by
  simp [Lit.wf, IntKind.min, IntKind.max, IntKind.signed, IntKind.bits]; omega
variable {nn : Nat} {Q : Exit → Fr → World → Prop} {ops rest : List Oper} {fr : Fr} {ty : TypeId} {pos : String} {aft : Array Edge} {d : Option Tmp} {g : Option (Nat × Bool)}
theorem L.makeMap {z : Operand} {kz : IntKind} {m : Int} (hg : wn ops fr g = true) (hz : ev fr z = .int kz m) (ht : P.underlying t = some (.map k e))
    (h : ∀ b w', b = w.heap.size → w'.heap.size = w.heap.size + 1 → MapSI P k e w' b 0 (fun _ => none) → Ext w w' → L P nn ops Q rest (putO fr d (.map (some b))) w') :
    L P nn ops Q (⟨d, .makeMap t (some z), ty, pos, aft, g⟩ :: rest) fr w := by
  refine L.val (w' := w.alloc (.map #[] 0)) (v := .map (some w.heap.size)) hg ?_ (h w.heap.size _ rfl (by simp) (MapSI.made P k e w) (Ext.alloc _ _))
  simp [execOp, hz, Instr.makeMap, run_underlying ht, asInt, asIntOf, Result.andThen]
theorem X.look {f : Operand → Value} {x y : Operand} {F : ByteArray → Option Int} {b n : Nat} {s : ByteArray} (hx : f x = .map (some b)) (hy : f y = .string s) (h : MapSI P k e w b n F) (ht : P.underlying t = some (.map k e)) (hk : P.underlying k = some .string) (he : P.underlying e = some (.int .i64)) (hz : (zeroValue e).run P w = .ok (.int .i64 0) w) (hs : s.size ≤ maxLen) :
    (execOp f ⟨d, .lookup t x y true, ty, pos, aft, g⟩).run P w = .ok (.value (.tuple #[.int .i64 ((F s).getD 0), .bool (F s).isSome])) w := by
  simp [execOp, hx, hy, h.look ht hk he hz hs, Result.andThen]
theorem L.mapPut {x y z : Operand} {F : ByteArray → Option Int} {b n : Nat} {s : ByteArray} {v : Int} (hg : wn ops fr g = true) (hx : ev fr x = .map (some b)) (hy : ev fr y = .string s) (hv : ev fr z = .int .i64 v) (h : MapSI P k e w b n F) (ht : P.underlying t = some (.map k e)) (hk : P.underlying k = some .string) (he : P.underlying e = some (.int .i64)) (hn : n < maxLen) (hs : s.size ≤ maxLen) (hw : (Lit.int .i64 v).wf = true)
    (hK : ∀ w', MapSI P k e w' b (n + 1) (fun x => if x = s then some v else F x) → w.grownBy w' (some b) → L P nn ops Q rest (putO fr d undef) w') :
    L P nn ops Q (⟨d, .mapUpdate t x y z, ty, pos, aft, g⟩ :: rest) fr w := by
  obtain ⟨w', hrun, r1, r2⟩ := h.put ht hk he hn hs hw
  refine L.skip hg ?_ (hK w' r1 r2)
  simp [execOp, hx, hy, hv, hrun, Result.andThen]
end
end H
namespace H
theorem Ld.flat2 {X : Type} {f : X → List Value} {sz B n : Nat} {A : Option Addr} {w : World} {l : List X} (hf : ∀ x, (f x).length = sz) (h : Reads w B sz A n (l.flatMap f)) {i : Nat} {x : X} (hi : l[i]? = some x) {r : Nat} {u : Value} (hu : (f x)[r]? = some u) : Ld w (pA A (i * sz + r)) u := by
  have h2 := flat_row hf hi r u hu
  have hj : i * sz + r < n * sz := by rw [← h.1]; exact (List.getElem?_eq_some_iff.1 h2).1
  have h1 := Ld.rd h hj
  rw [List.getD, h2] at h1
  exact h1
end H
theorem own_apart {w : World} {b1 b2 e1 e2 s1 s2 n1 n2 g : Nat} {v1 v2 : Value} {x1 x2 : List Value} (h1 : w.ownsRow b1 e1 s1 v1 n1 x1) (h2 : w.ownsRow b2 e2 s2 v2 n2 x2) (hne : e1 ≠ e2) (hg : v1.ownBlock = some g) : v2.ownBlock ≠ some g := by
  intro hg2
  rcases h1.2 with ⟨rfl, _⟩ | ⟨b, cap, cur, rfl, _, hh, _⟩
  · cases hg
  · rcases h2.2 with ⟨rfl, _⟩ | ⟨b', cap', cur', rfl, _, hh', _⟩
    · cases hg2
    · have a1 : b = g := by injection hg
      have a2 : b' = g := by injection hg2
      subst a1
      subst a2
      have e := hh.symm.trans hh'
      injection e with e
      injection e with _ e _
      exact hne e
theorem own_or {w : World} {b1 b2 e1 e2 s1 s2 n1 n2 : Nat} {v1 v2 : Value} {x1 x2 : List Value} (h1 : w.ownsRow b1 e1 s1 v1 n1 x1) (h2 : w.ownsRow b2 e2 s2 v2 n2 x2) (hne : e1 ≠ e2) : v1.ownBlock = none ∨ v1.ownBlock ≠ v2.ownBlock := by
  cases h : v1.ownBlock with
  | none => exact .inl rfl
  | some g => exact .inr (fun e => own_apart h1 h2 hne h e.symm)
end Go.Proofs.YtpomklkfedpkfaaGreat
namespace Go.Proofs.YtpomklkfedpkfaaGreat
namespace Flo
open Ieee
def rg (x : Nat) : Nat := x % 9223372036854775808
def sg (x : Nat) : Bool := x / 9223372036854775808 % 2 == 1
def inf : Nat := 9218868437227405312
def mg (r : Nat) : Nat := if r < 4503599627370496 then r else 4503599627370496 + r % 4503599627370496
def ex (r : Nat) : Nat := if r < 4503599627370496 then 0 else r / 4503599627370496 - 1
def V (r : Nat) : Nat := mg r * 2 ^ ex r
theorem signW : double.signWeight = 9223372036854775808 := by decide
theorem binW : double.binade = 4503599627370496 := by decide
theorem infW : double.infRung = inf := by decide
theorem leastW : double.leastPlace = -1074 := by decide
theorem read_fin {x : Nat} (h : rg x < inf) : double.read x = .number (sg x) (mg (rg x)) (-1074 + (ex (rg x) : Int)) := by
  unfold Format.read
  rw [signW, binW, infW, leastW]
  show (if rg x < 4503599627370496 then Datum.number (sg x) (rg x) (-1074) else if rg x < inf then Datum.number (sg x) (4503599627370496 + rg x % 4503599627370496) (-1074 + (rg x / 4503599627370496 - 1 : Nat)) else _) = _
  unfold mg ex
  by_cases h1 : rg x < 4503599627370496
  · rw [if_pos h1, if_pos h1, if_pos h1]; rfl
  · rw [if_neg h1, if_pos h, if_neg h1, if_neg h1]
theorem read_inf {x : Nat} (h : rg x = inf) : double.read x = .infinity (sg x) := by
  unfold Format.read
  rw [signW, binW, infW, leastW]
  show (if rg x < 4503599627370496 then Datum.number (sg x) (rg x) (-1074) else if rg x < inf then Datum.number (sg x) (4503599627370496 + rg x % 4503599627370496) (-1074 + (rg x / 4503599627370496 - 1 : Nat)) else if rg x = inf then Datum.infinity (sg x) else _) = _
  rw [h, if_neg (by decide), if_neg (by decide), if_pos rfl]
theorem read_nan {x : Nat} (h : inf < rg x) : double.read x = .nan (sg x) (rg x - inf) := by
  unfold Format.read
  rw [signW, binW, infW, leastW]
  show (if rg x < 4503599627370496 then Datum.number (sg x) (rg x) (-1074) else if rg x < inf then Datum.number (sg x) (4503599627370496 + rg x % 4503599627370496) (-1074 + (rg x / 4503599627370496 - 1 : Nat)) else if rg x = inf then Datum.infinity (sg x) else Datum.nan (sg x) (rg x - inf)) = _
  rw [if_neg (by unfold inf at h; omega), if_neg (by omega), if_neg (by omega)]
theorem V_succ (r : Nat) : V r < V (r + 1) := by
  unfold V mg ex
  by_cases h0 : r + 1 < 4503599627370496
  · rw [if_pos (by omega), if_pos (by omega), if_pos h0, if_pos h0]; omega
  by_cases h1 : r < 4503599627370496
  · have e : r = 4503599627370495 := by omega
    subst e
    decide
  rw [if_neg h1, if_neg h1, if_neg h0, if_neg h0]
  by_cases h2 : r % 4503599627370496 = 4503599627370495
  · have e1 : (r + 1) % 4503599627370496 = 0 := by omega
    have e2 : (r + 1) / 4503599627370496 - 1 = (r / 4503599627370496 - 1) + 1 := by omega
    rw [e1, e2, h2, Nat.pow_succ]
    have hp : 0 < 2 ^ (r / 4503599627370496 - 1) := Nat.two_pow_pos _
    generalize 2 ^ (r / 4503599627370496 - 1) = p at *
    omega
  · have e1 : (r + 1) % 4503599627370496 = r % 4503599627370496 + 1 := by omega
    have e2 : (r + 1) / 4503599627370496 = r / 4503599627370496 := by omega
    rw [e1, e2]
    exact Nat.mul_lt_mul_of_pos_right (by omega) (Nat.two_pow_pos _)
theorem V_lt {r s : Nat} (h : r < s) : V r < V s := by
  obtain ⟨k, rfl⟩ : ∃ k, s = r + 1 + k := ⟨s - r - 1, by omega⟩
  clear h
  induction k with
  | zero => exact V_succ r
  | succ k ih => exact Nat.lt_trans ih (V_succ _)
theorem V_inj {r s : Nat} (h : V r = V s) : r = s := by
  rcases Nat.lt_trichotomy r s with h1 | h1 | h1
  · have := V_lt h1; omega
  · exact h1
  · have := V_lt h1; omega
theorem V_lt_iff {r s : Nat} : V r < V s ↔ r < s := by
  constructor
  · intro h
    rcases Nat.lt_trichotomy r s with h1 | h1 | h1
    · exact h1
    · subst h1; omega
    · have := V_lt h1; omega
  · exact V_lt
theorem V_zero : V 0 = 0 := by decide
def od (x : Nat) : Int := if sg x then -(rg x : Int) else rg x
def odV (x : Nat) : Int := if sg x then -(V (rg x) : Int) else V (rg x)
theorem signed_scale (s : Bool) (m : Nat) (i b : Int) (e : Nat) (k : Nat) (hi : i = -1074 + (e : Int)) (hb : b = -1074 + (k : Int)) (hle : k ≤ e) : signed s m (i - b).toNat * 2 ^ k = if s then -((m * 2 ^ e : Nat) : Int) else ((m * 2 ^ e : Nat) : Int) := by
  have e1 : (i - b).toNat = e - k := by omega
  have e2 : m * 2 ^ e = m <<< (e - k) * 2 ^ k := by
    rw [Nat.shiftLeft_eq, Nat.mul_assoc, ← Nat.pow_add]
    congr 2
    omega
  rw [e1, e2]
  unfold signed
  cases s
  · simp
  · simp [Int.neg_mul]
theorem compare_scale {a b p : Int} (hp : 0 < p) : compare (a * p) (b * p) = compare a b := by
  simp only [compare, compareOfLessAndEq]
  have h1 : a * p < b * p ↔ a < b := ⟨fun h => by
    rcases Int.lt_or_le a b with h2 | h2
    · exact h2
    · have := Int.mul_le_mul_of_nonneg_right h2 (Int.le_of_lt hp); omega, fun h => Int.mul_lt_mul_of_pos_right h hp⟩
  have h2 : a * p = b * p ↔ a = b := ⟨fun h => Int.eq_of_mul_eq_mul_right (by omega) h, fun h => by rw [h]⟩
  simp only [h1, h2]
theorem order_fin {x y : Nat} (hx : rg x < inf) (hy : rg y < inf) : double.order x y = some (compare (odV x) (odV y)) := by
  unfold Format.order
  rw [read_fin hx, read_fin hy]
  simp only [Datum.order]
  congr 1
  generalize hb : min (-1074 + (ex (rg x) : Int)) (-1074 + (ex (rg y) : Int)) = b
  obtain ⟨k, hk⟩ : ∃ k : Nat, b = -1074 + (k : Int) := ⟨(b + 1074).toNat, by omega⟩
  have s1 := signed_scale (sg x) (mg (rg x)) _ b (ex (rg x)) k rfl hk (by omega)
  have s2 := signed_scale (sg y) (mg (rg y)) _ b (ex (rg y)) k rfl hk (by omega)
  have hp : (0 : Int) < 2 ^ k := Int.pow_pos (by decide)
  rw [← compare_scale hp, s1, s2]
  rfl
theorem cmp_lt {a b : Int} (h : a < b) : compare a b = .lt := by simp only [compare, compareOfLessAndEq]; rw [if_pos h]
theorem cmp_eq (a : Int) : compare a a = .eq := by simp [compare, compareOfLessAndEq]
theorem cmp_gt {a b : Int} (h : b < a) : compare a b = .gt := by simp only [compare, compareOfLessAndEq]; rw [if_neg (by omega), if_neg (by omega)]
theorem cmp_eq_iff {a b : Int} : compare a b = .eq ↔ a = b := by
  rcases Int.lt_trichotomy a b with h | h | h
  · rw [cmp_lt h]; simp; omega
  · rw [h, cmp_eq]; simp
  · rw [cmp_gt h]; simp; omega
theorem cmp_lt_iff {a b : Int} : compare a b = .lt ↔ a < b := by
  rcases Int.lt_trichotomy a b with h | h | h
  · rw [cmp_lt h]; simp; omega
  · rw [h, cmp_eq]; simp
  · rw [cmp_gt h]; simp; omega
theorem odV_cmp (x y : Nat) : compare (odV x) (odV y) = compare (od x) (od y) := by
  have key : ∀ a b : Nat, (V a < V b ↔ a < b) ∧ (V a = V b ↔ a = b) := fun a b => ⟨V_lt_iff, ⟨V_inj, fun h => by rw [h]⟩⟩
  have h1 : odV x < odV y ↔ od x < od y := by
    unfold odV od
    have k1 := key (rg x) (rg y)
    have k2 := key (rg y) (rg x)
    have k3 := key 0 (rg x)
    have k4 := key 0 (rg y)
    rw [V_zero] at k3 k4
    cases sg x <;> cases sg y <;> simp only [if_true, if_false, Bool.false_eq_true] <;> omega
  have h2 : odV x = odV y ↔ od x = od y := by
    unfold odV od
    have k1 := key (rg x) (rg y)
    have k3 := key 0 (rg x)
    have k4 := key 0 (rg y)
    rw [V_zero] at k3 k4
    cases sg x <;> cases sg y <;> simp only [if_true, if_false, Bool.false_eq_true] <;> omega
  simp only [compare, compareOfLessAndEq, h1, h2]
theorem order_is {x y : Nat} (hx : rg x ≤ inf) (hy : rg y ≤ inf) : double.order x y = some (compare (od x) (od y)) := by
  rcases Nat.lt_or_eq_of_le hx with h1 | h1 <;> rcases Nat.lt_or_eq_of_le hy with h2 | h2
  · rw [order_fin h1 h2, odV_cmp]
  · unfold Format.order
    rw [read_fin h1, read_inf h2]
    simp only [Datum.order]
    congr 1
    have hi : 0 < inf := by decide
    unfold od
    rw [h2]
    cases sg y
    · rw [cmp_lt]; · rfl
      cases sg x <;> simp <;> omega
    · rw [cmp_gt]; · rfl
      cases sg x <;> simp <;> omega
  · unfold Format.order
    rw [read_fin h2, read_inf h1]
    simp only [Datum.order]
    congr 1
    have hi : 0 < inf := by decide
    unfold od
    rw [h1]
    cases sg x
    · rw [cmp_gt]; · rfl
      cases sg y <;> simp <;> omega
    · rw [cmp_lt]; · rfl
      cases sg y <;> simp <;> omega
  · unfold Format.order
    rw [read_inf h1, read_inf h2]
    simp only [Datum.order]
    congr 1
    have hi : 0 < inf := by decide
    unfold od
    rw [h1, h2]
    cases sg x <;> cases sg y <;> decide
theorem order_nan {x y : Nat} (h : inf < rg x ∨ inf < rg y) : double.order x y = none := by
  unfold Format.order
  rcases h with h | h
  · rw [read_nan h]; cases double.read y <;> rfl
  · rw [read_nan h]; cases double.read x <;> rfl
theorem rg_lt (x : Nat) : rg x < 9223372036854775808 := Nat.mod_lt _ (by decide)
end Flo
end Go.Proofs.YtpomklkfedpkfaaGreat
namespace Go.Proofs.YtpomklkfedpkfaaGreat
set_option maxRecDepth 100000
open Go.RowKit H
open Ieee
set_option linter.unusedVariables false
namespace Flo
def nanF (x : Nat) : Prop := inf < rg x
instance (x : Nat) : Decidable (nanF x) := Nat.decLt _ _
def eqF (a b : Nat) : Prop := ¬ nanF a ∧ ¬ nanF b ∧ od a = od b
instance (a b : Nat) : Decidable (eqF a b) := by unfold eqF; infer_instance
def ltF (a b : Nat) : Prop := ¬ nanF a ∧ ¬ nanF b ∧ od a < od b
instance (a b : Nat) : Decidable (ltF a b) := by unfold ltF; infer_instance
theorem ord_cases (a b : Nat) : (double.order a b = none ∧ (nanF a ∨ nanF b)) ∨ (double.order a b = some (compare (od a) (od b)) ∧ ¬ nanF a ∧ ¬ nanF b) := by
  by_cases h : nanF a ∨ nanF b
  · exact .inl ⟨order_nan h, h⟩
  · have h1 : ¬ nanF a := fun k => h (.inl k)
    have h2 : ¬ nanF b := fun k => h (.inr k)
    exact .inr ⟨order_is (Nat.not_lt.1 h1) (Nat.not_lt.1 h2), h1, h2⟩
theorem ord_eq (a b : Nat) : (FloatKind.f64.format.order a b == some .eq) = decide (eqF a b) := by
  show (double.order a b == some .eq) = _
  rcases ord_cases a b with ⟨h, k⟩ | ⟨h, k1, k2⟩
  · rw [h, decide_eq_false (fun hh : eqF a b => k.elim hh.1 hh.2.1)]; rfl
  · rw [h]
    by_cases he : od a = od b
    · rw [decide_eq_true (show eqF a b from ⟨k1, k2, he⟩), he, cmp_eq]; rfl
    · rw [decide_eq_false (fun hh : eqF a b => he hh.2.2)]
      cases hc : compare (od a) (od b) with
      | eq => exact absurd (cmp_eq_iff.1 hc) he
      | lt => rfl
      | gt => rfl
theorem ord_lt (a b : Nat) : (FloatKind.f64.format.order a b == some .lt) = decide (ltF a b) := by
  show (double.order a b == some .lt) = _
  rcases ord_cases a b with ⟨h, k⟩ | ⟨h, k1, k2⟩
  · rw [h, decide_eq_false (fun hh : ltF a b => k.elim hh.1 hh.2.1)]; rfl
  · rw [h]
    by_cases he : od a < od b
    · rw [decide_eq_true (show ltF a b from ⟨k1, k2, he⟩), cmp_lt he]; rfl
    · rw [decide_eq_false (fun hh : ltF a b => he hh.2.2)]
      cases hc : compare (od a) (od b) with
      | lt => exact absurd (cmp_lt_iff.1 hc) he
      | eq => rfl
      | gt => rfl
theorem signed_0 (s : Bool) (m : Nat) : signed s m 0 + signed (!s) m 0 = 0 := by
  unfold signed
  cases s <;> simp <;> omega
theorem sub_self {x : Nat} (h : rg x < inf) : double.sub x x = some 0 := by
  unfold Format.sub
  rw [read_fin h]
  simp only [Datum.opposite, Datum.sum, Int.min_self, Int.sub_self, Int.toNat_zero, signed_0]
  have hs : (sg x && !sg x) = false := by cases sg x <;> rfl
  simp only [if_true, hs, Int.natAbs_zero, Option.map_some, Format.write, Format.nearest]
  rfl
theorem sub_inf {x : Nat} (h : rg x = inf) : double.sub x x = none := by
  unfold Format.sub
  rw [read_inf h]
  have : sg x ≠ !sg x := by cases sg x <;> simp
  simp only [Datum.opposite, Datum.sum, if_neg this, Option.map_none]
theorem cut_nan (x y t : Nat) : nanF (Question.cut (.nanBits .f64 x y) t) := by
  show inf < ((t % 2) * 2 ^ 63 + 0x7ff0000000000000 + 1 + (t / 2) % (2 ^ 52 - 1)) % 9223372036854775808
  have h1 : t % 2 < 2 := Nat.mod_lt _ (by decide)
  have h2 : (t / 2) % (2 ^ 52 - 1) < 2 ^ 52 - 1 := Nat.mod_lt _ (by decide)
  have hi : inf = 9218868437227405312 := rfl
  generalize (t / 2) % (2 ^ 52 - 1) = r at h2 ⊢
  generalize t % 2 = c at h1 ⊢
  omega
end Flo
open Flo
namespace H
section
variable {P : Program} {n : Nat} {ops rest : List Oper} {Q : Exit → Fr → World → Prop} {f : Fr} {w w' : World} {o : Oper} {v : Value} {ρ : Operand → Value} {d : Option Tmp} {tx tz ty : TypeId} {x y : Operand} {pos : String} {aft : Array Edge} {g : Option (Nat × Bool)} {a b : Nat}
theorem X.eqlF (hx : ρ x = .float .f64 a) (hy : ρ y = .float .f64 b) : (execOp ρ ⟨d, .binOp .eql tx x y tz, ty, pos, aft, g⟩).run P w = .ok (.value (.bool (decide (eqF a b)))) w :=
  X.bin hx hy (by simp [go_sem]) (by rw [binOp_float_cmp_eql, ord_eq]; rfl)
theorem X.neqF (hx : ρ x = .float .f64 a) (hy : ρ y = .float .f64 b) : (execOp ρ ⟨d, .binOp .neq tx x y tz, ty, pos, aft, g⟩).run P w = .ok (.value (.bool (!decide (eqF a b)))) w :=
  X.bin hx hy (by simp [go_sem]) (by rw [binOp_float_cmp_neq, ← ord_eq]; rfl)
theorem X.lssF (hx : ρ x = .float .f64 a) (hy : ρ y = .float .f64 b) : (execOp ρ ⟨d, .binOp .lss tx x y tz, ty, pos, aft, g⟩).run P w = .ok (.value (.bool (decide (ltF a b)))) w :=
  X.bin hx hy (by simp [go_sem]) (by rw [binOp_float_cmp_lss, ord_lt]; rfl)
theorem X.subF {r : Nat} (hx : ρ x = .float .f64 a) (hy : ρ y = .float .f64 b) (h : double.sub a b = some r) : (execOp ρ ⟨d, .binOp .sub tx x y tz, ty, pos, aft, g⟩).run P w = .ok (.value (.float .f64 r)) w :=
  X.bin hx hy (by simp [go_sem]) (run_float_arith _ .sub tx .f64 a b r h)
theorem X.quoF {r : Nat} (hx : ρ x = .float .f64 a) (hy : ρ y = .float .f64 b) (h : double.div a b = some r) : (execOp ρ ⟨d, .binOp .quo tx x y tz, ty, pos, aft, g⟩).run P w = .ok (.value (.float .f64 r)) w :=
  X.bin hx hy (by simp [go_sem]) (run_float_arith _ .quo tx .f64 a b r h)
theorem L.subNan {k : Nat} (hg : wn ops f g = true) (hx : ev f x = .float .f64 a) (hy : ev f y = .float .f64 b) (hn : double.sub a b = none)
    (h : ∀ c w', nanF c → Ext w w' → L P n ops Q rest (lk [(k, .float .f64 c)] f) w') : L P n ops Q (⟨some k, .binOp .sub tx x y tz, ty, pos, aft, g⟩ :: rest) f w := by
  refine L.val (w' := w.drew) (v := .float .f64 (Question.cut (.nanBits .f64 a b) (w.tape w.drawn (.nanBits .f64 a b)))) hg ?_ (h _ _ (cut_nan _ _ _) (Ext.drew w))
  have hn' : FloatKind.f64.format.sub a b = none := hn
  simp [execOp, hx, hy, go_sem, binOp, Op.floatArith, hn', Question.forced]
theorem X.xtrn {c : FuncId} {fn : Func} {e : Array Value → Sem Value} {l : List Operand} {ts : Array TypeId} {vs : List Value} (hf : P.funcs[c]? = some fn) (hname : (fn.name == "runtime.NumGoroutine") = false) (hb : fn.body.isNone = true) (hn : Extern.findNext fn = none) (he : Extern.find fn = some e)
    (hfn : ρ (.func c) = .func (.func c) #[] #[]) (hv : l.map ρ = vs) (hr : (e vs.toArray).run P w = .ok v w) : (execOp ρ ⟨d, .call { callee := .value (.func c), args := l.toArray, argTypes := ts }, ty, pos, aft, g⟩).run P w = .ok (.value v) w := by
  subst hv
  simp only [execOp, resolve, hfn, Deferred.ofValue, Sem.run_bind, Sem.run_pure, Result.andThen_ok, Go.invoke, List.map_toArray, Array.append_empty, Array.empty_append, run_callFunc_extern hf hname hb hn he, hr]
end
end H
end Go.Proofs.YtpomklkfedpkfaaGreat
namespace Go.Proofs.YtpomklkfedpkfaaGreat
set_option maxRecDepth 100000
open Go.RowKit H
open Flo
set_option linter.unusedVariables false
namespace Flo
theorem eqF_self (x : Nat) : eqF x x ↔ ¬ nanF x := ⟨fun h => h.1, fun h => ⟨h, h, rfl⟩⟩
theorem od_z : od 0 = 0 := by decide
theorem nan0 : ¬ nanF 0 := by decide
theorem eq_0 (x : Nat) : eqF x 0 ↔ ¬ nanF x ∧ rg x = 0 := by
  unfold eqF
  rw [od_z]
  constructor
  · rintro ⟨h1, _, h3⟩
    refine ⟨h1, ?_⟩
    unfold od at h3
    split at h3 <;> omega
  · rintro ⟨h1, h2⟩
    refine ⟨h1, nan0, ?_⟩
    unfold od
    rw [h2]
    split <;> rfl
theorem lt_0 (x : Nat) : ltF x 0 ↔ ¬ nanF x ∧ sg x = true ∧ 0 < rg x := by
  unfold ltF
  rw [od_z]
  constructor
  · rintro ⟨h1, _, h3⟩
    unfold od at h3
    split at h3
    · rename_i hs; exact ⟨h1, hs, by omega⟩
    · omega
  · rintro ⟨h1, h2, h3⟩
    refine ⟨h1, nan0, ?_⟩
    unfold od
    rw [if_pos h2]
    omega
theorem split_w {x : Nat} (h : x < 18446744073709551616) : x = (if sg x then 9223372036854775808 else 0) + rg x := by
  unfold sg rg
  have : x / 9223372036854775808 % 2 = x / 9223372036854775808 := Nat.mod_eq_of_lt (by omega)
  rw [this]
  by_cases hs : x / 9223372036854775808 = 1
  · rw [hs]; simp; omega
  · have : x / 9223372036854775808 = 0 := by omega
    rw [this]; simp; omega
def kindF (x : Nat) : Int := if nanF x then 3 else if rg x = 0 then 0 else if rg x = inf then 2 else 1
theorem kind3 (x : Nat) : kindF x = 3 ↔ nanF x := by
  unfold kindF
  split
  · rename_i h; simp [h]
  · rename_i h
    constructor
    · intro k; split at k <;> (try split at k) <;> simp at k
    · intro k; exact absurd k h
def belowF (x : Nat) : Bool := decide (¬ nanF x) && sg x
def keyF (x : Nat) : Int := if nanF x then 18446744073709551615 else if sg x then 9223372036854775807 - (rg x : Int) else 9223372036854775808 + (rg x : Int)
def sameF (a b : Nat) : Bool := decide (keyF a = keyF b)
theorem keyF_bd (x : Nat) : 0 ≤ keyF x ∧ keyF x ≤ 18446744073709551615 := by
  have h := rg_lt x
  unfold keyF
  split
  · decide
  · split <;> omega
theorem same_nan {a b : Nat} (h : nanF a ∨ nanF b) : sameF a b = decide (kindF a = kindF b) := by
  have hi : inf = 9218868437227405312 := rfl
  have ha := rg_lt a
  have hb := rg_lt b
  unfold sameF keyF kindF
  have key : ∀ x : Nat, ¬ nanF x → (if sg x = true then 9223372036854775807 - (rg x : Int) else 9223372036854775808 + (rg x : Int)) < 18446744073709551615 := fun x hx => by have hx : rg x ≤ inf := Nat.not_lt.1 hx; split <;> omega
  have kin : ∀ x : Nat, (if rg x = 0 then (0 : Int) else if rg x = inf then 2 else 1) < 3 := fun x => by split <;> (try split) <;> decide
  by_cases h1 : nanF a
  · by_cases h2 : nanF b
    · rw [if_pos h1, if_pos h2, if_pos h1, if_pos h2]; rfl
    · have k1 := key b h2
      have k2 := kin b
      rw [if_pos h1, if_neg h2, if_pos h1, if_neg h2, decide_eq_false (by omega), decide_eq_false (by omega)]
  · have h2 : nanF b := h.resolve_left h1
    have k1 := key a h1
    have k2 := kin a
    rw [if_neg h1, if_pos h2, if_neg h1, if_pos h2, decide_eq_false (by omega), decide_eq_false (by omega)]
theorem same_num {a b : Nat} (h1 : ¬ nanF a) (h2 : ¬ nanF b) : sameF a b = (decide (eqF a b) && (belowF a == belowF b)) := by
  have ha := rg_lt a
  have hb := rg_lt b
  rw [Bool.eq_iff_iff]
  unfold sameF keyF belowF
  rw [if_neg h1, if_neg h2, decide_eq_true_iff, Bool.and_eq_true, decide_eq_true_iff, decide_eq_true h1, decide_eq_true h2]
  unfold eqF od
  cases hs : sg a <;> cases ht : sg b <;> simp [h1, h2] <;> omega
end Flo
namespace H
theorem X.andE {P : Program} {w : World} {ρ : Operand → Value} {d : Option Tmp} {tx tz ty : TypeId} {x y : Operand} {pos : String} {aft : Array Edge} {g : Option (Nat × Bool)} {k : IntKind} {m n z : Int} (hx : ρ x = .int k m) (hy : ρ y = .int k n) (h : bits .and k m n = z) : (execOp ρ ⟨d, .binOp .and tx x y tz, ty, pos, aft, g⟩).run P w = .ok (.value (.int k z)) w := by
  rw [← h]; exact X.and hx hy
end H
theorem and_63 {x : Nat} (hx : x < 18446744073709551616) : bits .and .u64 (x : Int) 9223372036854775807 = (rg x : Int) := by
  have h := bits_and_u64_nat x 9223372036854775807 hx (by decide)
  rw [show ((9223372036854775807 : Nat) : Int) = 9223372036854775807 from rfl] at h
  rw [h]
  exact congrArg Nat.cast (Nat.and_two_pow_sub_one_eq_mod x 63)
theorem shr_63 {x : Nat} (hx : x < 18446744073709551616) : (x : Int) / 2 ^ min ((63 : Int)).toNat IntKind.u64.bits = 1 ↔ sg x = true := by
  have e : (2 : Int) ^ min ((63 : Int)).toNat IntKind.u64.bits = 9223372036854775808 := by decide
  rw [e]
  unfold sg
  rw [beq_iff_eq]
  omega
theorem flo_key (x : Nat) (w : World) (hx : x < 18446744073709551616) : Calls Tryz.prog 77 #[.float .f64 x] w fun e w' => e = .returned (.int .u64 (keyF x)) ∧ w = w' := by
 have hsp := split_w hx
 have hrg := rg_lt x
 refine enter Tryz.func77 rfl (by kernel_rfl) ?_
 refine J.seq ?_
 refine J.region ?_
 refine L.va rfl (X.assign (by conv => lhs; whnf)) ?_
 refine L.nil ?_
 iterate 2 refine J.seq ?_
 refine J.region ?_
 iterate 2 refine L.va rfl (X.move (by conv => lhs; whnf)) ?_
 refine L.va rfl (X.neqF rfl rfl) ?_
 refine L.nil ?_
 refine J.ndec rfl (fun hn => ?_) (fun hn => ?_)
 ·rw [eqF_self] at hn
  have e : keyF x = 18446744073709551615 := by unfold keyF; rw [if_pos (Decidable.not_not.1 hn)]
  rw [e]
  refine J.seq ?_
  refine J.region ?_
  refine L.va rfl (X.assign (by conv => lhs; whnf)) ?_
  refine L.nil ?_
  refine J.ret ?_
  refine thn_ret <| ?_
  refine fin1 ?_
  exact ⟨rfl, rfl⟩
 ·rw [eqF_self] at hn
  have e : keyF x = if sg x then 9223372036854775807 - (rg x : Int) else 9223372036854775808 + (rg x : Int) := by unfold keyF; rw [if_neg hn]
  rw [e]
  refine J.skip ?_
  refine J.seq ?_
  refine J.region ?_
  refine L.va rfl (X.move (by conv => lhs; whnf)) ?_
  refine L.va rfl (X.xtrn (e := Go.Extern.MathFloatBits.float64bits) (v := .int .u64 (x : Int)) Tryz.func99 (by kernel_rfl) (by kernel_rfl) (by kernel_rfl) (by kernel_rfl) rfl rfl (by rfl)) ?_
  refine L.va rfl (X.assign (by conv => lhs; whnf)) ?_
  refine L.nil ?_
  iterate 2 refine J.seq ?_
  refine J.region ?_
  refine L.va rfl (X.move (by conv => lhs; whnf)) ?_
  refine L.va rfl (X.shr rfl rfl (by omega)) ?_
  refine L.va rfl (X.eql rfl rfl) ?_
  refine L.nil ?_
  refine J.dec rfl (fun hs => ?_) (fun hs => ?_)
  ·rw [if_pos ((shr_63 hx).1 hs)]
   refine J.seq ?_
   refine J.region ?_
   refine L.va rfl (X.move (by conv => lhs; whnf)) ?_
   refine L.va rfl (X.andE rfl rfl (and_63 hx)) ?_
   refine L.va rfl (X.subU rfl rfl (by omega)) ?_
   refine L.va rfl (X.assign (by conv => lhs; whnf)) ?_
   refine L.nil ?_
   refine J.ret ?_
   refine thn_ret <| ?_
   refine fin1 ?_
   exact ⟨rfl, rfl⟩
  ·have hs : ¬ sg x = true := fun h => hs ((shr_63 hx).2 h)
   rw [if_neg hs]
   rw [if_neg hs] at hsp
   have ex : (x : Int) = (rg x : Int) := by omega
   refine J.skip ?_
   refine J.seq ?_
   refine J.region ?_
   refine L.va rfl (X.move (by conv => lhs; whnf)) ?_
   refine L.va rfl (X.addU rfl rfl (by omega)) ?_
   refine L.va rfl (X.assign (by conv => lhs; whnf)) ?_
   refine L.nil ?_
   refine J.ret ?_
   refine fin1 ?_
   exact ⟨by rw [← ex]; rfl, rfl⟩
theorem kind03 (x : Nat) (w : World) : Calls Tryz.prog 70 #[.float .f64 x] w fun e w' => e = .returned (.int .i64 (kindF x)) ∧ Ext w w' := by
 refine enter Tryz.func70 rfl (by kernel_rfl) ?_
 refine J.seq ?_
 refine J.region ?_
 refine L.va rfl (X.assign (by conv => lhs; whnf)) ?_
 refine L.nil ?_
 iterate 2 refine J.seq ?_
 refine J.region ?_
 iterate 2 refine L.va rfl (X.move (by conv => lhs; whnf)) ?_
 refine L.va rfl (X.neqF rfl rfl) ?_
 refine L.nil ?_
 refine J.ndec rfl (fun h1 => ?_) (fun h1 => ?_)
 ·rw [eqF_self] at h1
  have e : kindF x = 3 := by unfold kindF; rw [if_pos (Decidable.not_not.1 h1)]
  rw [e]
  refine J.seq ?_
  refine J.region ?_
  refine L.va rfl (X.assign (by conv => lhs; whnf)) ?_
  refine L.nil ?_
  refine J.ret ?_
  refine thn_ret <| ?_
  refine fin1 ?_
  exact ⟨rfl, Ext.refl _⟩
 ·rw [eqF_self] at h1
  have hle : rg x ≤ inf := Nat.not_lt.1 h1
  refine J.skip ?_
  iterate 2 refine J.seq ?_
  refine J.region ?_
  refine L.va rfl (X.move (by conv => lhs; whnf)) ?_
  refine L.va rfl (X.eqlF rfl rfl) ?_
  refine L.nil ?_
  refine J.dec rfl (fun h2 => ?_) (fun h2 => ?_)
  ·rw [eq_0] at h2
   have e : kindF x = 0 := by unfold kindF; rw [if_neg h1, if_pos h2.2]
   rw [e]
   refine J.seq ?_
   refine J.region ?_
   refine L.va rfl (X.assign (by conv => lhs; whnf)) ?_
   refine L.nil ?_
   refine J.ret ?_
   refine thn_ret <| ?_
   refine fin1 ?_
   exact ⟨rfl, Ext.refl _⟩
  ·rw [eq_0] at h2
   have h2' : rg x ≠ 0 := fun h => h2 ⟨h1, h⟩
   by_cases h3 : rg x = inf
   ·have e : kindF x = 2 := by unfold kindF; rw [if_neg h1, if_neg h2', if_pos h3]
    rw [e]
    refine J.skip ?_
    iterate 2 refine J.seq ?_
    refine J.region ?_
    iterate 2 refine L.va rfl (X.move (by conv => lhs; whnf)) ?_
    refine L.subNan rfl rfl rfl (sub_inf h3) ?_
    intro c w1 hc he1
    refine L.va rfl (X.neqF rfl rfl) ?_
    refine L.nil ?_
    refine J.ndecT rfl (by exact fun h => h.1 hc) ?_
    refine J.seq ?_
    refine J.region ?_
    refine L.va rfl (X.assign (by conv => lhs; whnf)) ?_
    refine L.nil ?_
    refine J.ret ?_
    refine thn_ret <| ?_
    refine fin1 ?_
    exact ⟨rfl, he1⟩
   ·have e : kindF x = 1 := by unfold kindF; rw [if_neg h1, if_neg h2', if_neg h3]
    rw [e]
    refine J.skip ?_
    iterate 2 refine J.seq ?_
    refine J.region ?_
    iterate 2 refine L.va rfl (X.move (by conv => lhs; whnf)) ?_
    refine L.va rfl (X.subF rfl rfl (sub_self (by omega))) ?_
    refine L.va rfl (X.neqF rfl rfl) ?_
    refine L.nil ?_
    refine J.ndecF rfl (by exact (eq_0 0).2 ⟨nan0, by decide⟩) ?_
    refine J.skip ?_
    refine J.seq ?_
    refine J.region ?_
    refine L.va rfl (X.assign (by conv => lhs; whnf)) ?_
    refine L.nil ?_
    refine J.ret ?_
    refine fin1 ?_
    exact ⟨rfl, Ext.refl _⟩
theorem below03 (x : Nat) (w : World) (hx : x < 18446744073709551616) : Calls Tryz.prog 71 #[.float .f64 x] w fun e w' => e = .returned (.bool (belowF x)) ∧ w = w' := by
 have hsp := split_w hx
 refine enter Tryz.func71 rfl (by kernel_rfl) ?_
 refine J.seq ?_
 refine J.region ?_
 refine L.va rfl (X.assign (by conv => lhs; whnf)) ?_
 refine L.nil ?_
 refine J.seq ?_
 refine J.region ?_
 refine L.va rfl (X.move (by conv => lhs; whnf)) ?_
 refine L.va rfl (X.lssF rfl rfl) ?_
 refine L.va rfl (X.move (by conv => lhs; whnf)) ?_
 refine L.caseDec (k := 5) rfl (fun h1 => ?_) (fun h1 => ?_)
 ·rw [lt_0] at h1
  have e : belowF x = true := by unfold belowF; rw [decide_eq_true h1.1, h1.2.1]; rfl
  rw [e]
  iterate 7 refine L.no rfl ?_
  refine L.va rfl (X.pickT rfl (by conv => lhs; whnf)) ?_
  refine L.va rfl (X.assign (by conv => lhs; whnf)) ?_
  refine L.nil ?_
  refine J.ret ?_
  refine fin1 ?_
  exact ⟨rfl, rfl⟩
 ·rw [lt_0] at h1
  refine L.va rfl (X.move (by conv => lhs; whnf)) ?_
  refine L.va rfl (X.eqlF rfl rfl) ?_
  refine L.va rfl (X.move (by conv => lhs; whnf)) ?_
  refine L.caseDec (k := 8) rfl (fun h2 => ?_) (fun h2 => ?_)
  ·rw [eq_0] at h2
   rw [h2.2] at hsp
   by_cases hs : sg x = true
   ·rw [if_pos hs] at hsp
    have e : belowF x = true := by unfold belowF; rw [decide_eq_true h2.1, hs]; rfl
    rw [e]
    subst hsp
    refine L.va rfl (X.move (by conv => lhs; whnf)) ?_
    refine L.va rfl (X.quoF (r := 18442240474082181120) rfl rfl (by decide)) ?_
    refine L.va rfl (X.lssF rfl rfl) ?_
    refine L.va rfl (X.pickT rfl (by conv => lhs; whnf)) ?_
    refine L.va rfl (X.pickF rfl (by conv => lhs; whnf)) ?_
    refine L.va rfl (X.assign (by conv => lhs; whnf)) ?_
    refine L.nil ?_
    refine J.ret ?_
    refine fin1 ?_
    exact ⟨rfl, rfl⟩
   ·rw [if_neg hs] at hsp
    have e : belowF x = false := by unfold belowF; rw [Bool.not_eq_true] at hs; rw [hs, Bool.and_false]
    rw [e]
    subst hsp
    refine L.va rfl (X.move (by conv => lhs; whnf)) ?_
    refine L.va rfl (X.quoF (r := 9218868437227405312) rfl rfl (by decide)) ?_
    refine L.va rfl (X.lssF rfl rfl) ?_
    refine L.va rfl (X.pickT rfl (by conv => lhs; whnf)) ?_
    refine L.va rfl (X.pickF rfl (by conv => lhs; whnf)) ?_
    refine L.va rfl (X.assign (by conv => lhs; whnf)) ?_
    refine L.nil ?_
    refine J.ret ?_
    refine fin1 ?_
    exact ⟨rfl, rfl⟩
  ·rw [eq_0] at h2
   have e : belowF x = false := by
    unfold belowF
    by_cases hn : nanF x
    ·rw [decide_eq_false (fun h => h hn)]; rfl
    ·have : sg x = false := by
      cases hs : sg x
      ·rfl
      ·exact absurd ⟨hn, hs, Nat.pos_of_ne_zero (fun h => h2 ⟨hn, h⟩)⟩ h1
     rw [this, Bool.and_false]
   rw [e]
   iterate 3 refine L.no rfl ?_
   iterate 2 refine L.va rfl (X.pickF rfl (by conv => lhs; whnf)) ?_
   refine L.va rfl (X.assign (by conv => lhs; whnf)) ?_
   refine L.nil ?_
   refine J.ret ?_
   refine fin1 ?_
   exact ⟨rfl, rfl⟩
theorem same03 (a b : Nat) (w : World) (ha : a < 18446744073709551616) (hb : b < 18446744073709551616) : Calls Tryz.prog 46 #[.float .f64 a, .float .f64 b] w fun e w' => e = .returned (.bool (sameF a b)) ∧ Ext w w' := by
 refine enter Tryz.func46 rfl (by kernel_rfl) ?_
 refine J.seq ?_
 refine J.region ?_
 refine L.va rfl (X.assign (by conv => lhs; whnf)) ?_
 refine L.nil ?_
 iterate 2 refine J.seq ?_
 refine J.region ?_
 refine L.va rfl (X.move (by conv => lhs; whnf)) ?_
 refine L.call rfl en_70 rfl (kind03 a w) ?_
 rintro e w1 ⟨rfl, he1⟩
 refine ⟨_, rfl, ?_⟩
 refine L.va rfl (X.eql rfl rfl) ?_
 refine L.va rfl (X.move (by conv => lhs; whnf)) ?_
 refine L.caseDec (k := 8) rfl (fun h1 => ?_) (fun h1 => ?_)
 ·rw [kind3] at h1
  rw [same_nan (.inl h1)]
  iterate 3 refine L.no rfl ?_
  refine L.va rfl (X.pickT rfl (by conv => lhs; whnf)) ?_
  refine L.nil ?_
  refine J.iteT rfl ?_
  refine J.seq ?_
  refine J.region ?_
  refine L.va rfl (X.move (by conv => lhs; whnf)) ?_
  refine L.call rfl en_70 rfl (kind03 a w1) ?_
  rintro e w2 ⟨rfl, he2⟩
  refine ⟨_, rfl, ?_⟩
  refine L.va rfl (X.move (by conv => lhs; whnf)) ?_
  refine L.call rfl en_70 rfl (kind03 b w2) ?_
  rintro e w3 ⟨rfl, he3⟩
  refine ⟨_, rfl, ?_⟩
  refine L.va rfl (X.eql rfl rfl) ?_
  refine L.va rfl (X.assign (by conv => lhs; whnf)) ?_
  refine L.nil ?_
  refine J.ret ?_
  refine thn_ret <| ?_
  refine fin1 ?_
  exact ⟨rfl, (he1.trans he2).trans he3⟩
 ·rw [kind3] at h1
  refine L.va rfl (X.move (by conv => lhs; whnf)) ?_
  refine L.call rfl en_70 rfl (kind03 b w1) ?_
  rintro e w2 ⟨rfl, he2⟩
  refine ⟨_, rfl, ?_⟩
  refine L.va rfl (X.eql rfl rfl) ?_
  refine L.va rfl (X.pickF rfl (by conv => lhs; whnf)) ?_
  refine L.nil ?_
  refine J.dec rfl (fun h2 => ?_) (fun h2 => ?_)
  ·rw [kind3] at h2
   rw [same_nan (.inr h2)]
   refine J.seq ?_
   refine J.region ?_
   refine L.va rfl (X.move (by conv => lhs; whnf)) ?_
   refine L.call rfl en_70 rfl (kind03 a w2) ?_
   rintro e w3 ⟨rfl, he3⟩
   refine ⟨_, rfl, ?_⟩
   refine L.va rfl (X.move (by conv => lhs; whnf)) ?_
   refine L.call rfl en_70 rfl (kind03 b w3) ?_
   rintro e w4 ⟨rfl, he4⟩
   refine ⟨_, rfl, ?_⟩
   refine L.va rfl (X.eql rfl rfl) ?_
   refine L.va rfl (X.assign (by conv => lhs; whnf)) ?_
   refine L.nil ?_
   refine J.ret ?_
   refine thn_ret <| ?_
   refine fin1 ?_
   exact ⟨rfl, ((he1.trans he2).trans he3).trans he4⟩
  ·rw [kind3] at h2
   rw [same_num h1 h2]
   refine J.skip ?_
   refine J.seq ?_
   refine J.region ?_
   iterate 2 refine L.va rfl (X.move (by conv => lhs; whnf)) ?_
   refine L.va rfl (X.eqlF rfl rfl) ?_
   refine L.va rfl (X.move (by conv => lhs; whnf)) ?_
   refine L.caseDec (k := 21) rfl (fun h3 => ?_) (fun h3 => ?_)
   ·rw [decide_eq_true h3]
    refine L.va rfl (X.move (by conv => lhs; whnf)) ?_
    refine L.call rfl en_71 rfl (below03 a w2 ha) ?_
    rintro e _ ⟨rfl, rfl⟩
    refine ⟨_, rfl, ?_⟩
    refine L.va rfl (X.move (by conv => lhs; whnf)) ?_
    refine L.call rfl en_71 rfl (below03 b w2 hb) ?_
    rintro e _ ⟨rfl, rfl⟩
    refine ⟨_, rfl, ?_⟩
    refine L.va rfl (X.eqlB rfl rfl Tryz.underlying4) ?_
    refine L.va rfl (X.pickT rfl (by conv => lhs; whnf)) ?_
    refine L.va rfl (X.assign (by conv => lhs; whnf)) ?_
    refine L.nil ?_
    refine J.ret ?_
    refine fin1 ?_
    exact ⟨by rw [Bool.true_and]; rfl, he1.trans he2⟩
   ·rw [decide_eq_false h3]
    iterate 5 refine L.no rfl ?_
    refine L.va rfl (X.pickF rfl (by conv => lhs; whnf)) ?_
    refine L.va rfl (X.assign (by conv => lhs; whnf)) ?_
    refine L.nil ?_
    refine J.ret ?_
    refine fin1 ?_
    exact ⟨rfl, he1.trans he2⟩
end Go.Proofs.YtpomklkfedpkfaaGreat
namespace Go.Proofs.YtpomklkfedpkfaaGreat
set_option maxRecDepth 100000
open Go.RowKit H
open Flo
set_option linter.unusedVariables false
def eqL {α : Type} (R : α → α → Bool) (d : α) (a b : List α) : Bool := decide (a.length = b.length) && (List.range a.length).all fun i => R (a.getD i d) (b.getD i d)
section
variable {α : Type} {R : α → α → Bool} {d : α} {a b : List α}
theorem eqL_len (h : a.length ≠ b.length) : eqL R d a b = false := by unfold eqL; rw [decide_eq_false h]; rfl
theorem eqL_no {i : Nat} (h : i < a.length) (hR : R (a.getD i d) (b.getD i d) = false) : eqL R d a b = false := by
  unfold eqL
  rw [Bool.and_eq_false_iff]
  refine .inr ?_
  rw [Bool.eq_false_iff]
  intro hh
  have := List.all_eq_true.1 hh i (List.mem_range.2 h)
  rw [hR] at this
  cases this
theorem eqL_yes (h : a.length = b.length) (hR : ∀ i, i < a.length → R (a.getD i d) (b.getD i d) = true) : eqL R d a b = true := by
  unfold eqL
  rw [decide_eq_true h, Bool.true_and, List.all_eq_true]
  intro i hi
  exact hR i (List.mem_range.1 hi)
end
structure Vl where
  r : Bool
  n : Int
  x : Nat
namespace Vl
abbrev vs (v : Vl) : List Value := [.bool v.r, .int .i64 v.n, .float .f64 v.x]
abbrev val (v : Vl) : Value := .agg v.vs.toArray
def z : Vl := ⟨false, 0, 0⟩
def same (a b : Vl) : Bool := if a.r = b.r then (if a.r = true then sameF a.x b.x else decide (a.n = b.n)) else false
end Vl
end Go.Proofs.YtpomklkfedpkfaaGreat
namespace Go.Proofs.YtpomklkfedpkfaaGreat
set_option maxRecDepth 100000
open Go.RowKit H
open Flo
set_option linter.unusedVariables false
structure Wh where
  (s a : Int) (A : Option Addr) (n c : Nat) (q : List Int) (lo hi : Int)
abbrev WC := Int × Int × List Int × Int × Int
abbrev In64 (x : Int) : Prop := -9223372036854775808 ≤ x ∧ x ≤ 9223372036854775807
abbrev InB (m : Int) (l : List Int) : Prop := ∀ x ∈ l, 0 ≤ x ∧ x < m
namespace Wh
abbrev vs (x : Wh) : List Value := [.int .i64 x.s, .int .i64 x.a, .slice x.A x.n x.c, .int .i64 x.lo, .int .i64 x.hi]
abbrev val (x : Wh) : Value := .agg x.vs.toArray
abbrev con (x : Wh) : WC := (x.s, x.a, x.q, x.lo, x.hi)
structure Ok (x : Wh) : Prop where
  s : In64 x.s
  a : In64 x.a
  q : InB 4294967296 x.q
  lo : In64 x.lo
  hi : In64 x.hi
structure At (x : Wh) (N : Nat) (w : World) : Prop where
  r : Reads w N 1 x.A x.n (nums .u32 x.q)
  m : x.n ≤ maxLen
  o : x.Ok
  cp : x.n ≤ x.c
section
variable {x : Wh} {N N' B : Nat} {w w' : World}
theorem At.ext (h : x.At N w) (he : Ext w w') : x.At N w' := ⟨h.r.ext he, h.m, h.o, h.cp⟩
theorem At.low (h : x.At N w) (he : Below B w w') (hB : N ≤ B) : x.At N w' := ⟨h.r.low he hB, h.m, h.o, h.cp⟩
theorem At.more (h : x.At N w) (hN : N ≤ N') : x.At N' w := ⟨h.r.more hN, h.m, h.o, h.cp⟩
theorem At.len (h : x.At N w) : x.q.length = x.n := by have := h.r.1; simpa [nums] using this
end
end Wh
def wh0 : Wh := ⟨0, 0, none, 0, 0, [], 0, 0⟩
theorem wh_len (f : Wh) : f.vs.length = 5 := rfl
structure Re where
  (A : Option Addr) (n c : Nat) (b : List Int) (lo hi : Nat)
abbrev RC := List Int × Nat × Nat
namespace Re
abbrev vs (x : Re) : List Value := [.slice x.A x.n x.c, .float .f64 x.lo, .float .f64 x.hi]
abbrev val (x : Re) : Value := .agg x.vs.toArray
abbrev con (x : Re) : RC := (x.b, x.lo, x.hi)
structure Ok (x : Re) : Prop where
  b : InB 256 x.b
  lo : x.lo < 18446744073709551616
  hi : x.hi < 18446744073709551616
structure At (x : Re) (N : Nat) (w : World) : Prop where
  r : Reads w N 1 x.A x.n (nums .u8 x.b)
  m : x.n ≤ maxLen
  o : x.Ok
section
variable {x : Re} {N N' B : Nat} {w w' : World}
theorem At.ext (h : x.At N w) (he : Ext w w') : x.At N w' := ⟨h.r.ext he, h.m, h.o⟩
theorem At.low (h : x.At N w) (he : Below B w w') (hB : N ≤ B) : x.At N w' := ⟨h.r.low he hB, h.m, h.o⟩
theorem At.more (h : x.At N w) (hN : N ≤ N') : x.At N' w := ⟨h.r.more hN, h.m, h.o⟩
theorem At.len (h : x.At N w) : x.b.length = x.n := by have := h.r.1; simpa [nums] using this
end
end Re
def re0 : Re := ⟨none, 0, 0, [], 0, 0⟩
theorem re_len (f : Re) : f.vs.length = 3 := rfl
theorem gtW {l : List Wh} {i : Nat} (h : i < l.length) : l[i]? = some (l.getD i wh0) := by rw [List.getD, List.getElem?_eq_getElem h]; rfl
theorem gtR {l : List Re} {i : Nat} (h : i < l.length) : l[i]? = some (l.getD i re0) := by rw [List.getD, List.getElem?_eq_getElem h]; rfl
theorem memD {α : Type} {l : List α} {i : Nat} {d : α} (h : i < l.length) : l.getD i d ∈ l := by rw [List.getD, List.getElem?_eq_getElem h]; exact List.getElem_mem _
structure Ce where
  (k : Nat) (t : Int) (Ai : Option Addr) (ni ci : Nat) (is : List Wh) (Ar : Option Addr) (nr cr : Nat) (rs : List Re)
structure Con where
  (k : Nat) (t : Int) (is : List WC) (rs : List RC)
deriving DecidableEq
namespace Ce
abbrev vs (x : Ce) : List Value := [.int .u64 (x.k : Int), .int .i64 x.t, .slice x.Ai x.ni x.ci, .slice x.Ar x.nr x.cr]
abbrev val (x : Ce) : Value := .agg x.vs.toArray
abbrev con (x : Ce) : Con := ⟨x.k, x.t, x.is.map Wh.con, x.rs.map Re.con⟩
structure At (x : Ce) (N : Nat) (w : World) : Prop where
  k : x.k < 18446744073709551616
  t : In64 x.t
  i : Reads w N 5 x.Ai x.ni (x.is.flatMap Wh.vs)
  hi : ∀ y ∈ x.is, y.At N w
  li : x.is.length = x.ni
  mi : x.ni ≤ maxLen
  r : Reads w N 3 x.Ar x.nr (x.rs.flatMap Re.vs)
  hr : ∀ y ∈ x.rs, y.At N w
  lr : x.rs.length = x.nr
  mr : x.nr ≤ maxLen
section
variable {x : Ce} {N N' B : Nat} {w w' : World}
theorem At.ext (h : x.At N w) (he : Ext w w') : x.At N w' := ⟨h.k, h.t, h.i.ext he, fun y hy => (h.hi y hy).ext he, h.li, h.mi, h.r.ext he, fun y hy => (h.hr y hy).ext he, h.lr, h.mr⟩
theorem At.low (h : x.At N w) (he : Below B w w') (hB : N ≤ B) : x.At N w' := ⟨h.k, h.t, h.i.low he hB, fun y hy => (h.hi y hy).low he hB, h.li, h.mi, h.r.low he hB, fun y hy => (h.hr y hy).low he hB, h.lr, h.mr⟩
theorem At.more (h : x.At N w) (hN : N ≤ N') : x.At N' w := ⟨h.k, h.t, h.i.more hN, fun y hy => (h.hi y hy).more hN, h.li, h.mi, h.r.more hN, fun y hy => (h.hr y hy).more hN, h.lr, h.mr⟩
theorem At.wh (h : x.At N w) {i : Nat} (hi : i < x.ni) : (x.is.getD i wh0).At N w := h.hi _ (memD (by rw [h.li]; exact hi))
theorem At.re (h : x.At N w) {i : Nat} (hi : i < x.nr) : (x.rs.getD i re0).At N w := h.hr _ (memD (by rw [h.lr]; exact hi))
end
end Ce
def ce0 : Ce := ⟨0, 0, none, 0, 0, [], none, 0, 0, []⟩
theorem ce_len (f : Ce) : f.vs.length = 4 := rfl
theorem gtX {l : List Ce} {i : Nat} (h : i < l.length) : l[i]? = some (l.getD i ce0) := by rw [List.getD, List.getElem?_eq_getElem h]; rfl
structure Ces where
  (A : Option Addr) (n c : Nat) (l : List Ce)
namespace Ces
abbrev val (s : Ces) : Value := .slice s.A s.n s.c
abbrev con (s : Ces) : List Con := s.l.map Ce.con
structure At (s : Ces) (N : Nat) (w : World) : Prop where
  r : Reads w N 4 s.A s.n (s.l.flatMap Ce.vs)
  h : ∀ x ∈ s.l, x.At N w
  l : s.l.length = s.n
  m : s.n ≤ maxLen
section
variable {s : Ces} {N N' B : Nat} {w w' : World}
theorem At.ext (h : s.At N w) (he : Ext w w') : s.At N w' := ⟨h.r.ext he, fun x hx => (h.h x hx).ext he, h.l, h.m⟩
theorem At.low (h : s.At N w) (he : Below B w w') (hB : N ≤ B) : s.At N w' := ⟨h.r.low he hB, fun x hx => (h.h x hx).low he hB, h.l, h.m⟩
theorem At.more (h : s.At N w) (hN : N ≤ N') : s.At N' w := ⟨h.r.more hN, fun x hx => (h.h x hx).more hN, h.l, h.m⟩
theorem At.one (h : s.At N w) {i : Nat} (hi : i < s.n) : (s.l.getD i ce0).At N w := h.h _ (memD (by rw [h.l]; exact hi))
end
end Ces
def sameW (x y : WC) : Bool := decide (x = y)
def sameR (x y : RC) : Bool := decide (x.1 = y.1) && (sameF x.2.1 y.2.1 && sameF x.2.2 y.2.2)
def wc0 : WC := (0, 0, [], 0, 0)
def rc0 : RC := ([], 0, 0)
def con0 : Con := ⟨0, 0, [], []⟩
def sameC (x y : Con) : Bool := decide (x.k = y.k) && (decide (x.t = y.t) && (eqL sameW wc0 x.is y.is && eqL sameR rc0 x.rs y.rs))
def sameL (x y : List Con) : Bool := eqL sameC con0 x y
theorem sameF_refl (a : Nat) : sameF a a = true := by unfold sameF; exact decide_eq_true rfl
theorem eqL_refl {α : Type} {R : α → α → Bool} {d : α} (h : ∀ x, R x x = true) (l : List α) : eqL R d l l = true := eqL_yes rfl fun i _ => h _
theorem sameR_refl (a : RC) : sameR a a = true := by unfold sameR; rw [decide_eq_true rfl, sameF_refl, sameF_refl]; rfl
theorem sameC_refl (a : Con) : sameC a a = true := by unfold sameC; rw [decide_eq_true rfl, decide_eq_true rfl, eqL_refl (R := sameW) (fun x => decide_eq_true rfl), eqL_refl sameR_refl]; rfl
theorem sameL_refl (a : List Con) : sameL a a = true := eqL_refl sameC_refl a
end Go.Proofs.YtpomklkfedpkfaaGreat
namespace Go.Proofs.YtpomklkfedpkfaaGreat
open Go.RowKit H
set_option linter.unusedVariables false
set_option maxRecDepth 100000
namespace Exa
theorem at_b {b : List Int} (h : InB 256 b) (i : Nat) : 0 ≤ b.getD i 0 ∧ b.getD i 0 < 256 := by
  rcases Nat.lt_or_ge i b.length with hi | hi
  · exact h _ (memD hi)
  · rw [List.getD, List.getElem?_eq_none hi]
    exact ⟨by decide, by decide⟩
theorem and32N : ∀ n, n < 256 → n &&& 32 = 32 * (n / 32 % 2) := by decide
theorem and16N : ∀ n, n < 256 → n &&& 16 = 16 * (n / 16 % 2) := by decide
theorem and32 {a : Int} (ha : 0 ≤ a ∧ a < 256) : bits .and .u8 a 32 = 32 * (a / 32 % 2) := by
  obtain ⟨n, rfl⟩ := Int.eq_ofNat_of_zero_le ha.1
  have := u8_and_nat n 32 (by omega) (by decide)
  rw [show ((32 : Nat) : Int) = 32 from rfl] at this
  rw [this, and32N n (by omega)]
  omega
theorem and16 {a : Int} (ha : 0 ≤ a ∧ a < 256) : bits .and .u8 a 16 = 16 * (a / 16 % 2) := by
  obtain ⟨n, rfl⟩ := Int.eq_ofNat_of_zero_le ha.1
  have := u8_and_nat n 16 (by omega) (by decide)
  rw [show ((16 : Nat) : Int) = 16 from rfl] at this
  rw [this, and16N n (by omega)]
  omega
theorem or_nx (a b : Int) (ha : 0 ≤ a) (ha1 : a ≤ 16777215) (hb : 0 ≤ b ∧ b < 256) : bits .or .u32 (IntKind.u32.wrap (a * 2 ^ min (8 : Int).toNat IntKind.u32.bits)) b = a * 256 + b := by
  have e0 : a * 2 ^ min (8 : Int).toNat IntKind.u32.bits = 256 * a := by rw [Int.mul_comm]; rfl
  rw [e0, w32 (by omega)]
  obtain ⟨n, rfl⟩ := Int.eq_ofNat_of_zero_le ha
  obtain ⟨m, rfl⟩ := Int.eq_ofNat_of_zero_le hb.1
  have e1 : (256 * (n : Int)) = ((256 * n : Nat) : Int) := by simp
  rw [e1, u32_or_nat (256 * n) m (by omega) (by omega)]
  have e : 256 * n = n * 2 ^ 8 := by omega
  rw [e, Nat.mul_comm, ← Nat.two_pow_add_eq_or_of_lt (show m < 2 ^ 8 by omega)]
  omega
def H1 (b : List Int) : Prop := 0 < b.length ∧ (63 < b.getD 0 0 ∨ (b.getD 0 0 / 32 % 2 = 1 ∧ b.getD 0 0 / 16 % 2 = 0))
def H2 (b : List Int) : Prop := 1 < b.length ∧ (69 < b.getD 1 0 ∨ (0 < b.getD 1 0 ∧ b.getD 0 0 / 16 % 2 = 0))
def H3 (b : List Int) : Prop := 2 < b.length ∧ (70 < b.getD 1 0 + b.getD 2 0 ∨ (0 < b.getD 2 0 ∧ b.getD 0 0 / 16 % 2 = 0) ∨ (b.getD 2 0 = 0 ∧ (0 < b.getD 1 0 ∨ b.getD 0 0 / 32 % 2 = 1)))
instance (b : List Int) : Decidable (H1 b) := by unfold H1; infer_instance
instance (b : List Int) : Decidable (H2 b) := by unfold H2; infer_instance
instance (b : List Int) : Decidable (H3 b) := by unfold H3; infer_instance
def headE (b : List Int) : Int := if H1 b ∨ H2 b ∨ H3 b then 6 else 0
def pw (b : List Int) (i : Nat) : Nat → Int
  | 0 => 0
  | k + 1 => pw b i k * 256 + b.getD (3 + 4 * i + k) 0
abbrev wd (b : List Int) (i : Nat) : Int := pw b i 4
theorem pw_b {b : List Int} (h : InB 256 b) (i : Nat) : ∀ k : Nat, 0 ≤ pw b i k ∧ pw b i k < 256 ^ k
  | 0 => ⟨Int.le_refl 0, by show (0 : Int) < 1; decide⟩
  | k + 1 => by
    have h1 := pw_b h i k
    have h2 := at_b h (3 + 4 * i + k)
    have e : (256 : Int) ^ (k + 1) = 256 ^ k * 256 := Int.pow_succ ..
    unfold pw
    rw [e]
    omega
def stepE (b : List Int) (n i : Nat) : Int := if b.length < 3 + 4 * i + 4 then 5 else if (i = 0 ∨ i + 1 = n) ∧ wd b i = 0 then 6 else 0
def wordsE (b : List Int) (n : Nat) : Int := (((List.range n).map (stepE b n)).find? (fun z => decide (z ≠ 0))).getD 0
def readE (b : List Int) : Int :=
  if headE b ≠ 0 then 6 else if b.length < 3 then 5 else
  let n := (b.getD 2 0).toNat
  if wordsE b n ≠ 0 then wordsE b n else if 3 + 4 * n < b.length then 7 else 0
theorem find1 {l : List Int} : ∀ {i : Nat}, i < l.length → (∀ j, j < i → l.getD j 0 = 0) → l.getD i 0 ≠ 0 → (l.find? (fun z => decide (z ≠ 0))).getD 0 = l.getD i 0 := by
  induction l with
  | nil => intro i hi; simp at hi
  | cons x t ih =>
    intro i hi h1 h2
    cases i with
    | zero =>
      have : x ≠ 0 := h2
      simp [this]
    | succ i =>
      have h0 : x = 0 := h1 0 (by omega)
      subst h0
      have := ih (i := i) (by simpa using hi) (fun j hj => h1 (j + 1) (by omega)) h2
      simpa [List.find?_cons] using this
theorem find0 {l : List Int} (h : ∀ j, j < l.length → l.getD j 0 = 0) : (l.find? (fun z => decide (z ≠ 0))).getD 0 = 0 := by
  have : l.find? (fun z => decide (z ≠ 0)) = none := by
    rw [List.find?_eq_none]
    intro x hx
    obtain ⟨i, hi, rfl⟩ := List.getElem_of_mem hx
    have := h i hi
    rw [List.getD, List.getElem?_eq_getElem hi] at this
    simpa using this
  rw [this]
  rfl
theorem range_at {f : Nat → Int} {n i : Nat} (h : i < n) : ((List.range n).map f).getD i 0 = f i := by
  rw [List.getD, List.getElem?_map, List.getElem?_range h]
  rfl
theorem wordsE_at {b : List Int} {n i : Nat} (hi : i < n) (h1 : ∀ j, j < i → stepE b n j = 0) (h2 : stepE b n i ≠ 0) : wordsE b n = stepE b n i := by
  unfold wordsE
  rw [find1 (i := i) (by simpa using hi) (fun j hj => by rw [range_at (by omega)]; exact h1 j hj) (by rw [range_at hi]; exact h2), range_at hi]
theorem wordsE_0 {b : List Int} {n : Nat} (h1 : ∀ j, j < n → stepE b n j = 0) : wordsE b n = 0 := find0 fun j hj => by
  have hj : j < n := by simpa using hj
  rw [range_at hj]
  exact h1 j hj
def mg (b : List Int) (m i : Nat) : List Int := List.replicate (m - i) 0 ++ (List.range i).reverse.map (wd b)
theorem mg_len (b : List Int) {m i : Nat} (h : i ≤ m) : (mg b m i).length = m := by unfold mg; simp; omega
theorem mg_at (b : List Int) {m i : Nat} (h : i < m) : (mg b m i).getD (m - 1 - i) 0 = 0 := by
  unfold mg
  rw [List.getD, List.getElem?_append_left (by simp; omega), List.getElem?_replicate, if_pos (by omega)]
  rfl
theorem mg_set (b : List Int) {m i : Nat} (h : i < m) : (mg b m i).set (m - 1 - i) (wd b i) = mg b m (i + 1) := by
  unfold mg
  rw [List.set_append_left _ _ (by simp; omega), show m - i = (m - (i + 1)) + 1 by omega, show m - 1 - i = m - (i + 1) by omega, List.replicate_succ', List.set_append_right _ _ (by simp)]
  simp [List.range_succ]
theorem mg_put (b : List Int) {m i : Nat} (h : i ≤ m) {j : Nat} (hj : m - i ≤ j) (hjm : j < m) : (mg b m i).getD j 0 = wd b (m - 1 - j) := by
  unfold mg
  rw [List.getD, List.getElem?_append_right (by simp; omega), List.length_replicate, List.getElem?_map, List.getElem?_reverse (by simp; omega), List.length_range, List.getElem?_range (by omega)]
  show wd b (i - 1 - (j - (m - i))) = _
  congr 1
  omega
theorem mg_b {b : List Int} (h : InB 256 b) (m i : Nat) : InB 4294967296 (mg b m i) := fun x hx => by
  unfold mg at hx
  rcases List.mem_append.1 hx with hx | hx
  · rw [(List.mem_replicate.1 hx).2]
    exact ⟨by decide, by decide⟩
  · obtain ⟨j, _, rfl⟩ := List.mem_map.1 hx
    have := pw_b h j 4
    refine ⟨this.1, ?_⟩
    have h3 := this.2
    rw [show (256 : Int) ^ 4 = 4294967296 by decide] at h3
    exact h3
def magOf (b : List Int) : List Int := mg b ((b.getD 1 0).toNat + (b.getD 2 0).toNat) (b.getD 2 0).toNat
theorem headE_6 {b : List Int} (h : headE b ≠ 0) : headE b = 6 := by
  unfold headE at *
  split
  · rfl
  · rename_i k; rw [if_neg k] at h; exact absurd rfl h
theorem readE_h {b : List Int} (h : headE b ≠ 0) : readE b = 6 := if_pos h
theorem readE_s {b : List Int} (h : headE b = 0) (h3 : b.length < 3) : readE b = 5 := by unfold readE; rw [if_neg (by simp [h]), if_pos h3]
theorem readE_w {b : List Int} {m : Nat} (h : headE b = 0) (h3 : ¬ b.length < 3) (hm : b.getD 2 0 = (m : Int)) (hw : wordsE b m ≠ 0) : readE b = wordsE b m := by
  unfold readE
  rw [if_neg (by simp [h]), if_neg h3]
  dsimp only
  rw [hm, Int.toNat_natCast, if_pos hw]
theorem readE_m {b : List Int} {m : Nat} (h : headE b = 0) (h3 : ¬ b.length < 3) (hm : b.getD 2 0 = (m : Int)) (hw : wordsE b m = 0) (hl : 3 + 4 * m < b.length) : readE b = 7 := by
  unfold readE
  rw [if_neg (by simp [h]), if_neg h3]
  dsimp only
  rw [hm, Int.toNat_natCast, if_neg (by simp [hw]), if_pos hl]
theorem readE_0 {b : List Int} {m : Nat} (h : headE b = 0) (h3 : ¬ b.length < 3) (hm : b.getD 2 0 = (m : Int)) (hw : wordsE b m = 0) (hl : ¬ 3 + 4 * m < b.length) : readE b = 0 := by
  unfold readE
  rw [if_neg (by simp [h]), if_neg h3]
  dsimp only
  rw [hm, Int.toNat_natCast, if_neg (by simp [hw]), if_neg hl]
theorem readE_H {b : List Int} (h : H1 b ∨ H2 b ∨ H3 b) : readE b = 6 := readE_h (by unfold headE; rw [if_pos h]; decide)
theorem head_0 {b : List Int} (n1 : ¬ H1 b) (n2 : ¬ H2 b) (n3 : ¬ H3 b) : headE b = 0 := if_neg (by
  rintro (h | h | h)
  · exact n1 h
  · exact n2 h
  · exact n3 h)
theorem readE_t {b : List Int} (h3 : b.length < 3) (n1 : ¬ H1 b) (n2 : ¬ H2 b) : readE b = 5 := readE_s (head_0 n1 n2 (fun h => by have := h.1; omega)) h3
theorem set_self {l : List Int} {j : Nat} {x : Int} (h : l.getD j 0 = x) (hj : j < l.length) : l.set j x = l := by
  apply List.ext_getElem (by simp)
  intro i h1 h2
  rw [List.getElem_set]
  split
  · rename_i e; subst e; rw [← h, List.getD, List.getElem?_eq_getElem hj]; rfl
  · rfl
theorem getD_set {l : List Int} {j : Nat} {x : Int} (hj : j < l.length) : (l.set j x).getD j 0 = x := by
  rw [List.getD, List.getElem?_set, if_pos rfl, if_pos hj]
  rfl
end Exa
end Go.Proofs.YtpomklkfedpkfaaGreat
namespace Go.Proofs.YtpomklkfedpkfaaGreat
set_option maxRecDepth 100000
open Go.RowKit H
open Exa Flo
set_option linter.unusedVariables false
namespace H
theorem X.index1e {P : Program} {w : World} {f : Fr} {x y : Operand} {d : Option Tmp} {t ty e : TypeId} {pos : String} {aft : Array Edge} {g : Option (Nat × Bool)} {A : Option Addr} {q c j : Nat} {k : IntKind} {m : Int} (hx : ev f x = .slice A q c) (hy : ev f y = .int k m) (hm : m = (j : Int)) (ht : P.underlying t = some (.slice e)) (hs : Siz P e 1) (hA : A ≠ none) (hj : j < q) : (execOp (ev f) ⟨d, .indexAddr t x y, ty, pos, aft, g⟩).run P w = .ok (.value (pA A j)) w :=
  X.index1n hx (by rw [hy, hm]) ht hs hA hj
end H
structure SizN (l : List Int) (k : Nat) : Prop where
  le : k ≤ l.length
  z : ∀ j, k ≤ j → j < l.length → l.getD j 0 = 0
  nz : 0 < k → l.getD (k - 1) 0 ≠ 0
theorem nsize (A : Option Addr) (n c : Nat) (l : List Int) (w : World) {N : Nat} (hr : Reads w N 1 A n (nums .u32 l)) (hl : l.length = n) (hn : n ≤ maxLen) : Calls Tryz.prog 75 #[.slice A n c] w fun e w' => w = w' ∧ ∃ k : Nat, e = .returned (.int .i64 (k : Int)) ∧ SizN l k := by
 unfold maxLen at hn
 refine enter Tryz.func75 rfl (by kernel_rfl) ?_
 refine J.seq ?_
 refine J.region ?_
 refine L.va rfl (X.assign (by conv => lhs; whnf)) ?_
 refine L.nil ?_
 refine J.seq ?_
 refine J.region ?_
 refine L.va rfl (X.move (by conv => lhs; whnf)) ?_
 refine L.va rfl (X.len rfl Tryz.underlying24) ?_
 refine L.va rfl (X.assign (by conv => lhs; whnf)) ?_
 refine L.nil ?_
 refine J.seq ?_
 refine J.block ?_
 refine J.loop (X := Nat) [3, 6, 7, 8, 9, 10, 11, 12, 13, 14, 15, 16, 17] (fun k => [(3, .int .i64 (k : Int))]) (fun k w' => k ≤ n ∧ (∀ j, k ≤ j → j < l.length → l.getD j 0 = 0) ∧ w = w') (fun k => k) (n) (At1 (by first | rfl | exact at_int rfl (by omega) | exact at_slice rfl (by omega) | exact at_int rfl (by simp))) ?_ ?_
 ·exact ⟨Nat.le_refl _, fun j h1 h2 => by omega, rfl⟩
 ·rintro k g w2 ⟨hk, hz, rfl⟩
  iterate 2 refine J.seq ?_
  refine J.region ?_
  refine L.va rfl (X.move (by conv => lhs; whnf)) ?_
  refine L.va rfl (X.gtr rfl rfl) ?_
  refine L.va rfl (X.move (by conv => lhs; whnf)) ?_
  refine L.caseDec (k := 8) rfl (fun h1 => ?_) (fun h1 => ?_)
  ·obtain ⟨m, rfl⟩ : ∃ m, k = m + 1 := ⟨k - 1, by omega⟩
   have hA := hr.some_ (by omega)
   iterate 2 refine L.va rfl (X.move (by conv => lhs; whnf)) ?_
   refine L.va rfl (X.sub rfl rfl (by omega)) ?_
   refine L.va rfl (X.index1e (j := m) rfl rfl (by omega) Tryz.underlying24 sz_27 hA (by omega)) ?_
   refine L.va rfl (X.load rfl sc_27 (by first | exact Ld.num hr (by omega))) ?_
   refine L.va rfl (X.eql rfl rfl) ?_
   refine L.va rfl (X.pickT rfl (by conv => lhs; whnf)) ?_
   refine L.nil ?_
   refine J.dec rfl (fun h2 => ?_) (fun h2 => ?_)
   ·refine J.skip ?_
    refine J.block ?_
    refine J.region ?_
    refine L.va rfl (X.move (by conv => lhs; whnf)) ?_
    refine L.va rfl (X.sub rfl rfl (by omega)) ?_
    refine L.va rfl (X.assign (by conv => lhs; whnf)) ?_
    refine L.nil ?_
    refine ⟨m, At1 (at_int rfl (by omega)), (by (iterate 14 refine Agr.lk rfl ?_); exact Agr.lk rfl (Agr.hav rfl Agr.rfl')), ?_⟩
    refine ⟨⟨by omega, fun j hj hjl => ?_, rfl⟩, by omega⟩
    rcases Nat.lt_or_ge m j with h | h
    ·exact hz j h hjl
    ·obtain rfl : j = m := by omega
     exact h2
   ·refine J.exit ?_
    refine J.seq ?_
    refine J.region ?_
    refine L.va rfl (X.move (by conv => lhs; whnf)) ?_
    refine L.va rfl (X.assign (by conv => lhs; whnf)) ?_
    refine L.nil ?_
    refine J.ret ?_
    refine fin1 ?_
    exact ⟨rfl, _, rfl, by omega, hz, fun _ => h2⟩
  ·refine L.no rfl ?_
   iterate 5 refine L.no rfl ?_
   refine L.va rfl (X.pickF rfl (by conv => lhs; whnf)) ?_
   refine L.nil ?_
   refine J.iteF rfl ?_
   refine J.exit ?_
   refine J.seq ?_
   refine J.region ?_
   refine L.va rfl (X.move (by conv => lhs; whnf)) ?_
   refine L.va rfl (X.assign (by conv => lhs; whnf)) ?_
   refine L.nil ?_
   refine J.ret ?_
   refine fin1 ?_
   exact ⟨rfl, _, rfl, by omega, hz, fun h => absurd h (by omega)⟩
theorem ntrim (A : Option Addr) (n c : Nat) (l : List Int) (w : World) {N : Nat} (hN : N ≤ w.heap.size) (hr : Reads w N 1 A n (nums .u32 l)) (hl : l.length = n) (hc : n ≤ c) (hn : n ≤ 1000000) : Calls Tryz.prog 54 #[.slice A n c] w fun e w' => ∃ (A' : Option Addr) (k c' : Nat), e = .returned (.slice A' k c') ∧ SizN l k ∧ w'.ownsRow w.heap.size 27 1 (.slice A' k c') k (nums .u32 (l.take k)) ∧ Ext w w' := by
 have c1 := nsize A n c l w hr hl (by unfold maxLen; omega)
 refine enter Tryz.func54 rfl (by kernel_rfl) ?_
 refine J.seq ?_
 refine J.region ?_
 refine L.va rfl (X.assign (by conv => lhs; whnf)) ?_
 refine L.nil ?_
 refine J.seq ?_
 refine J.region ?_
 iterate 2 refine L.va rfl (X.move (by conv => lhs; whnf)) ?_
 refine L.call rfl en_75 rfl (c1) ?_
 rintro e _ ⟨rfl, k, rfl, hk⟩
 refine ⟨_, rfl, ?_⟩
 have hkl := hk.le
 have hrk : Reads w N 1 A k (nums .u32 (l.take k)) := by
  have := hr.first (k := k) (by omega)
  rw [Nat.mul_one] at this
  have e : (nums .u32 l).take k = nums .u32 (l.take k) := by unfold nums; rw [List.map_take]
  rwa [e] at this
 refine L.va rfl ((by first | exact X.sliceTon rfl rfl Tryz.underlying24 sz_27 (by omega) | exact X.sliceTo rfl rfl Tryz.underlying24 sz_27 (by omega))) ?_
 have ho0 : w.ownsRow w.heap.size 27 1 (.slice none 0 0) 0 (nums .u32 []) := own_nil _ _ _ _
 refine L.appendQ (q := k) (ys := l.take k) rfl rfl rfl Tryz.underlying24 el_27 (ho0) (hrk) (by omega) (by simp) (by unfold maxLen; omega) (by omega) ?_
 intro A2 c2 w2 ho2 hg2 hb2 hor2
 refine L.va rfl (X.assign (by conv => lhs; whnf)) ?_
 refine L.nil ?_
 refine J.ret ?_
 refine fin1 ?_
 exact ⟨A2, k, c2, rfl, hk, ho2, hb2⟩
theorem fless (x y : Nat) (w : World) (hx : x < 18446744073709551616) (hy : y < 18446744073709551616) : Calls Tryz.prog 56 #[.float .f64 x, .float .f64 y] w fun e w' => e = .returned (.bool (decide ((keyF x : Int) < (keyF y : Int)))) ∧ w = w' := by
 have c1 := flo_key x w hx
 have c2 := flo_key y w hy
 refine enter Tryz.func56 rfl (by kernel_rfl) ?_
 refine J.seq ?_
 refine J.region ?_
 refine L.va rfl (X.assign (by conv => lhs; whnf)) ?_
 refine L.nil ?_
 refine J.seq ?_
 refine J.region ?_
 refine L.va rfl (X.move (by conv => lhs; whnf)) ?_
 refine L.call rfl en_77 rfl (c1) ?_
 rintro e _ ⟨rfl, rfl⟩
 refine ⟨_, rfl, ?_⟩
 refine L.va rfl (X.move (by conv => lhs; whnf)) ?_
 refine L.call rfl en_77 rfl (c2) ?_
 rintro e _ ⟨rfl, rfl⟩
 refine ⟨_, rfl, ?_⟩
 refine L.va rfl (X.lss rfl rfl) ?_
 refine L.va rfl (X.assign (by conv => lhs; whnf)) ?_
 refine L.nil ?_
 refine J.ret ?_
 refine fin1 ?_
 exact ⟨rfl, rfl⟩
theorem ehead (A : Option Addr) (n c : Nat) (b : List Int) (w : World) {N : Nat} (hr : Reads w N 1 A n (nums .u8 b)) (hb : InB 256 b) (hl : b.length = n) : Calls Tryz.prog 76 #[.slice A n c] w fun e w' => e = .returned (.int .i64 (headE b)) ∧ Ext w w' := by
 have b0 := at_b hb 0
 have b1 := at_b hb 1
 have b2 := at_b hb 2
 have a32 := and32 b0
 have a16 := and16 b0
 have six : ∀ w' : World, Ext w w' → (H1 b ∨ H2 b ∨ H3 b) → Ending.returned (.int .i64 6) = .returned (.int .i64 (headE b)) ∧ Ext w w' := fun w' he h => ⟨by unfold headE; rw [if_pos h], he⟩
 refine enter Tryz.func76 rfl (by kernel_rfl) ?_
 refine J.seq ?_
 refine J.region ?_
 refine L.va rfl (X.assign (by conv => lhs; whnf)) ?_
 refine L.nil ?_
 refine J.cut (X := Unit) [2, 3, 4, 5, 6, 7, 8, 9, 10, 11, 12, 13, 14, 15, 16, 17, 18, 19, 20, 21, 22, 23, 24, 25] (fun _ => []) (fun _ w' => ¬ H1 b ∧ w = w') ?_ ?_
 ·skip
  refine J.seq ?_
  refine J.region ?_
  refine L.va rfl (X.move (by conv => lhs; whnf)) ?_
  refine L.va rfl (X.len rfl Tryz.underlying71) ?_
  refine L.va rfl (X.gtr rfl rfl) ?_
  refine L.va rfl (X.move (by conv => lhs; whnf)) ?_
  refine L.caseDec (k := 6) rfl (fun h1 => ?_) (fun h1 => ?_)
  ·have hA := hr.some_ (by omega)
   refine L.va rfl (X.move (by conv => lhs; whnf)) ?_
   refine L.va rfl (X.index1n (j := 0) rfl rfl Tryz.underlying71 sz_5 (by first | exact Option.some_ne_none _ | exact hr.some_ (by omega) | exact hA) (by omega)) ?_
   refine L.va rfl (X.load rfl sc_5 (by first | exact Ld.num hr (by omega) | exact hA)) ?_
   refine L.va rfl (X.gtr rfl rfl) ?_
   refine L.va rfl (X.move (by conv => lhs; whnf)) ?_
   refine L.caseDec (k := 11) rfl (fun h2 => ?_) (fun h2 => ?_)
   ·refine L.no rfl ?_
    iterate 11 refine L.no rfl ?_
    iterate 2 refine L.va rfl (X.pickT rfl (by conv => lhs; whnf)) ?_
    refine L.nil ?_
    refine J.iteT rfl ?_
    refine J.seq ?_
    refine J.region ?_
    refine L.va rfl (X.assign (by conv => lhs; whnf)) ?_
    refine L.nil ?_
    refine J.ret ?_
    refine thn_ret <| ?_
    refine fin1 ?_
    exact six _ (Ext.refl _) (.inl ⟨by omega, .inl h2⟩)
   ·refine L.va rfl (X.move (by conv => lhs; whnf)) ?_
    refine L.va rfl (X.index1n (j := 0) rfl rfl Tryz.underlying71 sz_5 (by first | exact Option.some_ne_none _ | exact hr.some_ (by omega) | exact hA) (by omega)) ?_
    refine L.va rfl (X.load rfl sc_5 (by first | exact Ld.num hr (by omega) | exact hA)) ?_
    refine L.va rfl (X.and rfl rfl) ?_
    refine L.va rfl (X.neq rfl rfl) ?_
    refine L.va rfl (X.move (by conv => lhs; whnf)) ?_
    refine L.caseNdec (k := 17) rfl (fun h3 => ?_) (fun h3 => ?_)
    ·have h3 : ¬ bits .and .u8 (b.getD 0 0) 32 = 0 := h3
     refine L.va rfl (X.move (by conv => lhs; whnf)) ?_
     refine L.va rfl (X.index1n (j := 0) rfl rfl Tryz.underlying71 sz_5 (by first | exact Option.some_ne_none _ | exact hr.some_ (by omega) | exact hA) (by omega)) ?_
     refine L.va rfl (X.load rfl sc_5 (by first | exact Ld.num hr (by omega) | exact hA)) ?_
     refine L.va rfl (X.and rfl rfl) ?_
     refine L.va rfl (X.eql rfl rfl) ?_
     refine L.va rfl (X.pickT rfl (by conv => lhs; whnf)) ?_
     refine L.va rfl (X.pickF rfl (by conv => lhs; whnf)) ?_
     refine L.va rfl (X.pickT rfl (by conv => lhs; whnf)) ?_
     refine L.nil ?_
     refine J.dec rfl (fun h4 => ?_) (fun h4 => ?_)
     ·have h4 : bits .and .u8 (b.getD 0 0) 16 = 0 := h4
      refine J.seq ?_
      refine J.region ?_
      refine L.va rfl (X.assign (by conv => lhs; whnf)) ?_
      refine L.nil ?_
      refine J.ret ?_
      refine thn_ret <| ?_
      refine fin1 ?_
      exact six _ (Ext.refl _) (.inl ⟨by omega, .inr ⟨by omega, by omega⟩⟩)
     ·have h4 : ¬ bits .and .u8 (b.getD 0 0) 16 = 0 := h4
      refine J.skip ?_
      refine ⟨(), At0 , (by (iterate 26 refine Agr.lk rfl ?_); exact Agr.rfl'), ?_⟩
      refine ⟨?_, rfl⟩
      rintro ⟨_, h | ⟨_, h⟩⟩ <;> omega
    ·have h3 : bits .and .u8 (b.getD 0 0) 32 = 0 := h3
     iterate 5 refine L.no rfl ?_
     iterate 2 refine L.va rfl (X.pickF rfl (by conv => lhs; whnf)) ?_
     refine L.va rfl (X.pickT rfl (by conv => lhs; whnf)) ?_
     refine L.nil ?_
     refine J.iteF rfl ?_
     refine J.skip ?_
     refine ⟨(), At0 , (by (iterate 26 refine Agr.lk rfl ?_); exact Agr.rfl'), ?_⟩
     refine ⟨?_, rfl⟩
     rintro ⟨_, h | ⟨h, _⟩⟩ <;> omega
  ·refine L.no rfl ?_
   iterate 17 refine L.no rfl ?_
   refine L.va rfl (X.pickF rfl (by conv => lhs; whnf)) ?_
   refine L.nil ?_
   refine J.iteF rfl ?_
   refine J.skip ?_
   refine ⟨(), At0 , (by (iterate 24 refine Agr.lk rfl ?_); exact Agr.rfl'), ?_⟩
   refine ⟨?_, rfl⟩
   rintro ⟨h, _⟩
   omega
 ·rintro ⟨⟩ g w1 ⟨n1, rfl⟩
  refine J.cut (X := Unit) [2, 26, 27, 28, 29, 30, 31, 32, 33, 34, 35, 36, 37, 38, 39, 40, 41, 42, 43, 44, 45, 46, 47] (fun _ => []) (fun _ w' => ¬ H2 b ∧ w = w') ?_ ?_
  ·skip
   refine J.seq ?_
   refine J.region ?_
   refine L.va rfl (X.move (by conv => lhs; whnf)) ?_
   refine L.va rfl (X.len rfl Tryz.underlying71) ?_
   refine L.va rfl (X.gtr rfl rfl) ?_
   refine L.va rfl (X.move (by conv => lhs; whnf)) ?_
   refine L.caseDec (k := 29) rfl (fun h1 => ?_) (fun h1 => ?_)
   ·have hA := hr.some_ (by omega)
    refine L.va rfl (X.move (by conv => lhs; whnf)) ?_
    refine L.va rfl (X.index1n (j := 1) rfl rfl Tryz.underlying71 sz_5 (by first | exact Option.some_ne_none _ | exact hr.some_ (by omega) | exact hA) (by omega)) ?_
    refine L.va rfl (X.load rfl sc_5 (by first | exact Ld.num hr (by omega) | exact hA)) ?_
    refine L.va rfl (X.gtr rfl rfl) ?_
    refine L.va rfl (X.move (by conv => lhs; whnf)) ?_
    refine L.caseDec (k := 34) rfl (fun h2 => ?_) (fun h2 => ?_)
    ·refine L.no rfl ?_
     iterate 10 refine L.no rfl ?_
     iterate 2 refine L.va rfl (X.pickT rfl (by conv => lhs; whnf)) ?_
     refine L.nil ?_
     refine J.iteT rfl ?_
     refine J.seq ?_
     refine J.region ?_
     refine L.va rfl (X.assign (by conv => lhs; whnf)) ?_
     refine L.nil ?_
     refine J.ret ?_
     refine thn_ret <| ?_
     refine fin1 ?_
     exact six _ (Ext.refl _) (.inr (.inl ⟨by omega, .inl h2⟩))
    ·refine L.va rfl (X.move (by conv => lhs; whnf)) ?_
     refine L.va rfl (X.index1n (j := 1) rfl rfl Tryz.underlying71 sz_5 (by first | exact Option.some_ne_none _ | exact hr.some_ (by omega) | exact hA) (by omega)) ?_
     refine L.va rfl (X.load rfl sc_5 (by first | exact Ld.num hr (by omega) | exact hA)) ?_
     refine L.va rfl (X.gtr rfl rfl) ?_
     refine L.va rfl (X.move (by conv => lhs; whnf)) ?_
     refine L.caseDec (k := 39) rfl (fun h3 => ?_) (fun h3 => ?_)
     ·refine L.va rfl (X.move (by conv => lhs; whnf)) ?_
      refine L.va rfl (X.index1n (j := 0) rfl rfl Tryz.underlying71 sz_5 (by first | exact Option.some_ne_none _ | exact hr.some_ (by omega) | exact hA) (by omega)) ?_
      refine L.va rfl (X.load rfl sc_5 (by first | exact Ld.num hr (by omega) | exact hA)) ?_
      refine L.va rfl (X.and rfl rfl) ?_
      refine L.va rfl (X.eql rfl rfl) ?_
      refine L.va rfl (X.pickT rfl (by conv => lhs; whnf)) ?_
      refine L.va rfl (X.pickF rfl (by conv => lhs; whnf)) ?_
      refine L.va rfl (X.pickT rfl (by conv => lhs; whnf)) ?_
      refine L.nil ?_
      refine J.dec rfl (fun h4 => ?_) (fun h4 => ?_)
      ·have h4 : bits .and .u8 (b.getD 0 0) 16 = 0 := h4
       refine J.seq ?_
       refine J.region ?_
       refine L.va rfl (X.assign (by conv => lhs; whnf)) ?_
       refine L.nil ?_
       refine J.ret ?_
       refine thn_ret <| ?_
       refine fin1 ?_
       exact six _ (Ext.refl _) (.inr (.inl ⟨by omega, .inr ⟨by omega, by omega⟩⟩))
      ·have h4 : ¬ bits .and .u8 (b.getD 0 0) 16 = 0 := h4
       refine J.skip ?_
       refine ⟨(), At0 , (by (iterate 25 refine Agr.lk rfl ?_); exact Agr.rfl'), ?_⟩
       refine ⟨?_, rfl⟩
       rintro ⟨_, h | ⟨_, h⟩⟩ <;> omega
     ·refine L.no rfl ?_
      iterate 4 refine L.no rfl ?_
      iterate 2 refine L.va rfl (X.pickF rfl (by conv => lhs; whnf)) ?_
      refine L.va rfl (X.pickT rfl (by conv => lhs; whnf)) ?_
      refine L.nil ?_
      refine J.iteF rfl ?_
      refine J.skip ?_
      refine ⟨(), At0 , (by (iterate 25 refine Agr.lk rfl ?_); exact Agr.rfl'), ?_⟩
      refine ⟨?_, rfl⟩
      rintro ⟨_, h | ⟨h, _⟩⟩ <;> omega
   ·refine L.no rfl ?_
    iterate 16 refine L.no rfl ?_
    refine L.va rfl (X.pickF rfl (by conv => lhs; whnf)) ?_
    refine L.nil ?_
    refine J.iteF rfl ?_
    refine J.skip ?_
    refine ⟨(), At0 , (by (iterate 23 refine Agr.lk rfl ?_); exact Agr.rfl'), ?_⟩
    refine ⟨?_, rfl⟩
    rintro ⟨h, _⟩
    omega
  ·rintro ⟨⟩ g w1 ⟨n2, rfl⟩
   refine J.cut (X := Unit) [2, 48, 49, 50, 51, 52, 53, 54, 55, 56, 57, 58, 59, 60, 61, 62, 63, 64, 65, 66, 67, 68, 69, 70, 71, 72, 73, 74, 75, 76, 77, 78, 79, 80, 81, 82, 83, 84, 85, 86, 87, 88, 89, 90, 91, 92, 93, 94] (fun _ => []) (fun _ w' => ¬ H3 b ∧ Ext w w') ?_ ?_
   ·skip
    by_cases h1 : 2 < n
    ·have hA := hr.some_ (by omega)
     refine J.seq ?_
     refine J.draw (ℓ := 1000000) (S := Ext w) mixed (fun w2 hS hS_h => ?_)
     refine D.va 0 rfl (by kernel_rfl) (fun _ _ _ h => h) rfl (fun w' hw => X.move (by conv => lhs; whnf)) hS ?_
     refine D.va 1 rfl (by kernel_rfl) (fun _ _ _ h => h) rfl (fun w' hw => X.len rfl Tryz.underlying71) hS ?_
     refine D.va 2 rfl (by kernel_rfl) (fun _ _ _ h => h) rfl (fun w' hw => X.gtr rfl rfl) hS ?_
     refine D.va 3 rfl (by kernel_rfl) (fun _ _ _ h => h) rfl (fun w' hw => X.move (by conv => lhs; whnf)) hS ?_
     refine D.caseDecT (k := 51) rfl (by omega) ?_
     refine D.va 4 rfl (by kernel_rfl) (fun _ _ _ h => h) rfl (fun w' hw => X.move (by conv => lhs; whnf)) hS ?_
     refine D.va 5 rfl (by kernel_rfl) (fun _ _ _ h => h) rfl (fun w' hw => X.index1n (j := 1) rfl rfl Tryz.underlying71 sz_5 (by first | exact Option.some_ne_none _ | exact hr.some_ (by omega) | exact hA) (by omega)) hS ?_
     refine D.va 6 rfl (by kernel_rfl) (fun _ _ _ h => h) rfl (fun w' hw => X.load rfl sc_5 (by first | exact Ld.num (hr.ext hw) (by omega) | exact hA)) hS ?_
     refine D.va 7 rfl (by kernel_rfl) (fun _ _ _ h => h) rfl (fun w' hw => (by first | exact X.convI rfl is_5 Tryz.underlying3 (by omega) | exact X.convw rfl is_5 Tryz.underlying3)) hS ?_
     refine D.va 8 rfl (by kernel_rfl) (fun _ _ _ h => h) rfl (fun w' hw => X.move (by conv => lhs; whnf)) hS ?_
     refine D.va 9 rfl (by kernel_rfl) (fun _ _ _ h => h) rfl (fun w' hw => X.index1n (j := 2) rfl rfl Tryz.underlying71 sz_5 (by first | exact Option.some_ne_none _ | exact hr.some_ (by omega) | exact hA) (by omega)) hS ?_
     refine D.va 10 rfl (by kernel_rfl) (fun _ _ _ h => h) rfl (fun w' hw => X.load rfl sc_5 (by first | exact Ld.num (hr.ext hw) (by omega) | exact hA)) hS ?_
     refine D.va 11 rfl (by kernel_rfl) (fun _ _ _ h => h) rfl (fun w' hw => (by first | exact X.convI rfl is_5 Tryz.underlying3 (by omega) | exact X.convw rfl is_5 Tryz.underlying3)) hS ?_
     refine D.va 12 rfl (by kernel_rfl) (fun _ _ _ h => h) rfl (fun w' hw => X.add rfl rfl (by omega)) hS ?_
     refine D.va 13 rfl (by kernel_rfl) (fun _ _ _ h => h) rfl (fun w' hw => X.gtr rfl rfl) hS ?_
     refine D.va 14 rfl (by kernel_rfl) (fun _ _ _ h => h) rfl (fun w' hw => X.move (by conv => lhs; whnf)) hS ?_
     refine D.caseDec (k := 62) rfl (fun h2 => ?_) (fun h2 => ?_)
     ·refine D.no 15 rfl (by kernel_rfl) (fun _ _ _ h => h) rfl hS ?_
      refine D.no 16 rfl (by kernel_rfl) (fun _ _ _ h => h) rfl hS ?_
      refine D.no 17 rfl (by kernel_rfl) (fun _ _ _ h => h) rfl hS ?_
      refine D.no 18 rfl (by kernel_rfl) (fun _ _ _ h => h) rfl hS ?_
      refine D.no 19 rfl (by kernel_rfl) (fun _ _ _ h => h) rfl hS ?_
      refine D.no 20 rfl (by kernel_rfl) (fun _ _ _ h => h) rfl hS ?_
      refine D.no 21 rfl (by kernel_rfl) (fun _ _ _ h => h) rfl hS ?_
      refine D.no 22 rfl (by kernel_rfl) (fun _ _ _ h => h) rfl hS ?_
      refine D.no 23 rfl (by kernel_rfl) (fun _ _ _ h => h) rfl hS ?_
      refine D.no 24 rfl (by kernel_rfl) (fun _ _ _ h => h) rfl hS ?_
      refine D.no 25 rfl (by kernel_rfl) (fun _ _ _ h => h) rfl hS ?_
      refine D.va 26 rfl (by kernel_rfl) (fun _ _ _ h => h) rfl (fun w' hw => X.pickT rfl (by conv => lhs; whnf)) hS ?_
      refine D.va 27 rfl (by kernel_rfl) (fun _ _ _ h => h) rfl (fun w' hw => X.move (by conv => lhs; whnf)) hS ?_
      refine D.no 28 rfl (by kernel_rfl) (fun _ _ _ h => h) rfl hS ?_
      refine D.no 29 rfl (by kernel_rfl) (fun _ _ _ h => h) rfl hS ?_
      refine D.no 30 rfl (by kernel_rfl) (fun _ _ _ h => h) rfl hS ?_
      refine D.no 31 rfl (by kernel_rfl) (fun _ _ _ h => h) rfl hS ?_
      refine D.no 32 rfl (by kernel_rfl) (fun _ _ _ h => h) rfl hS ?_
      refine D.no 33 rfl (by kernel_rfl) (fun _ _ _ h => h) rfl hS ?_
      refine D.no 34 rfl (by kernel_rfl) (fun _ _ _ h => h) rfl hS ?_
      refine D.no 35 rfl (by kernel_rfl) (fun _ _ _ h => h) rfl hS ?_
      refine D.no 36 rfl (by kernel_rfl) (fun _ _ _ h => h) rfl hS ?_
      refine D.no 37 rfl (by kernel_rfl) (fun _ _ _ h => h) rfl hS ?_
      refine D.no 38 rfl (by kernel_rfl) (fun _ _ _ h => h) rfl hS ?_
      refine D.no 39 rfl (by kernel_rfl) (fun _ _ _ h => h) rfl hS ?_
      refine D.no 40 rfl (by kernel_rfl) (fun _ _ _ h => h) rfl hS ?_
      refine D.no 41 rfl (by kernel_rfl) (fun _ _ _ h => h) rfl hS ?_
      refine D.no 42 rfl (by kernel_rfl) (fun _ _ _ h => h) rfl hS ?_
      refine D.no 43 rfl (by kernel_rfl) (fun _ _ _ h => h) rfl hS ?_
      refine D.no 44 rfl (by kernel_rfl) (fun _ _ _ h => h) rfl hS ?_
      refine D.va 45 rfl (by kernel_rfl) (fun _ _ _ h => h) rfl (fun w' hw => X.pickT rfl (by conv => lhs; whnf)) hS ?_
      refine D.va 46 rfl (by kernel_rfl) (fun _ _ _ h => h) rfl (fun w' hw => X.pickT rfl (by conv => lhs; whnf)) hS ?_
      refine D.done (by kernel_rfl) ?_
      replace hr := hr.ext hS
      refine J.iteT rfl ?_
      refine J.seq ?_
      refine J.region ?_
      refine L.va rfl (X.assign (by conv => lhs; whnf)) ?_
      refine L.nil ?_
      refine J.ret ?_
      refine thn_ret <| ?_
      refine fin1 ?_
      exact six _ hS (.inr (.inr ⟨by omega, .inl h2⟩))
     ·refine D.va 15 rfl (by kernel_rfl) (fun _ _ _ h => h) rfl (fun w' hw => X.move (by conv => lhs; whnf)) hS ?_
      refine D.va 16 rfl (by kernel_rfl) (fun _ _ _ h => h) rfl (fun w' hw => X.index1n (j := 2) rfl rfl Tryz.underlying71 sz_5 (by first | exact Option.some_ne_none _ | exact hr.some_ (by omega) | exact hA) (by omega)) hS ?_
      refine D.va 17 rfl (by kernel_rfl) (fun _ _ _ h => h) rfl (fun w' hw => X.load rfl sc_5 (by first | exact Ld.num (hr.ext hw) (by omega) | exact hA)) hS ?_
      refine D.va 18 rfl (by kernel_rfl) (fun _ _ _ h => h) rfl (fun w' hw => X.gtr rfl rfl) hS ?_
      refine D.va 19 rfl (by kernel_rfl) (fun _ _ _ h => h) rfl (fun w' hw => X.move (by conv => lhs; whnf)) hS ?_
      refine D.caseDec (k := 67) rfl (fun h3 => ?_) (fun h3 => ?_)
      ·refine D.va 20 rfl (by kernel_rfl) (fun _ _ _ h => h) rfl (fun w' hw => X.move (by conv => lhs; whnf)) hS ?_
       refine D.va 21 rfl (by kernel_rfl) (fun _ _ _ h => h) rfl (fun w' hw => X.index1n (j := 0) rfl rfl Tryz.underlying71 sz_5 (by first | exact Option.some_ne_none _ | exact hr.some_ (by omega) | exact hA) (by omega)) hS ?_
       refine D.va 22 rfl (by kernel_rfl) (fun _ _ _ h => h) rfl (fun w' hw => X.load rfl sc_5 (by first | exact Ld.num (hr.ext hw) (by omega) | exact hA)) hS ?_
       refine D.va 23 rfl (by kernel_rfl) (fun _ _ _ h => h) rfl (fun w' hw => X.and rfl rfl) hS ?_
       refine D.va 24 rfl (by kernel_rfl) (fun _ _ _ h => h) rfl (fun w' hw => X.eql rfl rfl) hS ?_
       refine D.va 25 rfl (by kernel_rfl) (fun _ _ _ h => h) rfl (fun w' hw => X.pickT rfl (by conv => lhs; whnf)) hS ?_
       refine D.va 26 rfl (by kernel_rfl) (fun _ _ _ h => h) rfl (fun w' hw => X.pickF rfl (by conv => lhs; whnf)) hS ?_
       refine D.va 27 rfl (by kernel_rfl) (fun _ _ _ h => h) rfl (fun w' hw => X.move (by conv => lhs; whnf)) hS ?_
       refine D.caseDec (k := 75) rfl (fun h4 => ?_) (fun h4 => ?_)
       ·have h4 : bits .and .u8 (b.getD 0 0) 16 = 0 := h4
        refine D.no 28 rfl (by kernel_rfl) (fun _ _ _ h => h) rfl hS ?_
        refine D.no 29 rfl (by kernel_rfl) (fun _ _ _ h => h) rfl hS ?_
        refine D.no 30 rfl (by kernel_rfl) (fun _ _ _ h => h) rfl hS ?_
        refine D.no 31 rfl (by kernel_rfl) (fun _ _ _ h => h) rfl hS ?_
        refine D.no 32 rfl (by kernel_rfl) (fun _ _ _ h => h) rfl hS ?_
        refine D.no 33 rfl (by kernel_rfl) (fun _ _ _ h => h) rfl hS ?_
        refine D.no 34 rfl (by kernel_rfl) (fun _ _ _ h => h) rfl hS ?_
        refine D.no 35 rfl (by kernel_rfl) (fun _ _ _ h => h) rfl hS ?_
        refine D.no 36 rfl (by kernel_rfl) (fun _ _ _ h => h) rfl hS ?_
        refine D.no 37 rfl (by kernel_rfl) (fun _ _ _ h => h) rfl hS ?_
        refine D.no 38 rfl (by kernel_rfl) (fun _ _ _ h => h) rfl hS ?_
        refine D.no 39 rfl (by kernel_rfl) (fun _ _ _ h => h) rfl hS ?_
        refine D.no 40 rfl (by kernel_rfl) (fun _ _ _ h => h) rfl hS ?_
        refine D.no 41 rfl (by kernel_rfl) (fun _ _ _ h => h) rfl hS ?_
        refine D.no 42 rfl (by kernel_rfl) (fun _ _ _ h => h) rfl hS ?_
        refine D.no 43 rfl (by kernel_rfl) (fun _ _ _ h => h) rfl hS ?_
        refine D.no 44 rfl (by kernel_rfl) (fun _ _ _ h => h) rfl hS ?_
        refine D.va 45 rfl (by kernel_rfl) (fun _ _ _ h => h) rfl (fun w' hw => X.pickT rfl (by conv => lhs; whnf)) hS ?_
        refine D.va 46 rfl (by kernel_rfl) (fun _ _ _ h => h) rfl (fun w' hw => X.pickT rfl (by conv => lhs; whnf)) hS ?_
        refine D.done (by kernel_rfl) ?_
        replace hr := hr.ext hS
        refine J.iteT rfl ?_
        refine J.seq ?_
        refine J.region ?_
        refine L.va rfl (X.assign (by conv => lhs; whnf)) ?_
        refine L.nil ?_
        refine J.ret ?_
        refine thn_ret <| ?_
        refine fin1 ?_
        exact six _ hS (.inr (.inr ⟨by omega, .inr (.inl ⟨by omega, by omega⟩)⟩))
       ·have h4 : ¬ bits .and .u8 (b.getD 0 0) 16 = 0 := h4
        refine D.va 28 rfl (by kernel_rfl) (fun _ _ _ h => h) rfl (fun w' hw => X.move (by conv => lhs; whnf)) hS ?_
        refine D.va 29 rfl (by kernel_rfl) (fun _ _ _ h => h) rfl (fun w' hw => X.index1n (j := 2) rfl rfl Tryz.underlying71 sz_5 (by first | exact Option.some_ne_none _ | exact hr.some_ (by omega) | exact hA) (by omega)) hS ?_
        refine D.va 30 rfl (by kernel_rfl) (fun _ _ _ h => h) rfl (fun w' hw => X.load rfl sc_5 (by first | exact Ld.num (hr.ext hw) (by omega) | exact hA)) hS ?_
        refine D.va 31 rfl (by kernel_rfl) (fun _ _ _ h => h) rfl (fun w' hw => X.eql rfl rfl) hS ?_
        refine D.va 32 rfl (by kernel_rfl) (fun _ _ _ h => h) rfl (fun w' hw => X.move (by conv => lhs; whnf)) hS ?_
        refine D.caseDecF (k := 80) rfl (by omega) ?_
        refine D.no 33 rfl (by kernel_rfl) (fun _ _ _ h => h) rfl hS ?_
        refine D.no 34 rfl (by kernel_rfl) (fun _ _ _ h => h) rfl hS ?_
        refine D.no 35 rfl (by kernel_rfl) (fun _ _ _ h => h) rfl hS ?_
        refine D.no 36 rfl (by kernel_rfl) (fun _ _ _ h => h) rfl hS ?_
        refine D.no 37 rfl (by kernel_rfl) (fun _ _ _ h => h) rfl hS ?_
        refine D.no 38 rfl (by kernel_rfl) (fun _ _ _ h => h) rfl hS ?_
        refine D.no 39 rfl (by kernel_rfl) (fun _ _ _ h => h) rfl hS ?_
        refine D.no 40 rfl (by kernel_rfl) (fun _ _ _ h => h) rfl hS ?_
        refine D.no 41 rfl (by kernel_rfl) (fun _ _ _ h => h) rfl hS ?_
        refine D.no 42 rfl (by kernel_rfl) (fun _ _ _ h => h) rfl hS ?_
        refine D.no 43 rfl (by kernel_rfl) (fun _ _ _ h => h) rfl hS ?_
        refine D.va 44 rfl (by kernel_rfl) (fun _ _ _ h => h) rfl (fun w' hw => X.pickF rfl (by conv => lhs; whnf)) hS ?_
        refine D.va 45 rfl (by kernel_rfl) (fun _ _ _ h => h) rfl (fun w' hw => X.pickF rfl (by conv => lhs; whnf)) hS ?_
        refine D.va 46 rfl (by kernel_rfl) (fun _ _ _ h => h) rfl (fun w' hw => X.pickT rfl (by conv => lhs; whnf)) hS ?_
        refine D.done (by kernel_rfl) ?_
        replace hr := hr.ext hS
        refine J.iteF rfl ?_
        refine J.skip ?_
        refine ⟨(), At0 , (by (iterate 52 refine Agr.lk rfl ?_); exact Agr.rfl'), ?_⟩
        refine ⟨?_, hS⟩
        rintro ⟨_, h | ⟨_, h⟩ | ⟨h, _⟩⟩ <;> omega
      ·refine D.no 20 rfl (by kernel_rfl) (fun _ _ _ h => h) rfl hS ?_
       refine D.no 21 rfl (by kernel_rfl) (fun _ _ _ h => h) rfl hS ?_
       refine D.no 22 rfl (by kernel_rfl) (fun _ _ _ h => h) rfl hS ?_
       refine D.no 23 rfl (by kernel_rfl) (fun _ _ _ h => h) rfl hS ?_
       refine D.no 24 rfl (by kernel_rfl) (fun _ _ _ h => h) rfl hS ?_
       refine D.va 25 rfl (by kernel_rfl) (fun _ _ _ h => h) rfl (fun w' hw => X.pickF rfl (by conv => lhs; whnf)) hS ?_
       refine D.va 26 rfl (by kernel_rfl) (fun _ _ _ h => h) rfl (fun w' hw => X.pickF rfl (by conv => lhs; whnf)) hS ?_
       refine D.va 27 rfl (by kernel_rfl) (fun _ _ _ h => h) rfl (fun w' hw => X.move (by conv => lhs; whnf)) hS ?_
       refine D.va 28 rfl (by kernel_rfl) (fun _ _ _ h => h) rfl (fun w' hw => X.move (by conv => lhs; whnf)) hS ?_
       refine D.va 29 rfl (by kernel_rfl) (fun _ _ _ h => h) rfl (fun w' hw => X.index1n (j := 2) rfl rfl Tryz.underlying71 sz_5 (by first | exact Option.some_ne_none _ | exact hr.some_ (by omega) | exact hA) (by omega)) hS ?_
       refine D.va 30 rfl (by kernel_rfl) (fun _ _ _ h => h) rfl (fun w' hw => X.load rfl sc_5 (by first | exact Ld.num (hr.ext hw) (by omega) | exact hA)) hS ?_
       refine D.va 31 rfl (by kernel_rfl) (fun _ _ _ h => h) rfl (fun w' hw => X.eql rfl rfl) hS ?_
       refine D.va 32 rfl (by kernel_rfl) (fun _ _ _ h => h) rfl (fun w' hw => X.move (by conv => lhs; whnf)) hS ?_
       refine D.caseDecT (k := 80) rfl (by omega) ?_
       refine D.va 33 rfl (by kernel_rfl) (fun _ _ _ h => h) rfl (fun w' hw => X.move (by conv => lhs; whnf)) hS ?_
       refine D.va 34 rfl (by kernel_rfl) (fun _ _ _ h => h) rfl (fun w' hw => X.index1n (j := 1) rfl rfl Tryz.underlying71 sz_5 (by first | exact Option.some_ne_none _ | exact hr.some_ (by omega) | exact hA) (by omega)) hS ?_
       refine D.va 35 rfl (by kernel_rfl) (fun _ _ _ h => h) rfl (fun w' hw => X.load rfl sc_5 (by first | exact Ld.num (hr.ext hw) (by omega) | exact hA)) hS ?_
       refine D.va 36 rfl (by kernel_rfl) (fun _ _ _ h => h) rfl (fun w' hw => X.gtr rfl rfl) hS ?_
       refine D.va 37 rfl (by kernel_rfl) (fun _ _ _ h => h) rfl (fun w' hw => X.move (by conv => lhs; whnf)) hS ?_
       refine D.caseDec (k := 85) rfl (fun h5 => ?_) (fun h5 => ?_)
       ·refine D.no 38 rfl (by kernel_rfl) (fun _ _ _ h => h) rfl hS ?_
        refine D.no 39 rfl (by kernel_rfl) (fun _ _ _ h => h) rfl hS ?_
        refine D.no 40 rfl (by kernel_rfl) (fun _ _ _ h => h) rfl hS ?_
        refine D.no 41 rfl (by kernel_rfl) (fun _ _ _ h => h) rfl hS ?_
        refine D.no 42 rfl (by kernel_rfl) (fun _ _ _ h => h) rfl hS ?_
        refine D.va 43 rfl (by kernel_rfl) (fun _ _ _ h => h) rfl (fun w' hw => X.pickT rfl (by conv => lhs; whnf)) hS ?_
        refine D.va 44 rfl (by kernel_rfl) (fun _ _ _ h => h) rfl (fun w' hw => X.pickT rfl (by conv => lhs; whnf)) hS ?_
        refine D.va 45 rfl (by kernel_rfl) (fun _ _ _ h => h) rfl (fun w' hw => X.pickF rfl (by conv => lhs; whnf)) hS ?_
        refine D.va 46 rfl (by kernel_rfl) (fun _ _ _ h => h) rfl (fun w' hw => X.pickT rfl (by conv => lhs; whnf)) hS ?_
        refine D.done (by kernel_rfl) ?_
        replace hr := hr.ext hS
        refine J.iteT rfl ?_
        refine J.seq ?_
        refine J.region ?_
        refine L.va rfl (X.assign (by conv => lhs; whnf)) ?_
        refine L.nil ?_
        refine J.ret ?_
        refine thn_ret <| ?_
        refine fin1 ?_
        exact six _ hS (.inr (.inr ⟨by omega, .inr (.inr ⟨by omega, .inl h5⟩)⟩))
       ·refine D.va 38 rfl (by kernel_rfl) (fun _ _ _ h => h) rfl (fun w' hw => X.move (by conv => lhs; whnf)) hS ?_
        refine D.va 39 rfl (by kernel_rfl) (fun _ _ _ h => h) rfl (fun w' hw => X.index1n (j := 0) rfl rfl Tryz.underlying71 sz_5 (by first | exact Option.some_ne_none _ | exact hr.some_ (by omega) | exact hA) (by omega)) hS ?_
        refine D.va 40 rfl (by kernel_rfl) (fun _ _ _ h => h) rfl (fun w' hw => X.load rfl sc_5 (by first | exact Ld.num (hr.ext hw) (by omega) | exact hA)) hS ?_
        refine D.va 41 rfl (by kernel_rfl) (fun _ _ _ h => h) rfl (fun w' hw => X.and rfl rfl) hS ?_
        refine D.va 42 rfl (by kernel_rfl) (fun _ _ _ h => h) rfl (fun w' hw => X.neq rfl rfl) hS ?_
        refine D.va 43 rfl (by kernel_rfl) (fun _ _ _ h => h) rfl (fun w' hw => X.pickF rfl (by conv => lhs; whnf)) hS ?_
        refine D.va 44 rfl (by kernel_rfl) (fun _ _ _ h => h) rfl (fun w' hw => X.pickT rfl (by conv => lhs; whnf)) hS ?_
        refine D.va 45 rfl (by kernel_rfl) (fun _ _ _ h => h) rfl (fun w' hw => X.pickF rfl (by conv => lhs; whnf)) hS ?_
        refine D.va 46 rfl (by kernel_rfl) (fun _ _ _ h => h) rfl (fun w' hw => X.pickT rfl (by conv => lhs; whnf)) hS ?_
        refine D.done (by kernel_rfl) ?_
        replace hr := hr.ext hS
        refine J.ndec rfl (fun h6 => ?_) (fun h6 => ?_)
        ·have h6 : ¬ bits .and .u8 (b.getD 0 0) 32 = 0 := h6
         refine J.seq ?_
         refine J.region ?_
         refine L.va rfl (X.assign (by conv => lhs; whnf)) ?_
         refine L.nil ?_
         refine J.ret ?_
         refine thn_ret <| ?_
         refine fin1 ?_
         exact six _ hS (.inr (.inr ⟨by omega, .inr (.inr ⟨by omega, .inr (by omega)⟩)⟩))
        ·have h6 : bits .and .u8 (b.getD 0 0) 32 = 0 := h6
         refine J.skip ?_
         refine ⟨(), At0 , (by (iterate 52 refine Agr.lk rfl ?_); exact Agr.rfl'), ?_⟩
         refine ⟨?_, hS⟩
         rintro ⟨_, h | ⟨h, _⟩ | ⟨_, h⟩⟩ <;> omega
    ·refine J.seq ?_
     refine J.draw (ℓ := 1000000) (S := Ext w) mixed (fun w2 hS hS_h => ?_)
     refine D.va 0 rfl (by kernel_rfl) (fun _ _ _ h => h) rfl (fun w' hw => X.move (by conv => lhs; whnf)) hS ?_
     refine D.va 1 rfl (by kernel_rfl) (fun _ _ _ h => h) rfl (fun w' hw => X.len rfl Tryz.underlying71) hS ?_
     refine D.va 2 rfl (by kernel_rfl) (fun _ _ _ h => h) rfl (fun w' hw => X.gtr rfl rfl) hS ?_
     refine D.va 3 rfl (by kernel_rfl) (fun _ _ _ h => h) rfl (fun w' hw => X.move (by conv => lhs; whnf)) hS ?_
     refine D.caseDecF (k := 51) rfl (by omega) ?_
     refine D.no 4 rfl (by kernel_rfl) (fun _ _ _ h => h) rfl hS ?_
     refine D.no 5 rfl (by kernel_rfl) (fun _ _ _ h => h) rfl hS ?_
     refine D.no 6 rfl (by kernel_rfl) (fun _ _ _ h => h) rfl hS ?_
     refine D.no 7 rfl (by kernel_rfl) (fun _ _ _ h => h) rfl hS ?_
     refine D.no 8 rfl (by kernel_rfl) (fun _ _ _ h => h) rfl hS ?_
     refine D.no 9 rfl (by kernel_rfl) (fun _ _ _ h => h) rfl hS ?_
     refine D.no 10 rfl (by kernel_rfl) (fun _ _ _ h => h) rfl hS ?_
     refine D.no 11 rfl (by kernel_rfl) (fun _ _ _ h => h) rfl hS ?_
     refine D.no 12 rfl (by kernel_rfl) (fun _ _ _ h => h) rfl hS ?_
     refine D.no 13 rfl (by kernel_rfl) (fun _ _ _ h => h) rfl hS ?_
     refine D.no 14 rfl (by kernel_rfl) (fun _ _ _ h => h) rfl hS ?_
     refine D.no 15 rfl (by kernel_rfl) (fun _ _ _ h => h) rfl hS ?_
     refine D.no 16 rfl (by kernel_rfl) (fun _ _ _ h => h) rfl hS ?_
     refine D.no 17 rfl (by kernel_rfl) (fun _ _ _ h => h) rfl hS ?_
     refine D.no 18 rfl (by kernel_rfl) (fun _ _ _ h => h) rfl hS ?_
     refine D.no 19 rfl (by kernel_rfl) (fun _ _ _ h => h) rfl hS ?_
     refine D.no 20 rfl (by kernel_rfl) (fun _ _ _ h => h) rfl hS ?_
     refine D.no 21 rfl (by kernel_rfl) (fun _ _ _ h => h) rfl hS ?_
     refine D.no 22 rfl (by kernel_rfl) (fun _ _ _ h => h) rfl hS ?_
     refine D.no 23 rfl (by kernel_rfl) (fun _ _ _ h => h) rfl hS ?_
     refine D.no 24 rfl (by kernel_rfl) (fun _ _ _ h => h) rfl hS ?_
     refine D.no 25 rfl (by kernel_rfl) (fun _ _ _ h => h) rfl hS ?_
     refine D.no 26 rfl (by kernel_rfl) (fun _ _ _ h => h) rfl hS ?_
     refine D.no 27 rfl (by kernel_rfl) (fun _ _ _ h => h) rfl hS ?_
     refine D.no 28 rfl (by kernel_rfl) (fun _ _ _ h => h) rfl hS ?_
     refine D.no 29 rfl (by kernel_rfl) (fun _ _ _ h => h) rfl hS ?_
     refine D.no 30 rfl (by kernel_rfl) (fun _ _ _ h => h) rfl hS ?_
     refine D.no 31 rfl (by kernel_rfl) (fun _ _ _ h => h) rfl hS ?_
     refine D.no 32 rfl (by kernel_rfl) (fun _ _ _ h => h) rfl hS ?_
     refine D.no 33 rfl (by kernel_rfl) (fun _ _ _ h => h) rfl hS ?_
     refine D.no 34 rfl (by kernel_rfl) (fun _ _ _ h => h) rfl hS ?_
     refine D.no 35 rfl (by kernel_rfl) (fun _ _ _ h => h) rfl hS ?_
     refine D.no 36 rfl (by kernel_rfl) (fun _ _ _ h => h) rfl hS ?_
     refine D.no 37 rfl (by kernel_rfl) (fun _ _ _ h => h) rfl hS ?_
     refine D.no 38 rfl (by kernel_rfl) (fun _ _ _ h => h) rfl hS ?_
     refine D.no 39 rfl (by kernel_rfl) (fun _ _ _ h => h) rfl hS ?_
     refine D.no 40 rfl (by kernel_rfl) (fun _ _ _ h => h) rfl hS ?_
     refine D.no 41 rfl (by kernel_rfl) (fun _ _ _ h => h) rfl hS ?_
     refine D.no 42 rfl (by kernel_rfl) (fun _ _ _ h => h) rfl hS ?_
     refine D.no 43 rfl (by kernel_rfl) (fun _ _ _ h => h) rfl hS ?_
     refine D.no 44 rfl (by kernel_rfl) (fun _ _ _ h => h) rfl hS ?_
     refine D.no 45 rfl (by kernel_rfl) (fun _ _ _ h => h) rfl hS ?_
     refine D.va 46 rfl (by kernel_rfl) (fun _ _ _ h => h) rfl (fun w' hw => X.pickF rfl (by conv => lhs; whnf)) hS ?_
     refine D.done (by kernel_rfl) ?_
     refine J.iteF rfl ?_
     refine J.skip ?_
     refine ⟨(), At0 , (by (iterate 48 refine Agr.lk rfl ?_); exact Agr.rfl'), ?_⟩
     exact ⟨fun h => h1 (by have := h.1; omega), hS⟩
   ·rintro ⟨⟩ g w2 ⟨n3, he2⟩
    refine J.seq ?_
    refine J.region ?_
    refine L.va rfl (X.assign (by conv => lhs; whnf)) ?_
    refine L.nil ?_
    refine J.ret ?_
    refine fin1 ?_
    have hh : headE b = 0 := if_neg (by
     rintro (h | h | h)
     ·exact n1 h
     ·exact n2 h
     ·exact n3 h)
    refine ⟨?_, he2⟩
    rw [hh]
    rfl
end Go.Proofs.YtpomklkfedpkfaaGreat
