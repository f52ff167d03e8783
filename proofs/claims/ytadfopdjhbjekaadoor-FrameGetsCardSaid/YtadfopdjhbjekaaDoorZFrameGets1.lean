import Derived.Below
import Derived.BigQuiet
import Derived.ChangeKeysEq
import Derived.Deep.AppendLies
import Derived.Deep.DeepCutAuto
import Derived.Deep.Draws
import Derived.Deep.MidRow
import Derived.Deep.Onto
import Derived.Deep.OwnRows
import Derived.Deep.QuietTactic
import Derived.Deep.RegionHeld3
import Derived.Deep.RegionWith
import Derived.DeepKeys5
import Derived.IntWalk
import Derived.LaidEqlPtr
import Derived.Laws.AppendOwn
import Derived.Laws.BitsAllLaws
import Derived.Laws.BitsLemmas
import Derived.Laws.BytesArg
import Derived.Laws.Entries
import Derived.Laws.MakeOwn
import Derived.Laws.OwnMore
import Derived.Laws.Pointers
import Derived.Laws.Rows
import Derived.Laws.Small
import Derived.Laws.StructEq
import Derived.Lib.Hide
import Derived.Lib.SlBytesConst
import Derived.Lib.Strings
import Derived.LoopN
import Derived.Maps.AppendAt
import Derived.Maps.OwnSet
import Derived.OpenShut
import Derived.OrdersHeld
import Derived.Outline
import Derived.OwnWalk
import Derived.ProofKit
import Derived.RangeFuncBox
import Derived.RangeFuncCalls
import Derived.RangeFuncLeaves
import Derived.RangeFuncOwn
import Derived.RegionTactic
import Derived.StringKeys
import Derived.Tactics
import Derived.TacticsIn
import Derived.Test.YtadfopdjhbjekaaDoorProg
import Derived.WalkKit
import Derived.WalkLawsBesides
import Derived.WalkSpells
/-
  What the law leans on, part 1: Base, AppB, TextP, SealP, WSealA, WCrcs, WFrames, FrAPlain, Logic, Round, Typs, Aux, WFrA, WFrB, WFrC, LFrameGets.
-/
namespace Go.Proofs.YtadfopdjhbjekaaDoor
open Go.RowKit
theorem ret_int {k : IntKind} {a b : Int} (h : a = b) : Ending.returned (.int k a) = .returned (.int k b) := by rw [h]
theorem block_of_add (a : Addr) (n : Nat) : (a.add n).block = a.block := by unfold Addr.add; split <;> rfl
theorem add_of_add (a : Addr) (i j : Nat) : (a.add i).add j = a.add (i + j) := by
  unfold Addr.add
  by_cases hi : i = 0 <;> by_cases hj : j = 0 <;> simp [hi, hj, Nat.add_assoc]
def Reads (w : World) (B size : Nat) (A : Option Addr) (n : Nat) (xs : List Value) : Prop :=
  xs.length = n * size ∧ (0 < n → ∃ ad, A = some ad ∧ ad.block < B ∧ ∀ j u, xs[j]? = some u → w.cell? (ad.add j) = some u)
section
variable {w w' : World} {B B' size n : Nat} {A : Option Addr} {xs : List Value}
theorem Reads.none_ : Reads w B size A 0 [] := ⟨by simp, fun h => absurd h (by omega)⟩
theorem Reads.at_ {k : Nat} (h : Reads w B 1 A n xs) (hk : k < n) : ∃ b off u, A = some ⟨b, off, none⟩ ∧ b < B ∧ xs[k]? = some u ∧ w.cell? ⟨b, off + k, none⟩ = some u := by
  obtain ⟨ad, e, hb, hc⟩ := h.2 (by omega)
  have hl : k < xs.length := by have := h.1; omega
  have hcell := hc k _ (List.getElem?_eq_getElem hl)
  obtain ⟨b, off, spot⟩ := ad
  have h0 := hc 0 _ (List.getElem?_eq_getElem (by omega))
  have hs : spot = none := by simpa [Addr.add] using World.cell?_spot h0
  subst hs
  refine ⟨b, off, xs[k], e, hb, List.getElem?_eq_getElem hl, ?_⟩
  by_cases h : k = 0
  · subst h; simpa [Addr.add] using hcell
  · simpa [Addr.add, h] using hcell
theorem Reads.keep (h : Reads w B size A n xs) (hk : ∀ p : Addr, p.block < B → w'.cell? p = w.cell? p) : Reads w' B size A n xs :=
  ⟨h.1, fun hn => by
    obtain ⟨ad, e, hb, hc⟩ := h.2 hn
    exact ⟨ad, e, hb, fun j u hu => (hk _ (by rw [block_of_add]; exact hb)).trans (hc j u hu)⟩⟩
theorem Reads.more (h : Reads w B size A n xs) (hB : B ≤ B') : Reads w B' size A n xs :=
  ⟨h.1, fun hn => by
    obtain ⟨ad, e, hb, hc⟩ := h.2 hn
    exact ⟨ad, e, by omega, hc⟩⟩
theorem Reads.below (h : Reads w B size A n xs) (hb : Below B w w') : Reads w' B size A n xs := h.keep fun _ hp => hb.cell hp
theorem Reads.drew (h : Reads w B size A n xs) : Reads w.drew B size A n xs := h
theorem Reads.drewN (h : Reads w B size A n xs) (k : Nat) : Reads (w.drewN k) B size A n xs := h
theorem Reads.alloc (h : Reads w B size A n xs) (hB : B ≤ w.heap.size) (o : Obj) : Reads (w.alloc o) B size A n xs := h.keep fun p hp => World.cell?_alloc_lt w o p (by omega)
theorem Reads.setCell (h : Reads w B size A n xs) {p : Addr} (hB : B ≤ p.block) (u : Value) : Reads (w.setCell p u) B size A n xs :=
  h.keep fun q hq => World.cell?_setCell_other w p q u (fun e => by subst e; omega)
theorem Reads.grown (h : Reads w B size A n xs) {row : Option Nat} (hg : w.grownBy w' row) (hB : B ≤ w.heap.size) (hr : ∀ g, row = some g → B ≤ g) : Reads w' B size A n xs :=
  h.keep fun p hp => World.cell?_of_block (hg.block p.block (by omega) (fun e => by have := hr _ e.symm; omega))
theorem Reads.cut (h : Reads w B size A n xs) {k cap : Nat} (hk : k ≤ n) (hc : n ≤ cap) :
    Reads w B size (if cap = k then A else A.map (·.add (k * size))) (n - k) (xs.drop (k * size)) := by
  refine ⟨by rw [List.length_drop, h.1, Nat.sub_mul], fun hn => ?_⟩
  obtain ⟨ad, rfl, hb, hcell⟩ := h.2 (by omega)
  rw [if_neg (by omega)]
  refine ⟨ad.add (k * size), rfl, by rw [block_of_add]; exact hb, fun j u hu => ?_⟩
  rw [add_of_add]
  exact hcell _ u (by rw [← hu, List.getElem?_drop])
theorem Reads.first (h : Reads w B size A n xs) {k : Nat} (hk : k ≤ n) : Reads w B size A k (xs.take (k * size)) := by
  refine ⟨by rw [List.length_take, h.1]; exact Nat.min_eq_left (Nat.mul_le_mul_right _ hk), fun hn => ?_⟩
  obtain ⟨ad, rfl, hb, hcell⟩ := h.2 (by omega)
  refine ⟨ad, rfl, hb, fun j u hu => hcell j u ?_⟩
  rw [List.getElem?_take] at hu
  split at hu
  · exact hu
  · cases hu
theorem Reads.of_own {base : Nat} {e : TypeId} {c : Nat} (h : w.ownsRow base e size (.slice A n c) n xs) : Reads w w.heap.size size A n xs := by
  refine ⟨h.1, fun hn => ?_⟩
  obtain ⟨g, cap, hv, _, hlt⟩ := h.form hn
  have hA : A = some ⟨g, 0, none⟩ := by injection hv
  subst hA
  exact ⟨_, rfl, hlt, h.cells (g := g) rfl⟩
end
theorem cell_new (w : World) (cs : Array Value) (t : TypeId) (m : Nat × Nat) (i : Nat) : (w.alloc (.cells cs t m)).cell? ⟨w.heap.size, i, none⟩ = cs[i]? := by
  have : (w.alloc (.cells cs t m)).heap[w.heap.size]? = some (.cells cs t m) := by
    show (w.heap.push _)[w.heap.size]? = _
    simp
  simp only [World.cell?]; rw [this]; rfl
theorem Reads.new (w : World) (l : List Value) (t : TypeId) (m : Nat × Nat) (n : Nat) (hn : n = l.length) : Reads (w.alloc (.cells l.toArray t m)) (w.heap.size + 1) 1 (some ⟨w.heap.size, 0, none⟩) n l := by
  subst hn
  refine ⟨by simp, fun _ => ⟨_, rfl, by simp, fun j u hu => ?_⟩⟩
  have e : (⟨w.heap.size, 0, none⟩ : Addr).add j = ⟨w.heap.size, j, none⟩ := by unfold Addr.add; split <;> simp_all
  rw [e, cell_new]
  simpa using hu
def nums (k : IntKind) (zs : List Int) : List Value := zs.map (Value.int k)
theorem nums_at {k : IntKind} {zs : List Int} {i : Nat} {u : Value} (h : (nums k zs)[i]? = some u) : ∃ z, zs[i]? = some z ∧ u = .int k z := by
  unfold nums at h
  rw [List.getElem?_map] at h
  cases hz : zs[i]? with
  | none => rw [hz] at h; cases h
  | some z => rw [hz] at h; injection h with h; exact ⟨z, rfl, h.symm⟩
theorem nums_length (k : IntKind) (zs : List Int) : (nums k zs).length = zs.length := by simp [nums]
theorem below_drewN {B : Nat} {a w : World} (h : Below B a w) (n : Nat) : Below B a (w.drewN n) := ⟨h.os, h.tape, h.output, h.size, h.block⟩
end Go.Proofs.YtadfopdjhbjekaaDoor
namespace Go.Proofs.YtadfopdjhbjekaaDoor
open Go.RowKit
def Blk (w : World) (g : Nat) (t : TypeId) (cs : Array Value) : Prop := w.heap[g]? = some (.cells cs t (0, 0))
section
variable {w w' : World} {g : Nat} {t : TypeId} {cs : Array Value}
theorem Blk.lt (h : Blk w g t cs) : g < w.heap.size := by
  rcases Nat.lt_or_ge g w.heap.size with hlt | hge
  · exact hlt
  · unfold Blk at h; rw [Array.getElem?_eq_none hge] at h; cases h
theorem Blk.cell (h : Blk w g t cs) (i : Nat) : w.cell? ⟨g, i, none⟩ = cs[i]? := cell_of_row w g i cs t (0, 0) h
theorem Blk.frozen (h : Blk w g t cs) (i : Nat) : w.frozen? ⟨g, i, none⟩ = false := by
  unfold Blk at h
  simp [World.frozen?, h]
theorem Blk.new (w : World) (t : TypeId) (cs : Array Value) : Blk (w.alloc (.cells cs t)) w.heap.size t cs := heap_alloc_new w _
theorem Blk.drew (h : Blk w g t cs) : Blk w.drew g t cs := h
theorem Blk.alloc (h : Blk w g t cs) (o : Obj) : Blk (w.alloc o) g t cs := (Below.heap_alloc w o g h.lt).trans h
theorem Blk.set_ (h : Blk w g t cs) (i : Nat) (u : Value) : Blk (w.setCell ⟨g, i, none⟩ u) g t (cs.setIfInBounds i u) := by
  unfold Blk at h ⊢
  simp [World.setCell, Array.getElem?_modify, h]
theorem Blk.below {B : Nat} (h : Blk w g t cs) (hb : Below B w w') (hg : g < B) : Blk w' g t cs := (hb.block g hg).trans h
theorem Blk.grown {row : Option Nat} (h : Blk w g t cs) (hb : w.grownBy w' row) (hg : some g ≠ row) : Blk w' g t cs := (hb.block g h.lt hg).trans h
end
section
variable {P : Program} (w : World)
theorem run_append_of_nil (base : Nat) (t ty e : TypeId) (i : TypeInfo) (size : Nat) (ht : P.underlying t = some (.slice e)) (hi : P.info? e = some i)
    (v : Value) (n : Nat) (xs : List Value) (hown : w.ownsRow base e size v n xs) (c : Nat) : (Builtin.append_ #[t, t] ty #[v, .slice none 0 c]).run P w = .ok v w := by
  rcases hown.2 with ⟨rfl, rfl⟩ | ⟨g, cap, cur, rfl, _, _, hnc, _⟩
  · simp [Builtin.append_, run_underlying ht, sizeOf, typeInfo, hi, Builtin.lenOf, Builtin.firstCells]
  · simp [Builtin.append_, run_underlying ht, sizeOf, typeInfo, hi, Builtin.lenOf, Builtin.firstCells, hnc, storeCells]
theorem run_append_any (base : Nat) (t ty e : TypeId) (i : TypeInfo) (z : Value) (size bytes : Nat) (ht : P.underlying t = some (.slice e)) (hi : P.info? e = some i) (hz : i.zero = some z)
    (hsize : i.size = size) (hby : i.bytes = bytes) (hzs : z.cells.size = size) (hsz : 0 < size)
    (v : Value) (n : Nat) (xs : List Value) (hown : w.ownsRow base e size v n xs)
    (B : Nat) (A : Option Addr) (m c : Nat) (news : List Value) (hr : Reads w B size A m news) (h1 : ∀ u ∈ news, u.oneCell' = true)
    (h63 : n + m ≤ maxLen) (hbytes : (n + m) * bytes ≤ 140737488355328) (hbase : base ≤ w.heap.size) :
    ∃ v' w', (Builtin.append_ #[t, t] ty #[v, .slice A m c]).run P w = .ok v' w' ∧ w'.ownsRow base e size v' (n + m) (xs ++ news) ∧ w.grownBy w' v.ownBlock ∧
      (v'.ownBlock = v.ownBlock ∨ v'.ownBlock = some w.heap.size) := by
  rcases A with _ | ad
  · have hm : m = 0 := by
      rcases Nat.eq_zero_or_pos m with h0 | h0
      · exact h0
      · obtain ⟨ad, h, _⟩ := hr.2 h0
        cases h
    subst hm
    have hn : news = [] := List.eq_nil_of_length_eq_zero (by simpa using hr.1)
    subst hn
    exact ⟨v, w, run_append_of_nil w base t ty e i size ht hi v n xs hown c, by simpa using hown, World.grownBy.refl w _, .inl rfl⟩
  · have hcells : ∀ j u, news[j]? = some u → w.cell? (ad.add j) = some u := by
      intro j u hu
      rcases Nat.eq_zero_or_pos m with h0 | h0
      · subst h0
        have hn : news = [] := List.eq_nil_of_length_eq_zero (by simpa using hr.1)
        subst hn
        simp at hu
      · obtain ⟨ad', h, _, hc⟩ := hr.2 h0
        injection h with h
        subst h
        exact hc j u hu
    obtain ⟨v', w', hrun, h2, h3, _, h5⟩ := run_append_own_at (P := P) w base t ty e i z size bytes ht hi hz hsize hby hzs hsz v n xs hown ad m c news hr.1 hcells h1 h63 hbytes hbase
    exact ⟨v', w', hrun, h2, h3, h5⟩
theorem wp_append_any {o : Oper} {a : Act} {K : Act → World → Prop} {Q : Exit → Act → World → Prop} (s x : Operand) (t : TypeId)
    (ho : o.op = .call { callee := .builtin .append, args := #[s, x], argTypes := #[t, t] })
    (base : Nat) (e : TypeId) (i : TypeInfo) (z : Value) (size bytes : Nat) (ht : P.underlying t = some (.slice e)) (hi : P.info? e = some i) (hz : i.zero = some z)
    (hsize : i.size = size) (hby : i.bytes = bytes) (hzs : z.cells.size = size) (hsz : 0 < size)
    (v : Value) (n : Nat) (xs : List Value) (hs : a.eval s = v) (hown : w.ownsRow base e size v n xs)
    (B : Nat) (A : Option Addr) (m c : Nat) (news : List Value) (hx : a.eval x = .slice A m c) (hr : Reads w B size A m news) (h1 : ∀ u ∈ news, u.oneCell' = true)
    (h63 : n + m ≤ maxLen) (hbytes : (n + m) * bytes ≤ 140737488355328) (hbase : base ≤ w.heap.size)
    (h : ∀ v' w', w'.ownsRow base e size v' (n + m) (xs ++ news) → w.grownBy w' v.ownBlock → (v'.ownBlock = v.ownBlock ∨ v'.ownBlock = some w.heap.size) → K (a.put o.dst v') w') : o.wp P a w K Q := by
  obtain ⟨v', w', hrun, h2, h3, h4⟩ := run_append_any (P := P) w base t o.type e i z size bytes ht hi hz hsize hby hzs hsz v n xs hown B A m c news hr h1 h63 hbytes hbase
  unfold Oper.wp execOp
  simp only [ho, resolve, invoke, builtin, Sem.run_bind, Sem.run_pure, Result.andThen_ok, List.map_toArray, List.map_cons, List.map_nil, hs, hx, hrun]
  exact h v' w' h2 h3 h4
end
theorem run_make_rowN {P : Program} (t e : TypeId) (i : TypeInfo) (z : Value) (ht : P.underlying t = some (.slice e)) (hi : P.info? e = some i) (hz : i.zero = some z)
    (kl kc : IntKind) (n c : Nat) (hnc : n ≤ c) (hbytes : i.bytes * c ≤ 281474976710656) (h63 : c ≤ 9223372036854775807) (w : World) :
    (Instr.makeSlice t (.int kl (n : Int)) (.int kc (c : Int))).run P w = .ok (.slice (some ⟨w.heap.size, 0, none⟩) n c) (w.alloc (.cells (madeCells z.cells (c * i.size)) e)) := by
  have hb : (i.bytes : Int) * (c : Int) ≤ 281474976710656 := by
    have h : ((i.bytes * c : Nat) : Int) ≤ 281474976710656 := by omega
    rwa [Int.natCast_mul] at h
  have hr := run_make (P := P) w t e i z ht hi hz kl kc n c (by omega) (by omega) hb (by omega)
  simp only [Int.toNat_natCast] at hr
  exact hr
theorem ofInt_i64 (a : Nat) (ha : a < 9223372036854775808) : (BitVec.ofInt 64 (a : Int)).toNat = a := by
  rw [BitVec.ofInt_natCast, BitVec.toNat_ofNat]; exact Nat.mod_eq_of_lt (by omega)
theorem i64_or_nat (a b : Nat) (ha : a < 9223372036854775808) (hb : b < 9223372036854775808) : bits .or .i64 (a : Int) (b : Int) = ((a ||| b : Nat) : Int) := by
  have hx : a ||| b < 2 ^ 63 := Nat.or_lt_two_pow (by omega) (by omega)
  show IntKind.i64.wrap ((BitVec.ofInt 64 (a : Int) ||| BitVec.ofInt 64 (b : Int)).toNat : Int) = _
  rw [BitVec.toNat_or, ofInt_i64 a ha, ofInt_i64 b hb, IntKind.wrap_i64]
  omega
end Go.Proofs.YtadfopdjhbjekaaDoor
namespace Go.Proofs.YtadfopdjhbjekaaDoor
open Go.RowKit Go.ChangeShapes Go.WideShapes
structure Nm (k : IntKind) where
  z : Int
  ok : (Lit.int k z).wf = true
structure Str where
  s : ByteArray
  ok : s.size ≤ maxLen
structure Fl where
  b : Nat
  ok : (Lit.float .f64 b).wf = true
structure Vec (n : Nat) (α : Type) where
  l : List α
  len : l.length = n
class Lay (α : Type) where
  size : Nat
  lies : World → Nat → List Value → α → Prop
  length : ∀ {w : World} {B : Nat} {vs : List Value} {a : α}, lies w B vs a → vs.length = size
  keep : ∀ {w w' : World} {B : Nat} {vs : List Value} {a : α}, lies w B vs a → (∀ p : Addr, p.block < B → w'.cell? p = w.cell? p) → lies w' B vs a
  more : ∀ {w : World} {B B' : Nat} {vs : List Value} {a : α}, lies w B vs a → B ≤ B' → lies w B' vs a
instance (k : IntKind) : Lay (Nm k) where
  size := 1
  lies _ _ vs a := vs = [.int k a.z]
  length h := by rw [h]; rfl
  keep h _ := h
  more h _ := h
instance : Lay Bool where
  size := 1
  lies _ _ vs a := vs = [.bool a]
  length h := by rw [h]; rfl
  keep h _ := h
  more h _ := h
instance : Lay Str where
  size := 1
  lies _ _ vs a := vs = [.string a.s]
  length h := by rw [h]; rfl
  keep h _ := h
  more h _ := h
instance : Lay Fl where
  size := 1
  lies _ _ vs a := vs = [.float .f64 a.b]
  length h := by rw [h]; rfl
  keep h _ := h
  more h _ := h
instance {α β : Type} [Lay α] [Lay β] : Lay (α × β) where
  size := Lay.size α + Lay.size β
  lies w B vs a := ∃ us ws, vs = us ++ ws ∧ Lay.lies w B us a.1 ∧ Lay.lies w B ws a.2
  length := by rintro w B vs a ⟨us, ws, rfl, h1, h2⟩; rw [List.length_append, Lay.length h1, Lay.length h2]
  keep := by rintro w w' B vs a ⟨us, ws, rfl, h1, h2⟩ hk; exact ⟨us, ws, rfl, Lay.keep h1 hk, Lay.keep h2 hk⟩
  more := by rintro w B B' vs a ⟨us, ws, rfl, h1, h2⟩ hk; exact ⟨us, ws, rfl, Lay.more h1 hk, Lay.more h2 hk⟩
def LiesAt {α : Type} [Lay α] (w : World) (B : Nat) (ad : Addr) (i : Nat) (a : α) : Prop :=
  ∃ us : List Value, (∀ j, j < Lay.size α → w.cell? (ad.add (i * Lay.size α + j)) = us[j]?) ∧ Lay.lies w B us a
theorem LiesAt.keep {α : Type} [Lay α] {w w' : World} {B : Nat} {ad : Addr} {i : Nat} {a : α} (h : LiesAt w B ad i a) (hb : ad.block < B) (hk : ∀ p : Addr, p.block < B → w'.cell? p = w.cell? p) : LiesAt w' B ad i a := by
  obtain ⟨us, hc, hl⟩ := h
  exact ⟨us, fun j hj => (hk _ (by rw [block_of_add]; exact hb)).trans (hc j hj), Lay.keep hl hk⟩
theorem LiesAt.more {α : Type} [Lay α] {w : World} {B B' : Nat} {ad : Addr} {i : Nat} {a : α} (h : LiesAt w B ad i a) (hB : B ≤ B') : LiesAt w B' ad i a := by
  obtain ⟨us, hc, hl⟩ := h
  exact ⟨us, hc, Lay.more hl hB⟩
def LiesSlice {α : Type} [Lay α] (w : World) (B : Nat) (A : Option Addr) (n : Nat) (xs : List α) : Prop :=
  xs.length = n ∧ (0 < n → ∃ ad, A = some ad ∧ ad.block < B ∧ ∀ i a, xs[i]? = some a → LiesAt w B ad i a)
theorem LiesSlice.keep {α : Type} [Lay α] {w w' : World} {B n : Nat} {A : Option Addr} {xs : List α} (h : LiesSlice w B A n xs) (hk : ∀ p : Addr, p.block < B → w'.cell? p = w.cell? p) : LiesSlice w' B A n xs :=
  ⟨h.1, fun hn => by
    obtain ⟨ad, e, hb, hc⟩ := h.2 hn
    exact ⟨ad, e, hb, fun i a hi => (hc i a hi).keep hb hk⟩⟩
theorem LiesSlice.more {α : Type} [Lay α] {w : World} {B B' n : Nat} {A : Option Addr} {xs : List α} (h : LiesSlice w B A n xs) (hB : B ≤ B') : LiesSlice w B' A n xs :=
  ⟨h.1, fun hn => by
    obtain ⟨ad, e, hb, hc⟩ := h.2 hn
    exact ⟨ad, e, by omega, fun i a hi => (hc i a hi).more hB⟩⟩
instance {α : Type} [Lay α] : Lay (List α) where
  size := 1
  lies w B vs a := ∃ A n c, vs = [.slice A n c] ∧ n ≤ c ∧ c ≤ maxLen ∧ (A = none → c = 0) ∧ LiesSlice w B A n a
  length := by rintro w B vs a ⟨A, n, c, rfl, _⟩; rfl
  keep := by rintro w w' B vs a ⟨A, n, c, rfl, h1, h2, h3, h4⟩ hk; exact ⟨A, n, c, rfl, h1, h2, h3, h4.keep hk⟩
  more := by rintro w B B' vs a ⟨A, n, c, rfl, h1, h2, h3, h4⟩ hB; exact ⟨A, n, c, rfl, h1, h2, h3, h4.more hB⟩
instance {α : Type} [Lay α] {n : Nat} : Lay (Vec n α) where
  size := n * Lay.size α
  lies w B vs a := vs.length = n * Lay.size α ∧ ∀ i x, a.l[i]? = some x → Lay.lies w B ((vs.drop (i * Lay.size α)).take (Lay.size α)) x
  length h := h.1
  keep h hk := ⟨h.1, fun i x hx => Lay.keep (h.2 i x hx) hk⟩
  more h hB := ⟨h.1, fun i x hx => Lay.more (h.2 i x hx) hB⟩
def Opens (P : Program) (t : TypeId) (α : Type) [Lay α] : Prop :=
  ∀ {H : Type} {enc : TypeId × Value → H} {w : World} {fuel : Nat} {cs : List Value} {x : DataW H × List MemPlace},
    DataW.trod enc P w 0 (fun _ => true) true fuel t cs = some x → ∃ a : α, ∀ B, (∀ p ∈ x.2, p.block < B) → Lay.lies w B cs a
section
variable {P : Program} {t e : TypeId}
theorem opens_int {k : IntKind} (ht : P.underlying t = some (.int k)) : Opens P t (Nm k) := by
  intro H enc w fuel cs x h
  obtain ⟨n, rfl, _, hw⟩ := DataW.trod_int ht h
  exact ⟨⟨n, hw⟩, fun _ _ => rfl⟩
theorem opens_slice {α : Type} [Lay α] (ht : P.underlying t = some (.slice e)) (he : Opens P e α) (hc : P.cellsOf e = Lay.size α) (hp : 0 < Lay.size α) : Opens P t (List α) := by
  intro H enc w fuel cs x h
  rcases DataW.trod_slice ht h with ⟨rfl, rfl⟩ | ⟨a, len, cap, elems, rest, n, _, rfl, rfl, _, hl, hm, hlen, hel, _, _⟩
  · exact ⟨[], fun _ _ => ⟨none, 0, 0, rfl, Nat.le_refl _, Nat.zero_le _, fun _ => rfl, rfl, fun h0 => absurd h0 (Nat.lt_irrefl 0)⟩⟩
  · have each : ∀ i : Nat, i < len → ∃ v : α, ∀ B, (∀ y, elems[i]? = some y → ∀ p ∈ y.2, p.block < B) → LiesAt w B a i v := by
      intro i hi
      have hy : elems[i]? = some (elems[i]'(by omega)) := List.getElem?_eq_getElem (by omega)
      have h1 := hel i hi
      rw [hy] at h1
      obtain ⟨us, hu, ht'⟩ := Option.bind_eq_some_iff.1 h1
      obtain ⟨_, hul, hcell⟩ := World.cells?_some hu
      obtain ⟨v, hv⟩ := he ht'
      refine ⟨v, fun B hB => ⟨us, fun j hj => ?_, hv B (fun p hp' => hB _ hy p hp')⟩⟩
      rw [← hcell j (by omega), hc, add_of_add]
    have hch : ∃ f : Nat → Option α, ∀ i, i < len → ∃ v, f i = some v ∧ ∀ B, (∀ y, elems[i]? = some y → ∀ p ∈ y.2, p.block < B) → LiesAt w B a i v := by
      refine ⟨fun i => if hi : i < len then some (Classical.choose (each i hi)) else none, fun i hi => ⟨_, by simp only [hi, dif_pos], Classical.choose_spec (each i hi)⟩⟩
    obtain ⟨f, hf⟩ := hch
    have hx : ∃ xs : List α, xs.length = len ∧ ∀ i v, xs[i]? = some v → ∀ B, (∀ y, elems[i]? = some y → ∀ p ∈ y.2, p.block < B) → LiesAt w B a i v := by
      have key : ∀ m, m ≤ len → ∃ xs : List α, xs.length = m ∧ ∀ i v, xs[i]? = some v → ∀ B, (∀ y, elems[i]? = some y → ∀ p ∈ y.2, p.block < B) → LiesAt w B a i v := by
        intro m
        induction m with
        | zero => intro _; exact ⟨[], rfl, fun i v h0 => by simp at h0⟩
        | succ m ih =>
          intro hm'
          obtain ⟨xs, hxl, hxs⟩ := ih (by omega)
          obtain ⟨v, _, hv⟩ := hf m (by omega)
          refine ⟨xs ++ [v], by simp [hxl], fun i u hu => ?_⟩
          rw [List.getElem?_append] at hu
          split at hu
          · exact hxs i u hu
          · rename_i hi
            have : i - xs.length = 0 := by
              rcases Nat.eq_zero_or_pos (i - xs.length) with h0 | h0
              · exact h0
              · rw [List.getElem?_eq_none (by simp; omega)] at hu; cases hu
            rw [this] at hu
            obtain rfl : i = m := by omega
            injection hu with hu
            subst hu
            exact hv
      exact key len (Nat.le_refl _)
    obtain ⟨xs, hxl, hxs⟩ := hx
    refine ⟨xs, fun B hB => ⟨some a, len, cap, rfl, hl, hm, (fun h0 => by cases h0), hxl, fun hn => ⟨a, rfl, ?_, fun i v hv => hxs i v hv B ?_⟩⟩⟩
    · refine hB (.cell a.block (a.off + 0)) ?_
      simp only [MemPlace.row, List.mem_append, List.mem_map, List.mem_range]
      left
      refine ⟨0, ?_, rfl⟩
      rw [hc, hlen]
      exact Nat.mul_pos (by omega) hp
    · intro y hy p hp'
      refine hB p ?_
      simp only [List.mem_append, List.mem_flatMap]
      exact Or.inr ⟨y, Or.inl (List.mem_of_getElem? hy), hp'⟩
end
section
variable {H : Type} {enc : TypeId × Value → H} {P : Program} {w : World} {r : Reach} {b0 : Nat} {t e : TypeId} {v : Value} {d : DataW H} {ps : List MemPlace}
theorem arg_slice {α : Type} [Lay α] (ho : Opens P t (List α)) (ht : P.underlying t = some (.slice e)) (hv : Value.okWide P w r b0 t v) (h : DataW.Trod enc P w 0 (fun _ => true) true t v d ps) (hb : ∀ p ∈ ps, p.block < w.heap.size) :
    ∃ A n c, ∃ xs : List α, v = .slice A n c ∧ n ≤ c ∧ c ≤ maxLen ∧ (A = none → c = 0) ∧ LiesSlice w w.heap.size A n xs := by
  obtain ⟨A0, n0, c0, rfl⟩ := okWide_slice ht hv
  obtain ⟨fuel, hf⟩ := h
  obtain ⟨a, ha⟩ := ho hf
  obtain ⟨A, n, c, he, h1, h2, h3, h4⟩ := ha w.heap.size hb
  simp [Value.cells] at he
  obtain ⟨rfl, rfl, rfl⟩ := he
  exact ⟨_, _, _, a, rfl, h1, h2, h3, h4⟩
end
def zsOf {k : IntKind} (xs : List (Nm k)) : List Int := xs.map (·.z)
theorem LiesSlice.reads {k : IntKind} {w : World} {B n : Nat} {A : Option Addr} {xs : List (Nm k)} (h : LiesSlice w B A n xs) : Reads w B 1 A n (nums k (zsOf xs)) := by
  refine ⟨by simp [nums, zsOf, h.1], fun hn => ?_⟩
  obtain ⟨ad, e, hb, hc⟩ := h.2 hn
  refine ⟨ad, e, hb, fun j u hu => ?_⟩
  simp only [nums, zsOf, List.getElem?_map, Option.map_eq_some_iff] at hu
  obtain ⟨z, ⟨x, hx, rfl⟩, rfl⟩ := hu
  obtain ⟨us, hus, hl⟩ := hc j x hx
  obtain rfl : us = [.int k x.z] := hl
  have := hus 0 (show 0 < 1 by decide)
  simpa [show Lay.size (Nm k) = 1 from rfl] using this
theorem zsOf_u8 (xs : List (Nm .u8)) : ∀ z ∈ zsOf xs, 0 ≤ z ∧ z < 256 := by
  intro z hz
  simp only [zsOf, List.mem_map] at hz
  obtain ⟨x, _, rfl⟩ := hz
  have := x.ok
  simp [Lit.wf, IntKind.min, IntKind.max, IntKind.signed, IntKind.bits] at this
  omega
theorem Nm.u32 (x : Nm .u32) : 0 ≤ x.z ∧ x.z < 4294967296 := by
  have := x.ok
  simp [Lit.wf, IntKind.min, IntKind.max, IntKind.signed, IntKind.bits] at this
  omega
theorem Nm.u8 (x : Nm .u8) : 0 ≤ x.z ∧ x.z < 256 := by
  have := x.ok
  simp [Lit.wf, IntKind.min, IntKind.max, IntKind.signed, IntKind.bits] at this
  omega
theorem Nm.i64 (x : Nm .i64) : -9223372036854775808 ≤ x.z ∧ x.z ≤ 9223372036854775807 := by
  have := x.ok
  simp [Lit.wf, IntKind.min, IntKind.max, IntKind.signed, IntKind.bits] at this
  omega
end Go.Proofs.YtadfopdjhbjekaaDoor
namespace Go.Proofs.YtadfopdjhbjekaaDoor
namespace Mk
end Mk
end Go.Proofs.YtadfopdjhbjekaaDoor
namespace Go.Proofs.YtadfopdjhbjekaaDoor
set_option maxRecDepth 100000
open Go.RowKit
theorem ownsRow_slice {w : World} {base : Nat} {e : TypeId} {size : Nat} {v : Value} {n : Nat} {xs : List Value} (h : w.ownsRow base e size v n xs) : ∃ A c, v = .slice A n c := by
  rcases h.2 with ⟨rfl, rfl⟩ | ⟨g, cap, cur, rfl, _⟩
  · exact ⟨none, 0, rfl⟩
  · exact ⟨_, cap, rfl⟩
theorem below_grown {base : Nat} {e : TypeId} {size : Nat} {v : Value} {n : Nat} {xs : List Value} {w w' : World} (h : w.ownsRow base e size v n xs) (hg : w.grownBy w' v.ownBlock) (hb : base ≤ w.heap.size) : Below base w w' :=
  (Below.refl _ _).grown hg hb fun k hk => (h.lt k hk).1
section
variable {P : Program} {w : World} {ops : Array Oper} {rest : List Oper} {o : Oper} {a : Act} {Q : Exit → Act → World → Prop}
theorem wpl_append (hw : Region.wanted o (yielded ops a.tmps) = true) (s x : Operand) (t : TypeId)
    (ho : o.op = .call { callee := .builtin .append, args := #[s, x], argTypes := #[t, t] })
    (e : TypeId) (z : Value) (size bytes : Nat) (ht : P.underlying t = some (.slice e)) (hi : (P.info? e).map (fun i => (i.zero, i.size, i.bytes)) = some (some z, size, bytes))
    (hzs : z.cells.size = size) (hsz : 0 < size)
    (base : Nat) (v : Value) (n : Nat) (xs : List Value) (hs : a.eval s = v) (hown : w.ownsRow base e size v n xs)
    (B : Nat) (A : Option Addr) (m c : Nat) (news : List Value) (hx : a.eval x = .slice A m c) (hr : Reads w B size A m news) (h1 : ∀ u ∈ news, u.oneCell' = true)
    (h63 : n + m ≤ maxLen) (hbytes : (n + m) * bytes ≤ 140737488355328) (hbase : base ≤ w.heap.size)
    (h : ∀ A' c' w', w'.ownsRow base e size (.slice A' (n + m) c') (n + m) (xs ++ news) → w.grownBy w' v.ownBlock → Below base w w' → (Value.ownBlock (.slice A' (n + m) c') = v.ownBlock ∨ Value.ownBlock (.slice A' (n + m) c') = some w.heap.size) →
      wpList P ops Q rest (a.put o.dst (.slice A' (n + m) c')) w') : wpList P ops Q (o :: rest) a w := by
  obtain ⟨i, hi0, hz, hs1, hb1⟩ := info_parts hi
  refine wpList_step fun K hK => ?_
  rw [if_pos hw]
  refine wp_append_any w s x t ho base e i z size bytes ht hi0 hz hs1 hb1 hzs hsz v n xs hs hown B A m c news hx hr h1 h63 hbytes hbase fun v' w' h2 h3 h4 => hK _ _ ?_
  obtain ⟨A', c', rfl⟩ := ownsRow_slice h2
  exact h A' c' w' h2 h3 (below_grown hown h3 hbase) h4
end
theorem nums_one (k : IntKind) (zs : List Int) : ∀ u ∈ nums k zs, u.oneCell' = true := by
  intro u hu
  simp only [nums, List.mem_map] at hu
  obtain ⟨z, _, rfl⟩ := hu
  rfl
theorem nums_append (k : IntKind) (xs ys : List Int) : nums k xs ++ nums k ys = nums k (xs ++ ys) := by simp [nums]
theorem own_reads {w : World} {base : Nat} {e : TypeId} {n c : Nat} {A : Option Addr} {xs : List Value} (h : w.ownsRow base e 1 (.slice A n c) n xs) : Reads w w.heap.size 1 A n xs := Reads.of_own h
theorem own_bd {w : World} {base : Nat} {e : TypeId} {size n c : Nat} {A : Option Addr} {xs : List Value} (h : w.ownsRow base e size (.slice A n c) n xs) : n ≤ c ∧ c ≤ maxLen := by
  rcases h.2 with ⟨h', rfl⟩ | ⟨g, cap, cur, h', _, _, h1, h2, _⟩
  · injection h' with _ _ h3
    subst h3
    exact ⟨Nat.le_refl _, Nat.zero_le _⟩
  · injection h' with _ _ h3
    subst h3
    exact ⟨h1, h2⟩
theorem own_cap (w : World) (base : Nat) (e : TypeId) (k : IntKind) (zs : List Int) (c g : Nat) (hg : g = w.heap.size) (hb : base ≤ g) (hn : c = zs.length) (hm : c ≤ maxLen) :
    (w.alloc (.cells (nums k zs).toArray e)).ownsRow base e 1 (.slice (some ⟨g, 0, none⟩) 0 c) 0 (nums k []) := by
  subst hn hg
  refine ⟨by simp [nums], .inr ⟨w.heap.size, zs.length, (nums k zs).toArray, rfl, hb, ?_, Nat.zero_le _, hm, by simp [nums], by simp [nums]⟩⟩
  show (w.heap.push _)[w.heap.size]? = _
  simp
theorem own_new (w : World) (base : Nat) (e : TypeId) (k : IntKind) (zs : List Int) (n g : Nat) (hg : g = w.heap.size) (hb : base ≤ g) (hn : n = zs.length) (hm : n ≤ maxLen) :
    (w.alloc (.cells (nums k zs).toArray e)).ownsRow base e 1 (.slice (some ⟨g, 0, none⟩) n n) n (nums k zs) := by
  subst hn hg
  refine ⟨by simp [nums], .inr ⟨w.heap.size, zs.length, (nums k zs).toArray, rfl, hb, ?_, Nat.le_refl _, hm, by simp [nums], ?_⟩⟩
  · show (w.heap.push _)[w.heap.size]? = _
    simp
  · rw [List.take_of_length_le (by simp [nums])]
theorem reads_new (w : World) (l : List Value) (t : TypeId) (m : Nat × Nat) (n g B : Nat) (hg : g = w.heap.size) (hn : n = l.length) (hB : g < B) : Reads (w.alloc (.cells l.toArray t m)) B 1 (some ⟨g, 0, none⟩) n l := by
  subst hg
  exact (Reads.new w l t m n hn).more hB
end Go.Proofs.YtadfopdjhbjekaaDoor
namespace Go.Proofs.YtadfopdjhbjekaaDoor
set_option maxRecDepth 100000
open Go.RowKit
def Lat (w : World) : Type := {u : World // Below w.heap.size w u}
instance (w : World) : Nonempty (Lat w) := ⟨⟨w, Below.refl _ _⟩⟩
section
variable {w : World}
theorem Lat.cell (u : Lat w) {p : Addr} (hp : p.block < w.heap.size) : u.1.cell? p = w.cell? p := u.2.cell hp
theorem Lat.frozen (u : Lat w) {p : Addr} (hp : p.block < w.heap.size) : u.1.frozen? p = w.frozen? p := u.2.frozen hp
theorem Lat.size (u : Lat w) : w.heap.size ≤ u.1.heap.size := u.2.size
theorem Lat.reads (u : Lat w) {B size n : Nat} {A : Option Addr} {xs : List Value} (h : Reads w B size A n xs) (hB : B ≤ w.heap.size) : Reads u.1 u.1.heap.size size A n xs :=
  ((h.more hB).below u.2).more u.2.size
theorem Lat.call {P : Program} {f : FuncId} {args : Array Value} (u : Lat w) {v : Value} (h : Calls P f args u.1 fun e w' => e = .returned v ∧ Below u.1.heap.size u.1 w') :
    Calls P f args u.1 fun e w'' => e = .returned v ∧ ∃ u' : Lat w, w'' = u'.1 :=
  h.mono fun _ _ ⟨he, hb⟩ => ⟨he, ⟨_, u.2.trans (hb.mono u.2.size)⟩, rfl⟩
theorem wpQuiet_mono {P : Program} {ops : Array Oper} {C : World → Prop} {Q Q' : Act → Prop} (h : ∀ a, Q a → Q' a) : ∀ {l : List Oper} {a : Act}, wpQuiet P ops C Q l a → wpQuiet P ops C Q' l a
  | [], a, hh => h a hh
  | o :: l, a, hh => by
    unfold wpQuiet at hh ⊢
    split
    · rename_i hw
      rw [if_pos hw] at hh
      exact Oper.quiet_mono (fun _ hk => wpQuiet_mono h hk) hh
    · rename_i hw
      rw [if_neg hw] at hh
      exact wpQuiet_mono h hh
end
theorem Reads.conv {P : Program} {W : World} {B n c : Nat} {A : Option Addr} {zs : List Int} (h : Reads W B 1 A n (nums .u8 zs)) {src dst e : TypeId} (hs : P.underlying src = some (.slice e)) (he : P.underlying e = some (.int .u8)) (hd : P.underlying dst = some .string) :
    (convert src dst (.slice A n c)).run P W = .ok (.string (strOfNums zs)) W := by
  have hl : zs.length = n := by have := h.1; simpa [nums] using this
  rcases Nat.eq_zero_or_pos n with h0 | hpos
  · subst h0
    have hz : zs = [] := List.eq_nil_of_length_eq_zero hl
    subst hz
    rcases A with _ | ⟨b, off, sp⟩
    · exact run_convert_bytes_nil W src e hs he 0 c dst hd
    · rw [run_convert_bytes_string W src dst e _ 0 c hs he hd]
      simp [Conv.bytesToString, loadCells, loadCellsFrom]
      rfl
  · obtain ⟨b, off, u, rfl, _, _, _⟩ := h.at_ hpos
    refine run_convert_bytes_arg W src e hs he b off n c zs hl (fun i hi => ?_) dst hd
    obtain ⟨b', off', u, hA, _, hu, hc⟩ := h.at_ hi
    injection hA with hA
    injection hA with h1 h2
    subst h1 h2
    obtain ⟨z, hz, rfl⟩ := nums_at hu
    rw [hc]
    simp [List.getD, hz]
theorem strOfNums_inj {xs ys : List Int} (hx : ∀ z ∈ xs, 0 ≤ z ∧ z < 256) (hy : ∀ z ∈ ys, 0 ≤ z ∧ z < 256) (h : (strOfNums xs).toList = (strOfNums ys).toList) : xs = ys := by
  rw [Lib.toList_data, Lib.toList_data, strOfNums_data, strOfNums_data] at h
  have back : ∀ l : List Int, (∀ z ∈ l, 0 ≤ z ∧ z < 256) → (l.map fun n => UInt8.ofNat n.toNat).map (fun u => ((u.toNat : Nat) : Int)) = l := by
    intro l hl
    rw [List.map_map]
    conv => rhs; rw [← List.map_id l]
    apply List.map_congr_left
    intro z hz
    have := hl z hz
    simp only [Function.comp, UInt8.toNat_ofNat', id]
    omega
  rw [← back xs hx, ← back ys hy, h]
end Go.Proofs.YtadfopdjhbjekaaDoor
namespace Go.Proofs.YtadfopdjhbjekaaDoor
set_option maxRecDepth 100000
open Go.RowKit
section
variable {w : World} {ops : Array Oper} {rest : List Oper} {o : Oper} {a : Act} {Q : Exit → Act → World → Prop}
theorem wpl_bytes (hw : Region.wanted o (yielded ops a.tmps) = true) (s x : Operand)
    (ho : o.op = .call { callee := .builtin .append, args := #[s, x], argTypes := #[22, 22] })
    (base : Nat) (v : Value) (n : Nat) (xs : List Int) (hs : a.eval s = v) (hown : w.ownsRow base 5 1 v n (nums .u8 xs))
    (B : Nat) (A : Option Addr) (m c : Nat) (zs : List Int) (hx : a.eval x = .slice A m c) (hr : Reads w B 1 A m (nums .u8 zs))
    (hlen : n + m ≤ 140737488355328) (hbase : base ≤ w.heap.size)
    (h : ∀ A' c' w', w'.ownsRow base 5 1 (.slice A' (n + m) c') (n + m) (nums .u8 (xs ++ zs)) → w.grownBy w' v.ownBlock → Below base w w' → (Value.ownBlock (.slice A' (n + m) c') = v.ownBlock ∨ Value.ownBlock (.slice A' (n + m) c') = some w.heap.size) →
      wpList Tryd.prog ops Q rest (a.put o.dst (.slice A' (n + m) c')) w') : wpList Tryd.prog ops Q (o :: rest) a w := by
  refine wpl_append hw s x 22 ho 5 (.int .u8 0) 1 1 Tryd.underlying22 (by kernel_rfl) rfl (by decide) base v n _ hs hown B A m c _ hx hr (nums_one _ _) (by unfold maxLen; omega) (by omega) hbase ?_
  rw [nums_append]
  exact h
end
theorem make_bytes (n : Nat) (hn : n ≤ 281474976710656) (w : World) :
    (Instr.makeSlice 22 (.int .i64 (n : Int)) (.int .i64 (n : Int))).run Tryd.prog w = .ok (.slice (some ⟨w.heap.size, 0, none⟩) n n) (w.alloc (.cells (nums .u8 (List.replicate n 0)).toArray 5)) := by
  have h := run_make_row' (P := Tryd.prog) 22 5 (.int .u8 0) 1 Tryd.underlying22 (by kernel_rfl) rfl .i64 .i64 n (by omega) (by omega) w
  rw [h]
  congr 3
  apply Array.ext'
  rw [toList_madeCells_one]
  simp [nums]
theorem make_cap (c : Nat) (hc : c ≤ 281474976710656) (w : World) :
    (Instr.makeSlice 22 (.int .i64 0) (.int .i64 (c : Int))).run Tryd.prog w = .ok (.slice (some ⟨w.heap.size, 0, none⟩) 0 c) (w.alloc (.cells (nums .u8 (List.replicate c 0)).toArray 5)) := by
  have hinfo : (Tryd.prog.info? 5).map (fun i => (i.zero, i.size, i.bytes)) = some (some (.int .u8 0), 1, 1) := by kernel_rfl
  obtain ⟨i, hi, hz, hs, hb⟩ := info_parts hinfo
  have h := run_make_rowN (P := Tryd.prog) 22 5 i (.int .u8 0) Tryd.underlying22 hi hz .i64 .i64 0 c (Nat.zero_le _) (by rw [hb]; omega) (by omega) w
  rw [hs, Nat.mul_one] at h
  refine h.trans ?_
  congr 3
  apply Array.ext'
  rw [show (Value.int IntKind.u8 0).cells = #[.int .u8 0] from rfl, toList_madeCells_one]
  simp [nums]
end Go.Proofs.YtadfopdjhbjekaaDoor
namespace Go.Proofs.YtadfopdjhbjekaaDoor
namespace Byts
section
variable {zs bs : List Int} {off k : Nat}
end
def be (n : Nat) (x : Int) : List Int := (List.range n).map fun i => x / 256 ^ (n - 1 - i) % 256
theorem be_length (n : Nat) (x : Int) : (be n x).length = n := by simp [be]
theorem be_getD (n : Nat) (x : Int) (i : Nat) (h : i < n) : (be n x).getD i 0 = x / 256 ^ (n - 1 - i) % 256 := by simp [be, List.getD, h]
theorem be_bytes (n : Nat) (x : Int) : ∀ z ∈ be n x, 0 ≤ z ∧ z < 256 := by
  intro z h
  simp only [be, List.mem_map] at h
  obtain ⟨i, _, rfl⟩ := h
  omega
def num (bs : List Int) : Int := bs.foldl (fun x c => 256 * x + c) 0
end Byts
namespace Byts
def fill (n k : Nat) (x : Int) : List Int := List.replicate (n - k) 0 ++ (be n x).drop (n - k)
theorem fill_zero (n : Nat) (x : Int) : fill n 0 x = List.replicate n 0 := by
  unfold fill
  rw [Nat.sub_zero, List.drop_of_length_le (by rw [be_length]; exact Nat.le_refl _), List.append_nil]
theorem fill_all (n : Nat) (x : Int) : fill n n x = be n x := by simp [fill]
theorem fill_at (n k : Nat) (x : Int) (h : k < n) : (fill n k x)[n - 1 - k]? = some 0 := by
  unfold fill
  rw [List.getElem?_append_left (by rw [List.length_replicate]; omega), List.getElem?_replicate, if_pos (by omega)]
theorem fill_set (n k : Nat) (x : Int) (h : k < n) : (fill n k x).set (n - 1 - k) (x / 256 ^ k % 256) = fill n (k + 1) x := by
  unfold fill
  have e1 : n - k = (n - 1 - k) + 1 := by omega
  have e2 : n - (k + 1) = n - 1 - k := by omega
  rw [List.set_append_left _ _ (by simp; omega), e2]
  have e3 : (List.replicate (n - k) (0 : Int)).set (n - 1 - k) (x / 256 ^ k % 256) = List.replicate (n - 1 - k) 0 ++ [x / 256 ^ k % 256] := by
    conv => lhs; rw [e1, List.replicate_succ']
    rw [List.set_append_right _ _ (by simp)]
    simp
  have hl : n - 1 - k < (be n x).length := by rw [be_length]; omega
  rw [e3, List.append_assoc, List.drop_eq_getElem_cons hl, e1]
  have e4 : (be n x)[n - 1 - k] = x / 256 ^ k % 256 := by
    have := be_getD n x (n - 1 - k) (by omega)
    rw [show n - 1 - (n - 1 - k) = k by omega] at this
    rw [← this]; simp [List.getD, hl]
  rw [e4]
  rfl
end Byts
end Go.Proofs.YtadfopdjhbjekaaDoor
namespace Go.Proofs.YtadfopdjhbjekaaDoor
namespace Cod
open Byts
def wdN : Nat → Nat
  | 0 => 0
  | n + 1 => wdN ((n + 1) / 256) + 1
termination_by n => n
decreasing_by omega
def wd (x : Int) : Nat := wdN x.toNat
end Cod
end Go.Proofs.YtadfopdjhbjekaaDoor
namespace Go.Proofs.YtadfopdjhbjekaaDoor
namespace Cod
open Byts
end Cod
end Go.Proofs.YtadfopdjhbjekaaDoor
namespace Go.Proofs.YtadfopdjhbjekaaDoor
namespace Crc
abbrev W32 := BitVec 32
def poly : W32 := 0x82f63b78#32
def st1 (r : W32) : W32 := if r.getLsbD 0 then (r >>> 1) ^^^ poly else r >>> 1
def stN : Nat → W32 → W32
  | 0, r => r
  | n + 1, r => stN n (st1 r)
theorem st1_xor (a b : W32) : st1 (a ^^^ b) = st1 a ^^^ st1 b := by
  unfold st1
  rw [BitVec.getLsbD_xor]
  cases ha : a.getLsbD 0 <;> cases hb : b.getLsbD 0 <;> simp [BitVec.ushiftRight_xor_distrib]
  · rw [BitVec.xor_assoc]
  · ac_rfl
  · rw [show a >>> 1 ^^^ poly ^^^ (b >>> 1 ^^^ poly) = (a >>> 1 ^^^ b >>> 1) ^^^ (poly ^^^ poly) by ac_rfl]; simp
theorem stN_xor (n : Nat) : ∀ a b : W32, stN n (a ^^^ b) = stN n a ^^^ stN n b := by
  induction n with
  | zero => intro a b; rfl
  | succ n ih => intro a b; simp only [stN, st1_xor, ih]
theorem stN_add (m : Nat) : ∀ (n : Nat) (r : W32), stN (m + n) r = stN n (stN m r) := by
  induction m with
  | zero => intro n r; simp [stN]
  | succ m ih => intro n r; rw [Nat.add_right_comm]; simp only [stN, ih]
theorem stN_succ (n : Nat) (r : W32) : stN (n + 1) r = st1 (stN n r) := by rw [stN_add]; rfl
theorem stN_low (k : Nat) : ∀ r : W32, (∀ i, i < k → r.getLsbD i = false) → stN k r = r >>> k := by
  induction k with
  | zero => intro r _; simp [stN]
  | succ k ih =>
    intro r h
    have h0 : r.getLsbD 0 = false := h 0 (by omega)
    simp only [stN]
    have e : st1 r = r >>> 1 := by unfold st1; rw [h0]; rfl
    rw [e, ih]
    · rw [← BitVec.shiftRight_add, Nat.add_comm]
    · intro i hi
      rw [BitVec.getLsbD_ushiftRight]
      exact h _ (by omega)
theorem stN_four (r : W32) : stN 4 r = r >>> 4 ^^^ stN 4 (r &&& 15#32) := by
  have e : r = (r &&& ~~~ 15#32) ^^^ (r &&& 15#32) := by
    ext i hi
    simp only [BitVec.getElem_xor, BitVec.getElem_and, BitVec.getElem_not]
    cases r[i] <;> cases (15#32)[i] <;> rfl
  have l : ∀ i, i < 4 → (r &&& ~~~ 15#32).getLsbD i = false := by
    intro i hi
    have : i = 0 ∨ i = 1 ∨ i = 2 ∨ i = 3 := by omega
    rcases this with rfl | rfl | rfl | rfl <;> simp
  have h := stN_xor 4 (r &&& ~~~ 15#32) (r &&& 15#32)
  rw [← e, stN_low 4 _ l, BitVec.ushiftRight_and_distrib] at h
  rw [h]
  have t : (~~~ 15#32) >>> 4 = 0x0fffffff#32 := by decide
  rw [t]
  congr 1
  ext i hi
  simp
  intro hr
  have : i < 28 := by
    apply Decidable.byContradiction
    intro hn
    have := BitVec.getLsbD_of_ge r (4 + i) (by omega)
    simp [this] at hr
  have h28 : ∀ i, i < 28 → (0x0fffffff#32).getLsbD i = true := by decide
  rw [← BitVec.getLsbD_eq_getElem]
  exact h28 i this
def tab : List Nat := [0x00000000, 0x105ec76f, 0x20bd8ede, 0x30e349b1, 0x417b1dbc, 0x5125dad3, 0x61c69362, 0x7198540d, 0x82f63b78, 0x92a8fc17, 0xa24bb5a6, 0xb21572c9, 0xc38d26c4, 0xd3d3e1ab, 0xe330a81a, 0xf36e6f75]
theorem tab_is : ∀ k, k < 16 → (stN 4 (BitVec.ofNat 32 k)).toNat = tab.getD k 0 := by decide
def stB (r : W32) (x : W32) : W32 := stN 8 (r ^^^ x)
def run (r : W32) (xs : List W32) : W32 := xs.foldl stB r
theorem run_append (r : W32) (xs ys : List W32) : run r (xs ++ ys) = run (run r xs) ys := by simp [run]
def le : List W32 → W32
  | [] => 0#32
  | x :: xs => x ^^^ (le xs <<< 8)
def b0 (r : W32) : W32 := r &&& 255#32
def wd (z : Int) : W32 := BitVec.ofNat 32 z.toNat
def more (c : W32) (zs : List Int) : W32 := ~~~ run (~~~ c) (zs.map wd)
theorem wd_toNat (z : Int) (h : 0 ≤ z ∧ z < 256) : ((wd z).toNat : Int) = z := by
  unfold wd; rw [BitVec.toNat_ofNat]; omega
end Crc
end Go.Proofs.YtadfopdjhbjekaaDoor
namespace Go.Proofs.YtadfopdjhbjekaaDoor
namespace Seal
open Byts
def hd (k a b : Int) (zs : List Int) : List Int := [k] ++ (be 8 a ++ (be 8 b ++ (be 2 (zs.length : Int) ++ (zs ++ List.replicate (1001 - zs.length) 0))))
end Seal
end Go.Proofs.YtadfopdjhbjekaaDoor
namespace Go.Proofs.YtadfopdjhbjekaaDoor
namespace Seal
open Byts
end Seal
end Go.Proofs.YtadfopdjhbjekaaDoor
namespace Go.Proofs.YtadfopdjhbjekaaDoor
namespace Fram
open Byts
def fhd (zs : List Int) : List Int := 181 :: (be 3 (zs.length : Int) ++ zs)
theorem fhd_bytes (zs : List Int) (hz : ∀ z ∈ zs, 0 ≤ z ∧ z < 256) : ∀ z ∈ fhd zs, 0 ≤ z ∧ z < 256 := by
  intro z h
  simp only [fhd, List.mem_cons, List.mem_append] at h
  rcases h with rfl | h | h
  · decide
  · exact be_bytes _ _ z h
  · exact hz z h
def frm (sm : List Int → List Int) (zs : List Int) : List Int := fhd zs ++ sm (fhd zs)
def nZ (zs : List Int) : Int := (zs.getD 1 0 * 256 + zs.getD 2 0) * 256 + zs.getD 3 0
theorem getD_nn {zs : List Int} (hz : ∀ z ∈ zs, 0 ≤ z ∧ z < 256) (i : Nat) : 0 ≤ zs.getD i 0 ∧ zs.getD i 0 < 256 := by
  rcases Nat.lt_or_ge i zs.length with h | h
  · have e : zs.getD i 0 = zs[i] := by simp [List.getD, h]
    rw [e]; exact hz _ (List.getElem_mem h)
  · have e : zs.getD i 0 = 0 := by simp [List.getD, List.getElem?_eq_none h]
    rw [e]; omega
theorem nZ_nn {zs : List Int} (hz : ∀ z ∈ zs, 0 ≤ z ∧ z < 256) : 0 ≤ nZ zs ∧ nZ zs < 16777216 := by
  have h1 := getD_nn hz 1
  have h2 := getD_nn hz 2
  have h3 := getD_nn hz 3
  unfold nZ; omega
def gE (sm : List Int → List Int) (zs : List Int) : Int :=
  if zs.length ≠ 0 ∧ zs.getD 0 0 ≠ 181 then 6 else if 60000 < nZ zs then 6 else if (zs.length : Int) < 8 + nZ zs then 5
  else if (zs.drop (4 + (nZ zs).toNat)).take 4 ≠ sm (zs.take (4 + (nZ zs).toNat)) then 13 else 0
def gB (sm : List Int → List Int) (zs : List Int) : List Int := if gE sm zs = 0 then (zs.drop 4).take (nZ zs).toNat else []
def gN (sm : List Int → List Int) (zs : List Int) : Int := if gE sm zs = 0 then 8 + nZ zs else 0
theorem fhd_of (zs : List Int) (hz : ∀ z ∈ zs, 0 ≤ z ∧ z < 256) (h0 : zs.getD 0 0 = 181) (hl : 8 + nZ zs ≤ (zs.length : Int)) : fhd ((zs.drop 4).take (nZ zs).toNat) = zs.take (4 + (nZ zs).toNat) := by
  obtain ⟨hn0, hn1⟩ := nZ_nn hz
  have hlen : ((zs.drop 4).take (nZ zs).toNat).length = (nZ zs).toNat := by simp; omega
  unfold fhd
  rw [hlen, Int.toNat_of_nonneg hn0]
  rcases zs with _ | ⟨a, _ | ⟨b, _ | ⟨c, _ | ⟨d, t⟩⟩⟩⟩
  case nil => simp at h0
  case cons.nil => simp at hl; omega
  case cons.cons.nil => simp at hl; omega
  case cons.cons.cons.nil => simp at hl; omega
  case cons.cons.cons.cons =>
    have ha : a = 181 := by simpa using h0
    subst ha
    have hn : nZ (181 :: b :: c :: d :: t) = (b * 256 + c) * 256 + d := by simp [nZ]
    have hb := hz b (by simp)
    have hc := hz c (by simp)
    have hd := hz d (by simp)
    have hbe : be 3 (nZ (181 :: b :: c :: d :: t)) = [b, c, d] := by
      rw [hn]
      have e : be 3 ((b * 256 + c) * 256 + d) = [((b * 256 + c) * 256 + d) / 65536 % 256, ((b * 256 + c) * 256 + d) / 256 % 256, ((b * 256 + c) * 256 + d) / 1 % 256] := rfl
      rw [e]
      congr 1
      · omega
      · congr 1
        · omega
        · congr 1; omega
    rw [hbe, Nat.add_comm 4]
    simp
end Fram
end Go.Proofs.YtadfopdjhbjekaaDoor
namespace Go.Proofs.YtadfopdjhbjekaaDoor
open Go.RowKit
open Byts
set_option linter.unusedVariables false
theorem nums_set (k : IntKind) (zs : List Int) (i : Nat) (z : Int) : (nums k zs).set i (.int k z) = nums k (zs.set i z) := by
  unfold nums
  rw [List.map_set]
theorem nums_get {k : IntKind} {zs : List Int} {i : Nat} {z : Int} (h : zs[i]? = some z) : (nums k zs)[i]? = some (.int k z) := by
  unfold nums
  rw [List.getElem?_map, h]; rfl
theorem nums_setArr (k : IntKind) (zs : List Int) (i : Nat) (z : Int) : (nums k zs).toArray.setIfInBounds i (.int k z) = (nums k (zs.set i z)).toArray := by
  rw [← nums_set]; simp
theorem Blk.reads {w : World} {g t : Nat} {zs : List Int} {k : IntKind} (hb : Blk w g t (nums k zs).toArray) (off n : Nat) (h : off + n ≤ zs.length) : Reads w w.heap.size 1 (some ⟨g, off, none⟩) n (nums k ((zs.drop off).take n)) := by
  refine ⟨by simp [nums]; omega, fun hn => ⟨_, rfl, hb.lt, fun j u hu => ?_⟩⟩
  obtain ⟨z, hz, rfl⟩ := nums_at hu
  have hj : j < n := by
    rcases Nat.lt_or_ge j n with h' | h'
    · exact h'
    · rw [List.getElem?_take, if_neg (by omega)] at hz; cases hz
  rw [List.getElem?_take, if_pos hj, List.getElem?_drop] at hz
  have e : (⟨g, off, none⟩ : Addr).add j = ⟨g, off + j, none⟩ := by unfold Addr.add; split <;> simp_all
  rw [e, hb.cell, List.getElem?_toArray]
  exact nums_get hz
end Go.Proofs.YtadfopdjhbjekaaDoor
namespace Go.Proofs.YtadfopdjhbjekaaDoor
open Go.RowKit
theorem u32_xor_bv (a b : Crc.W32) : bits .xor .u32 (a.toNat : Int) (b.toNat : Int) = ((a ^^^ b).toNat : Int) := by
  rw [u32_xor_nat _ _ a.isLt b.isLt, BitVec.toNat_xor]
theorem u32_and_bv (a b : Crc.W32) : bits .and .u32 (a.toNat : Int) (b.toNat : Int) = ((a &&& b).toNat : Int) := by
  rw [u32_and_nat _ _ a.isLt b.isLt, BitVec.toNat_and]
theorem u32_not_bv (a : Crc.W32) : bits .xor .u32 IntKind.u32.max (a.toNat : Int) = ((~~~ a).toNat : Int) := by
  have h : IntKind.u32.max = ((BitVec.allOnes 32).toNat : Int) := by decide
  rw [h, u32_xor_bv, BitVec.allOnes_xor]
open Crc (wd wd_toNat)
theorem u32_xor_wd (a : Crc.W32) (z : Int) (h : 0 ≤ z ∧ z < 256) : bits .xor .u32 (a.toNat : Int) z = ((a ^^^ wd z).toNat : Int) := by
  rw [← u32_xor_bv, wd_toNat z h]
theorem take_wd (zs : List Int) (k : Nat) (z : Int) (h : zs[k]? = some z) : (zs.take (k + 1)).map wd = (zs.take k).map wd ++ [wd z] := by
  have hk : k < zs.length := by
    rcases Nat.lt_or_ge k zs.length with h' | h'
    · exact h'
    · rw [List.getElem?_eq_none h'] at h; cases h
  rw [List.take_succ_eq_append_getElem hk, List.map_append]
  rw [List.getElem?_eq_getElem hk] at h
  injection h with h
  simp [h]
def Tab (w : World) : Prop := ∀ j, j < 16 → w.cell? ⟨0, j, none⟩ = some (.int .u32 (Crc.tab.getD j 0 : Nat))
theorem Tab.size {w : World} (h : Tab w) : 0 < w.heap.size := by
  have h0 := h 0 (by decide)
  rcases Nat.lt_or_ge 0 w.heap.size with h' | h'
  · exact h'
  · simp [World.cell?, Array.getElem?_eq_none h'] at h0
theorem Tab.below {w w' : World} {B : Nat} (h : Tab w) (hb : Below B w w') (hB : w.heap.size ≤ B) : Tab w' :=
  fun j hj => (hb.cell (p := ⟨0, j, none⟩) (Nat.lt_of_lt_of_le h.size hB)).trans (h j hj)
theorem Tab.alloc {w : World} (h : Tab w) (o : Obj) : Tab (w.alloc o) := fun j hj => (World.cell?_alloc_lt w o _ h.size).trans (h j hj)
theorem Tab.drew {w : World} (h : Tab w) : Tab w.drew := h
theorem four_bits (x : Crc.W32) (w : World) (ht : Tab w) : ∃ (j : Nat) (t : Int) (y : Crc.W32), j < 16 ∧ bits .and .u32 (x.toNat : Int) 15 = (j : Int) ∧ w.cell? ⟨0, j, none⟩ = some (.int .u32 t) ∧
    bits .xor .u32 ((x.toNat : Int) / 16) t = (y.toNat : Int) ∧ Hid (y = Crc.stN 4 x) := by
  have hj : (x &&& 15#32).toNat < 16 := by rw [BitVec.toNat_and]; exact Nat.lt_of_le_of_lt Nat.and_le_right (by decide)
  refine ⟨(x &&& 15#32).toNat, _, Crc.stN 4 x, hj, ?_, ht _ hj, ?_, Lib.hid rfl⟩
  · exact u32_and_bv x 15#32
  · have e1 : (((x.toNat : Nat) : Int) / (16 : Int)) = (((x >>> 4).toNat : Nat) : Int) := by
      rw [BitVec.toNat_ushiftRight, Nat.shiftRight_eq_div_pow]; omega
    have e2 := Crc.tab_is _ hj
    rw [← e2, e1, u32_xor_bv, Crc.stN_four x]
    simp
set_option maxHeartbeats 400000 in
theorem more_any (c : Crc.W32) (A : Option Addr) (n cap : Nat) (zs : List Int) (w : World) (ht : Tab w) (hr : Reads w w.heap.size 1 A n (nums .u8 zs)) (hz : ∀ z ∈ zs, 0 ≤ z ∧ z < 256) (hn : n ≤ 9223372036854775807) :
    Calls Tryd.prog 66 #[.int .u32 c.toNat, .slice A n cap] w fun e w' => e = .returned (.int .u32 (Crc.more c zs).toNat) ∧ w = w' := by
  have HR := Lib.hid hr
  have HZ := Lib.hid hz
  have HT := Lib.hid ht
  have HL : zs.length = n := by simpa [nums_length] using hr.1
  have HL' := Lib.hid HL
  clear hr hz ht HL
  obtain ⟨c0, e0, H0⟩ : ∃ c0 : Crc.W32, bits .xor .u32 IntKind.u32.max (c.toNat : Int) = (c0.toNat : Int) ∧ Hid (~~~ c = c0) := ⟨~~~ c, u32_not_bv c, rfl⟩
  go_enter Tryd.func66, Tryd.ntmps66
  go_wp2
  clear e0
  go_loop [5, 12] (fun r i => ∃ k : Nat, k ≤ n ∧ i = .int .i64 k ∧ r = .int .u32 (Crc.run c0 ((zs.take k).map wd)).toNat) (fun _ i => n - (intOf i).toNat)
  case atStart => exact ⟨0, Nat.zero_le _, rfl, rfl⟩
  case round =>
    obtain ⟨k, hk, rfl, rfl⟩ := hrel
    by_cases hlt : k < n
    · obtain ⟨b, off, u, rfl, hb, hu, hc⟩ := HR.out.at_ hlt
      obtain ⟨z, hz, rfl⟩ := nums_at hu
      have hzb := HZ.out z (List.mem_of_getElem? hz)
      have HK := Lib.hid (take_wd zs k z hz)
      clear hu hz
      obtain ⟨r, hr⟩ : ∃ r, Crc.run c0 ((zs.take k).map wd) = r := ⟨_, rfl⟩
      rw [hr]
      have HRun := Lib.hid hr
      clear hr
      obtain ⟨x1, e1, H1⟩ : ∃ x1 : Crc.W32, bits .xor .u32 (r.toNat : Int) z = (x1.toNat : Int) ∧ Hid (x1 = r ^^^ wd z) := ⟨_, u32_xor_wd r z hzb, rfl⟩
      obtain ⟨j1, t1, x2, hj1, a1, c1, b1, H2⟩ := four_bits x1 w HT.out
      obtain ⟨j2, t2, x3, hj2, a2, c2, b2, H3⟩ := four_bits x2 w HT.out
      obtain ⟨z0, z1⟩ := hzb
      go_wp2
      go_round
      case rel =>
        refine ⟨k + 1, by omega, by go_num, ?_⟩
        have e : x3 = Crc.run c0 ((zs.take (k + 1)).map wd) := by
          rw [HK.out, Crc.run_append, HRun.out, H3.out, H2.out, H1.out, ← Crc.stN_add]
          rfl
        rw [e]
      case measure => simp [intOf]; omega
    · obtain ⟨d, hd⟩ : ∃ d, Crc.run c0 ((zs.take k).map wd) = d := ⟨_, rfl⟩
      rw [hd]
      have HD := Lib.hid hd
      clear hd
      obtain ⟨d0, e0, HD0⟩ : ∃ d0 : Crc.W32, bits .xor .u32 IntKind.u32.max (d.toNat : Int) = (d0.toNat : Int) ∧ Hid (~~~ d = d0) := ⟨~~~ d, u32_not_bv d, rfl⟩
      go_wp2
      go_ret
      have hfin : (d0.toNat : Int) = ((Crc.more c zs).toNat : Int) := by
        unfold Crc.more
        rw [H0.out, ← HD0.out, ← HD.out, List.take_of_length_le (by have := HL'.out; omega)]
      exact ⟨ret_int hfin, rfl⟩
theorem one_bit (x : Crc.W32) : (∃ y : Crc.W32, (((x.toNat : Int) % 2 == 1) = true) ∧ ∃ v : Int, (x.toNat : Int) / 2 = v ∧ bits .xor .u32 v 2197175160 = (y.toNat : Int) ∧ Hid (y = Crc.st1 x)) ∨
    ((((x.toNat : Int) % 2 == 1) = false) ∧ ∃ y : Crc.W32, (x.toNat : Int) / 2 = (y.toNat : Int) ∧ Hid (y = Crc.st1 x)) := by
  have hs : (((x.toNat : Nat) : Int) / (2 : Int)) = (((x >>> 1).toNat : Nat) : Int) := by
    rw [BitVec.toNat_ushiftRight, Nat.shiftRight_eq_div_pow]; omega
  have hl : x.getLsbD 0 = decide (x.toNat % 2 = 1) := by simp [BitVec.getLsbD, Nat.testBit_zero]
  rcases Nat.mod_two_eq_zero_or_one x.toNat with h | h
  · right
    refine ⟨by rw [beq_eq_false_iff_ne]; omega, x >>> 1, hs, ?_⟩
    have : x.getLsbD 0 = false := by rw [hl]; simp [h]
    exact Lib.hid (by unfold Crc.st1; rw [this]; rfl)
  · left
    refine ⟨(x >>> 1) ^^^ Crc.poly, by rw [beq_iff_eq]; omega, _, rfl, ?_, ?_⟩
    · rw [hs]; exact u32_xor_bv (x >>> 1) Crc.poly
    · have : x.getLsbD 0 = true := by rw [hl]; simp [h]
      exact Lib.hid (by unfold Crc.st1; rw [this]; rfl)
theorem u32_sub_not (a : Crc.W32) : (4294967295 : Int) - (a.toNat : Int) = ((~~~ a).toNat : Int) := by
  have := a.isLt
  rw [BitVec.toNat_not]; omega
set_option maxHeartbeats 400000 in
theorem refmore_any (c : Crc.W32) (A : Option Addr) (n cap : Nat) (zs : List Int) (w : World) (hr : Reads w w.heap.size 1 A n (nums .u8 zs)) (hz : ∀ z ∈ zs, 0 ≤ z ∧ z < 256) (hn : n ≤ 9223372036854775807) :
    Calls Tryd.prog 72 #[.int .u32 c.toNat, .slice A n cap] w fun e w' => e = .returned (.int .u32 (Crc.more c zs).toNat) ∧ w = w' := by
  have HR := Lib.hid hr
  have HZ := Lib.hid hz
  have HL : zs.length = n := by simpa [nums_length] using hr.1
  have HL' := Lib.hid HL
  clear hr hz HL
  have hlt := c.isLt
  obtain ⟨c0, e0, H0⟩ : ∃ c0 : Crc.W32, (4294967295 : Int) - (c.toNat : Int) = (c0.toNat : Int) ∧ Hid (~~~ c = c0) := ⟨~~~ c, u32_sub_not c, rfl⟩
  go_enter Tryd.func72, Tryd.ntmps72
  go_wp2
  clear e0
  go_loop [5, 6] (fun r i => ∃ k : Nat, k ≤ n ∧ i = .int .i64 k ∧ r = .int .u32 (Crc.run c0 ((zs.take k).map wd)).toNat) (fun _ i => n - (intOf i).toNat)
  case atStart => exact ⟨0, Nat.zero_le _, rfl, rfl⟩
  case round =>
    obtain ⟨k, hk, rfl, rfl⟩ := hrel
    by_cases hlt : k < n
    · obtain ⟨b, off, u, rfl, hb, hu, hc⟩ := HR.out.at_ hlt
      obtain ⟨z, hz, rfl⟩ := nums_at hu
      have hzb := HZ.out z (List.mem_of_getElem? hz)
      have HK := Lib.hid (take_wd zs k z hz)
      clear hu hz
      obtain ⟨r, hr⟩ : ∃ r, Crc.run c0 ((zs.take k).map wd) = r := ⟨_, rfl⟩
      rw [hr]
      have HRun := Lib.hid hr
      clear hr
      obtain ⟨x1, e1, H1⟩ : ∃ x1 : Crc.W32, bits .xor .u32 (r.toNat : Int) z = (x1.toNat : Int) ∧ Hid (x1 = r ^^^ wd z) := ⟨_, u32_xor_wd r z hzb, rfl⟩
      obtain ⟨z0, z1⟩ := hzb
      go_wp2
      clear e1
      go_loop [5, 7] (fun r i => ∃ j : Nat, j ≤ 8 ∧ i = .int .i64 j ∧ r = .int .u32 (Crc.stN j x1).toNat) (fun _ i => 8 - (intOf i).toNat)
      case atStart => exact ⟨0, Nat.zero_le _, rfl, rfl⟩
      case round =>
        obtain ⟨j, hj, rfl, rfl⟩ := hrel
        obtain ⟨y, hy⟩ : ∃ y, Crc.stN j x1 = y := ⟨_, rfl⟩
        rw [hy]
        have HY := Lib.hid hy
        clear hy
        have hyl := y.isLt
        by_cases hj8 : j < 8
        · rcases one_bit y with ⟨y2, ht, v, hv, hx, H2⟩ | ⟨ht, y2, hv, H2⟩
          · go_wp2
            go_round
            case rel => exact ⟨j + 1, by omega, by go_num, by rw [H2.out, ← HY.out, ← Crc.stN_succ]⟩
            case measure => simp [intOf]; omega
          · go_wp2
            go_round
            case rel => exact ⟨j + 1, by omega, by go_num, by rw [H2.out, ← HY.out, ← Crc.stN_succ]⟩
            case measure => simp [intOf]; omega
        · go_wp2
          go_round
          case rel =>
            refine ⟨k + 1, by omega, by go_num, ?_⟩
            have e : y = Crc.run c0 ((zs.take (k + 1)).map wd) := by
              obtain rfl : j = 8 := by omega
              rw [HK.out, Crc.run_append, HRun.out, ← HY.out, H1.out]
              rfl
            rw [e]
          case measure => simp [intOf]; omega
    · obtain ⟨d, hd⟩ : ∃ d, Crc.run c0 ((zs.take k).map wd) = d := ⟨_, rfl⟩
      rw [hd]
      have HD := Lib.hid hd
      clear hd
      have hdl := d.isLt
      obtain ⟨d0, e0, HD0⟩ : ∃ d0 : Crc.W32, (4294967295 : Int) - (d.toNat : Int) = (d0.toNat : Int) ∧ Hid (~~~ d = d0) := ⟨~~~ d, u32_sub_not d, rfl⟩
      go_wp2
      go_ret
      have hfin : (d0.toNat : Int) = ((Crc.more c zs).toNat : Int) := by
        unfold Crc.more
        rw [H0.out, ← HD0.out, ← HD.out, List.take_of_length_le (by have := HL'.out; omega)]
      exact ⟨ret_int hfin, rfl⟩
end Go.Proofs.YtadfopdjhbjekaaDoor
namespace Go.Proofs.YtadfopdjhbjekaaDoor
open Go.RowKit
open Crc (wd)
theorem sum_any (A : Option Addr) (n cap : Nat) (zs : List Int) (w : World) (ht : Tab w) (hr : Reads w w.heap.size 1 A n (nums .u8 zs)) (hz : ∀ z ∈ zs, 0 ≤ z ∧ z < 256) (hn : n ≤ 9223372036854775807) :
    Calls Tryd.prog 44 #[.slice A n cap] w fun e w' => e = .returned (.int .u32 (Crc.more 0#32 zs).toNat) ∧ w = w' := by
  have c : Calls Tryd.prog 66 #[.int .u32 0, .slice A n cap] w fun e w' => e = .returned (.int .u32 (Crc.more 0#32 zs).toNat) ∧ w = w' := more_any 0#32 A n cap zs w ht hr hz hn
  clear ht hr hz
  go_enter Tryd.func44, Tryd.ntmps44
  go_wp2_with fail
  refine c.mono ?_
  rintro e w' ⟨rfl, rfl⟩
  go_wp2
  go_ret
  exact ⟨rfl, rfl⟩
theorem refsum_any (A : Option Addr) (n cap : Nat) (zs : List Int) (w : World) (hr : Reads w w.heap.size 1 A n (nums .u8 zs)) (hz : ∀ z ∈ zs, 0 ≤ z ∧ z < 256) (hn : n ≤ 9223372036854775807) :
    Calls Tryd.prog 63 #[.slice A n cap] w fun e w' => e = .returned (.int .u32 (Crc.more 0#32 zs).toNat) ∧ w = w' := by
  have c : Calls Tryd.prog 72 #[.int .u32 0, .slice A n cap] w fun e w' => e = .returned (.int .u32 (Crc.more 0#32 zs).toNat) ∧ w = w' := refmore_any 0#32 A n cap zs w hr hz hn
  clear hr hz
  go_enter Tryd.func63, Tryd.ntmps63
  go_wp2_with fail
  refine c.mono ?_
  rintro e w' ⟨rfl, rfl⟩
  go_wp2
  go_ret
  exact ⟨rfl, rfl⟩
end Go.Proofs.YtadfopdjhbjekaaDoor
namespace Go.Proofs.YtadfopdjhbjekaaDoor
open Go.RowKit
open Crc (wd)
def bytesZ (r : Crc.W32) : List Int := [(r.toNat : Int) % 256, (r.toNat : Int) / 256 % 256, (r.toNat : Int) / 65536 % 256, (r.toNat : Int) / 16777216]
theorem bytesZ_lt (r : Crc.W32) : ∀ z ∈ bytesZ r, 0 ≤ z ∧ z < 256 := by
  have hr := r.isLt
  intro z hz
  simp only [bytesZ, List.mem_cons, List.mem_nil_iff, or_false] at hz
  rcases hz with rfl | rfl | rfl | rfl <;> omega
theorem bytesZ_shr (r : Crc.W32) (k : Nat) (h : k < 4) : (bytesZ r).getD k 0 = (r.toNat : Int) / 2 ^ (8 * k) % 256 := by
  have hr := r.isLt
  have hk : k = 0 ∨ k = 1 ∨ k = 2 ∨ k = 3 := by omega
  rcases hk with rfl | rfl | rfl | rfl
  · simp [bytesZ]
  · simp [bytesZ]
  · simp [bytesZ]
  · simp [bytesZ]; omega
end Go.Proofs.YtadfopdjhbjekaaDoor
namespace Go.Proofs.YtadfopdjhbjekaaDoor
open Go.RowKit
open Byts
set_option linter.unusedVariables false
set_option maxHeartbeats 400000 in
theorem high09_any (n : Nat) (x : Int) (w : World) (hx : 0 ≤ x) (hx1 : x ≤ 4294967295) (hn : n ≤ 8) :
    Calls Tryd.prog 67 #[.int .u32 x, .int .i64 (n : Int)] w fun e w' => e = .returned (.slice (some ⟨w.heap.size, 0, none⟩) n n) ∧ Blk w' w.heap.size 5 (nums .u8 (be n x)).toArray ∧ Below w.heap.size w w' ∧ w'.heap.size = w.heap.size + 1 := by
  have hmk := make_bytes n (by omega)
  go_enter Tryd.func67, Tryd.ntmps67
  go_wp2_with fail
  clear hmk
  go_loopw [0, 6] (fun x0 i wr => ∃ k : Nat, k ≤ n ∧ i = .int .i64 ((n : Int) - 1 - k) ∧ x0 = .int .u32 (x / 256 ^ k) ∧ Blk wr w.heap.size 5 (nums .u8 (fill n k x)).toArray ∧ Below w.heap.size w wr ∧ wr.heap.size = w.heap.size + 1) (fun _ i _ => (intOf i + 1).toNat)
  case atStart => exact ⟨0, Nat.zero_le _, by simp, by simp, by rw [fill_zero]; exact Blk.new _ _ _, (Below.refl _ _).alloc (Nat.le_refl _) _, by simp⟩
  case round =>
    obtain ⟨k, hk, rfl, rfl, hblk, hbel, hsz⟩ := hrel
    have hy0 : 0 ≤ x / 256 ^ k := Int.ediv_nonneg hx (Int.pow_nonneg (by decide))
    have hy1 : x / 256 ^ k ≤ 4294967295 := Int.le_trans (Int.ediv_le_self _ hx) hx1
    have hys : Hid (x / 256 ^ k / 256 = x / 256 ^ (k + 1)) := Lib.hid (by rw [Int.ediv_ediv_of_nonneg (Int.pow_nonneg (by decide)), Int.pow_succ])
    by_cases hlt : k < n
    · have hc : wr.cell? ⟨w.heap.size, n - 1 - k, none⟩ = some (.int .u8 0) := by
        rw [hblk.cell, List.getElem?_toArray]
        exact nums_get (fill_at n k x hlt)
      have hf : wr.frozen? ⟨w.heap.size, n - 1 - k, none⟩ = false := hblk.frozen _
      have hst := hblk.set_ (n - 1 - k) (.int .u8 (x / 256 ^ k % 256))
      rw [nums_setArr, fill_set n k x hlt] at hst
      have HS := Lib.hid hst
      have HB := Lib.hid (hbel.setCell (p := ⟨w.heap.size, n - 1 - k, none⟩) (Nat.le_refl _) (.int .u8 (x / 256 ^ k % 256)))
      have HZ := Lib.hid hsz
      clear hst hblk hbel hsz
      generalize x / 256 ^ k = y at hy0 hy1 hys HS HB
      have i0 : (0 : Int) ≤ (n : Int) - 1 - (k : Int) := by omega
      have i1 : ((n : Int) - 1 - (k : Int)).toNat = n - 1 - k := by omega
      go_wp2_with fail
      clear i1
      go_roundw
      case rel => exact ⟨k + 1, by omega, by go_num, by rw [hys.out], HS.out, HB.out, by simp [World.setCell, HZ.out]⟩
      case measure => simp [intOf]; omega
    · obtain rfl : k = n := by omega
      rw [fill_all] at hblk
      have HS := Lib.hid hblk
      have HB := Lib.hid hbel
      have HZ := Lib.hid hsz
      clear hblk hbel hsz
      go_wp2_with fail
      go_ret
      exact ⟨rfl, HS.out, HB.out, HZ.out⟩
end Go.Proofs.YtadfopdjhbjekaaDoor
namespace Go.Proofs.YtadfopdjhbjekaaDoor
open Go.RowKit
open Byts Fram
set_option linter.unusedVariables false
def smZ (l : List Int) : List Int := bytesZ (Crc.more 0#32 l)
theorem smZ_bytes (l : List Int) : ∀ z ∈ smZ l, 0 ≤ z ∧ z < 256 := bytesZ_lt _
theorem frm_bytes (zs : List Int) (hz : ∀ z ∈ zs, 0 ≤ z ∧ z < 256) : ∀ z ∈ frm smZ zs, 0 ≤ z ∧ z < 256 := by
  intro z h
  unfold frm at h
  rw [List.mem_append] at h
  rcases h with h | h
  · exact fhd_bytes zs hz z h
  · exact smZ_bytes _ z h
theorem size_in (n : Int) (w : World) (h0 : 0 ≤ n) (h1 : n ≤ 60000) :
    Calls Tryd.prog 42 #[.int .i64 n] w fun e w' => e = .returned (.int .i64 (4 + n + 4)) ∧ w = w' := by
  go_enter Tryd.func42, Tryd.ntmps42
  go_wp2_with fail
  go_ret
  exact ⟨rfl, rfl⟩
theorem be3_head (n : Nat) (h : n ≤ 60000) : [(181 : Int), (n : Int) / 65536, (n : Int) / 256, (n : Int) % 256] = 181 :: be 3 (n : Int) := by
  have e : be 3 (n : Int) = [(n : Int) / 65536 % 256, (n : Int) / 256 % 256, (n : Int) / 1 % 256] := rfl
  rw [e, Int.ediv_one, show (n : Int) / 65536 % 256 = (n : Int) / 65536 by omega, show (n : Int) / 256 % 256 = (n : Int) / 256 by omega]
def FPut (zs : List Int) (w : World) (e : Ending) (w' : World) : Prop :=
  ∃ A c, e = .returned (.tuple #[.slice A (8 + zs.length) c, .int .i64 0]) ∧ Reads w' w'.heap.size 1 A (8 + zs.length) (nums .u8 (frm smZ zs)) ∧ Below w.heap.size w w' ∧ 8 + zs.length ≤ c ∧ c ≤ maxLen
set_option maxHeartbeats 400000 in
theorem fput_ok (A : Option Addr) (n c : Nat) (zs : List Int) (w : World) (ht : Tab w) (hn : n ≤ 60000) (hr : Reads w w.heap.size 1 A n (nums .u8 zs)) (hz : ∀ z ∈ zs, 0 ≤ z ∧ z < 256) :
    Calls Tryd.prog 41 #[.slice A n c] w (FPut zs w) := by
  have hl : zs.length = n := by have := hr.1; simpa [nums] using this
  have HR := Lib.hid hr
  have HZ := Lib.hid hz
  have HL := Lib.hid hl
  have HT := Lib.hid ht
  clear hr hz hl ht
  have hsz := size_in (n : Int) w (by omega) (by omega)
  have hmk : ∀ w, (Instr.makeSlice 22 (.int .i64 0) (.int .i64 (4 + (n : Int) + 4))).run Tryd.prog w = .ok (.slice (some ⟨w.heap.size, 0, none⟩) 0 (n + 8)) (w.alloc (.cells (nums .u8 (List.replicate (n + 8) 0)).toArray 5)) := by
    intro w
    have := make_cap (n + 8) (by omega) w
    rw [show (4 + (n : Int) + 4) = ((n + 8 : Nat) : Int) by omega]
    exact this
  go_enter Tryd.func41, Tryd.ntmps41
  go_wp2_with fail
  refine hsz.mono ?_
  rintro e w' ⟨rfl, rfl⟩
  go_wp2_with (at_builtin; refine wpl_bytes rfl (.tmp 14) (.tmp 23) rfl w.heap.size _ 0 [] rfl ?o1 (w.heap.size + 2) _ 4 4 (181 :: be 3 (n : Int)) rfl ?r1 ?c1 ?c2 ?_)
  case o1 => exact (own_cap w w.heap.size 5 .u8 (List.replicate (n + 8) 0) (n + 8) _ rfl (Nat.le_refl _) (by simp) (by unfold maxLen; omega)).alloc _
  case r1 =>
    have := reads_new (w.alloc (.cells (nums .u8 (List.replicate (n + 8) 0)).toArray 5)) (nums .u8 [181, (n : Int) / 65536, (n : Int) / 256, (n : Int) % 256]) 5 (0, 0) 4 (w.heap.size + 1) (w.heap.size + 2) (by simp) rfl (by omega)
    rw [← be3_head n hn]
    exact this
  case c1 => omega
  case c2 => simp; omega
  intro A1 c1 w1 hown1 hgr1 hb1 hor1
  try simp only [Nat.zero_add, List.nil_append] at hown1
  have hbA : Below w.heap.size w w1 := (((Below.refl _ _).alloc (Nat.le_refl _) _).alloc (by simp) _).trans hb1
  have hr1 := HR.out.below hbA
  have hs1 := hbA.size
  clear hgr1 hor1 hmk hb1
  have HBA := Lib.hid hbA
  clear hbA
  go_wp2_with (at_builtin; refine wpl_bytes rfl (.tmp 25) (.tmp 26) rfl w.heap.size _ 4 (181 :: be 3 (n : Int)) rfl hown1 w.heap.size A n c zs rfl hr1 ?c3 ?c4 ?_)
  case c3 => omega
  case c4 => exact hs1
  intro A2 c2 w2 hown2 hgr2 hb2 hor2
  have hbB := HBA.out.trans hb2
  have e2 : 181 :: (be 3 (n : Int) ++ zs) = fhd zs := by rw [← HL.out]; rfl
  rw [e2] at hown2
  have cs := sum_any A2 (4 + n) c2 (fhd zs) w2 (HT.out.below hbB (Nat.le_refl _)) (own_reads hown2) (fhd_bytes zs HZ.out) (by omega)
  have hs2 := hbB.size
  obtain ⟨r, hr⟩ : ∃ r, Crc.more 0#32 (fhd zs) = r := ⟨_, rfl⟩
  rw [hr] at cs
  have HRR := Lib.hid hr
  have HBB := Lib.hid hbB
  have HO2 := Lib.hid hown2
  have hrl := r.isLt
  clear hgr2 hor2 hb2 hbB e2 hown1 hown2 hr1 hr
  go_wp2_with fail
  refine cs.mono ?_
  rintro e w' ⟨rfl, rfl⟩
  go_wp2_with (at_builtin; refine wpl_bytes rfl (.tmp 30) (.tmp 42) rfl w.heap.size _ (4 + n) (fhd zs) rfl ?o3 (w2.heap.size + 1) _ 4 4 (bytesZ r) rfl ?r3 ?c5 ?c6 ?_)
  case o3 => exact HO2.out.alloc _
  case r3 => exact reads_new w2 (nums .u8 (bytesZ r)) 5 (0, 0) 4 _ _ rfl rfl (by omega)
  case c5 => omega
  case c6 => simp; omega
  intro A3 c3 w3 hown3 hgr3 hb3 hor3
  have hbC := HBB.out.trans (((Below.refl _ _).alloc hs2 _).trans hb3)
  have e3 : fhd zs ++ bytesZ r = frm smZ zs := by rw [← HRR.out]; rfl
  rw [e3] at hown3
  have e4 : 4 + n + 4 = 8 + zs.length := by rw [HL.out]; omega
  rw [e4] at hown3
  have HC := Lib.hid hbC
  have HO3 := Lib.hid hown3
  have E4 := Lib.hid e4
  clear hgr3 hor3 hb3 hbC e3 e4 hown3
  go_wp2
  rw [E4.out]
  go_ret2
  exact ⟨A3, c3, rfl, own_reads HO3.out, HC.out, own_bd HO3.out⟩
end Go.Proofs.YtadfopdjhbjekaaDoor
namespace Go.Proofs.YtadfopdjhbjekaaDoor
open Go.RowKit
open Byts Fram
set_option linter.unusedVariables false
theorem div256 (r : Crc.W32) (j : Nat) : (r.toNat : Int) / 256 ^ j / 256 = (r.toNat : Int) / 256 ^ (j + 1) := by
  rw [Int.ediv_ediv_of_nonneg (Int.pow_nonneg (by decide)), Int.pow_succ]
theorem bytesZ_shr' (r : Crc.W32) (k : Nat) (h : k < 4) : (bytesZ r).getD k 0 = (r.toNat : Int) / 256 ^ k % 256 := by
  have hr := r.isLt
  have hk : k = 0 ∨ k = 1 ∨ k = 2 ∨ k = 3 := by omega
  rcases hk with rfl | rfl | rfl | rfl
  · simp [bytesZ]
  · simp [bytesZ]
  · simp [bytesZ]
  · simp [bytesZ]; omega
theorem bytesZ_succ (r : Crc.W32) (j : Nat) (h : j < 4) : (bytesZ r).take (j + 1) = (bytesZ r).take j ++ [(r.toNat : Int) / 256 ^ j % 256] := by
  have e := bytesZ_shr' r j h
  have hl : j < (bytesZ r).length := h
  rw [List.take_add_one, List.getElem?_eq_getElem hl]
  have : (bytesZ r)[j] = (bytesZ r).getD j 0 := by simp [List.getD, hl]
  rw [this, e]
  rfl
def FRef (zs : List Int) (w : World) (e : Ending) (w' : World) : Prop :=
  ∃ A c, e = .returned (.slice A (8 + zs.length) c) ∧ w'.ownsRow w.heap.size 5 1 (.slice A (8 + zs.length) c) (8 + zs.length) (nums .u8 (frm smZ zs)) ∧ Below w.heap.size w w'
set_option maxHeartbeats 800000 in
theorem frefput_any (A : Option Addr) (n c : Nat) (zs : List Int) (w : World) (hn : n ≤ 60000) (hr : Reads w w.heap.size 1 A n (nums .u8 zs)) (hz : ∀ z ∈ zs, 0 ≤ z ∧ z < 256) :
    Calls Tryd.prog 45 #[.slice A n c] w (FRef zs w) := by
  have hl : zs.length = n := by have := hr.1; simpa [nums] using this
  have HR := Lib.hid hr
  have HZ := Lib.hid hz
  have HL := Lib.hid hl
  clear hr hz hl
  go_enter Tryd.func45, Tryd.ntmps45
  go_wp2_with fail
  refine (high09_any 3 (n : Int) _ (by omega) (by omega) (by omega)).mono ?_
  rintro e w1 ⟨rfl, hb1, hbe1, hs1⟩
  have hbA : Below w.heap.size w w1 := ((Below.refl _ _).alloc (Nat.le_refl _) _).trans (hbe1.mono (by simp))
  have hz1 : w1.heap.size = w.heap.size + 2 := by rw [hs1]; simp
  have ho1 : w1.ownsRow w.heap.size 5 1 (.slice (some ⟨w.heap.size, 0, none⟩) 1 1) 1 (nums .u8 [181]) :=
    (own_new w w.heap.size 5 .u8 [181] 1 _ rfl (Nat.le_refl _) rfl (by decide)).kept (row := none) ⟨hbe1.os, hbe1.tape, hbe1.output, hbe1.size, fun k hk _ => hbe1.block k hk⟩ (.inr (by simp [Value.ownBlock]))
  have hrd := hb1.reads 0 3 (by rw [be_length]; omega)
  rw [List.drop_zero, List.take_of_length_le (by rw [be_length]; exact Nat.le_refl _)] at hrd
  have HBA := Lib.hid hbA
  have HZ1 := Lib.hid hz1
  clear hb1 hbe1 hs1 hbA hz1
  go_wp2_with (at_builtin; refine wpl_bytes rfl (.tmp 6) (.tmp 10) rfl w.heap.size _ 1 [181] rfl ho1 w1.heap.size (some ⟨w.heap.size + 1, 0, none⟩) 3 3 (be 3 (n : Int)) rfl ?r1 ?c1 ?c2 ?_)
  case r1 => simpa using hrd
  case c1 => omega
  case c2 => have := HZ1.out; omega
  intro A1 c1 w2 hown1 hgr1 hb2 hor1
  have hbB := HBA.out.trans hb2
  have hs2 := hbB.size
  have hr2 := HR.out.below hbB
  have HBB := Lib.hid hbB
  clear hgr1 hor1 hb2 hbB ho1 hrd
  go_wp2_with (at_builtin; refine wpl_bytes rfl (.tmp 11) (.tmp 12) rfl w.heap.size _ (1 + 3) ([181] ++ be 3 (n : Int)) rfl ?o2 w.heap.size A n c zs rfl hr2 ?c3 ?c4 ?_)
  case o2 => exact hown1
  case c3 => omega
  case c4 => exact hs2
  intro A2 c2 w3 hown2 hgr2 hb3 hor2
  have hbC := HBB.out.trans hb3
  have hs3 := hbC.size
  have e2 : nums .u8 ([181] ++ be 3 (n : Int) ++ zs) = nums .u8 (fhd zs) := by rw [← HL.out]; rfl
  have hown3 : w3.ownsRow w.heap.size 5 1 (.slice A2 (4 + n) c2) (4 + n) (nums .u8 (fhd zs)) := by rw [← e2]; exact hown2
  have cs := refsum_any A2 (4 + n) c2 (fhd zs) w3 (own_reads hown3) (fhd_bytes zs HZ.out) (by omega)
  obtain ⟨r, hr⟩ : ∃ r, Crc.more 0#32 (fhd zs) = r := ⟨_, rfl⟩
  rw [hr] at cs
  have HRR := Lib.hid hr
  have HBC := Lib.hid hbC
  have HO3 := Lib.hid hown3
  have hrl := r.isLt
  clear hgr2 hor2 hb3 hbC e2 hown1 hown2 hown3 hr2 hr
  go_wp2_with fail
  refine cs.mono ?_
  rintro e w' ⟨rfl, rfl⟩
  go_wp2_with fail
  go_loopw [3, 4, 5] (fun s x i wr => ∃ (j : Nat) (A3 : Option Addr) (c3 : Nat), j ≤ 4 ∧ i = .int .i64 j ∧ x = .int .u32 ((r.toNat : Int) / 256 ^ j) ∧ s = .slice A3 (4 + n + j) c3 ∧ wr.ownsRow w.heap.size 5 1 (.slice A3 (4 + n + j) c3) (4 + n + j) (nums .u8 (fhd zs ++ (bytesZ r).take j)) ∧ Below w.heap.size w wr) (fun _ _ i _ => 4 - (intOf i).toNat)
  case atStart => exact ⟨0, A2, c2, by omega, rfl, by simp, rfl, by simpa using HO3.out, HBC.out⟩
  case round =>
    obtain ⟨j, A3, c3, hj, rfl, rfl, rfl, hown, hbel⟩ := hrel
    have hsz := hbel.size
    by_cases hlt : j < 4
    · have hd := Lib.hid (div256 r j)
      have y0 : 0 ≤ (r.toNat : Int) / 256 ^ j := Int.ediv_nonneg (by omega) (Int.pow_nonneg (by decide))
      have y1 : (r.toNat : Int) / 256 ^ j ≤ 4294967295 := Int.le_trans (Int.ediv_le_self _ (by omega)) (by omega)
      have hbs := Lib.hid (bytesZ_succ r j hlt)
      have HB := Lib.hid hbel
      clear hbel
      generalize (r.toNat : Int) / 256 ^ j = y at y0 y1 hd hbs
      go_wp2_with (at_builtin; refine wpl_bytes rfl (.tmp 20) (.tmp 24) rfl w.heap.size _ (4 + n + j) (fhd zs ++ (bytesZ r).take j) rfl ?o4 (wr.heap.size + 1) (some ⟨wr.heap.size, 0, none⟩) 1 1 [y % 256] rfl ?r4 ?c7 ?c8 ?_)
      case o4 => exact hown.alloc _
      case r4 => exact reads_new wr (nums .u8 [y % 256]) 5 (0, 0) 1 _ _ rfl rfl (by omega)
      case c7 => omega
      case c8 => simp; omega
      intro A4 c4 w4 hown4 hgr4 hb4 hor4
      try rw [List.append_assoc] at hown4
      rw [← hbs.out] at hown4
      have hbD := Lib.hid (HB.out.trans (((Below.refl _ _).alloc hsz _).trans hb4))
      have HO4 := Lib.hid hown4
      clear hgr4 hor4 hb4 hown4 hown
      go_wp2_with fail
      go_roundw
      case rel => exact ⟨j + 1, A4, c4, by omega, by go_num, by rw [hd.out], rfl, HO4.out, hbD.out⟩
      case measure => simp [intOf]; omega
    · obtain rfl : j = 4 := by omega
      have e3 : nums .u8 (fhd zs ++ (bytesZ r).take 4) = nums .u8 (frm smZ zs) := by
        rw [show (bytesZ r).take 4 = bytesZ r from rfl, ← HRR.out]; rfl
      rw [e3, show 4 + n + 4 = 8 + zs.length by rw [HL.out]; omega] at hown
      have HO4 := Lib.hid hown
      have HB := Lib.hid hbel
      have E4 := Lib.hid (show 4 + n + 4 = 8 + zs.length by rw [HL.out]; omega)
      clear hown hbel e3
      go_wp2
      rw [E4.out]
      go_ret
      exact ⟨A3, c3, rfl, HO4.out, HB.out⟩
end Go.Proofs.YtadfopdjhbjekaaDoor
namespace Go.Proofs.YtadfopdjhbjekaaDoor
open Go.RowKit
open Byts Fram
set_option linter.unusedVariables false
def pz (zs : List Int) (k : Nat) : Int := if k ≤ 1 then 0 else if k = 2 then zs.getD 1 0 else if k = 3 then zs.getD 1 0 * 256 + zs.getD 2 0 else nZ zs
theorem pz_succ (zs : List Int) (k : Nat) (h1 : 1 ≤ k) (h : k < 4) : pz zs (k + 1) = pz zs k * 256 + zs.getD k 0 := by
  have hk : k = 1 ∨ k = 2 ∨ k = 3 := by omega
  rcases hk with rfl | rfl | rfl <;> simp [pz, nZ]
theorem pz_bd (zs : List Int) (hz : ∀ z ∈ zs, 0 ≤ z ∧ z < 256) (k : Nat) (h : k < 4) : 0 ≤ pz zs k ∧ pz zs k < 65536 := by
  have b1 := getD_nn hz 1
  have b2 := getD_nn hz 2
  unfold pz
  split
  · omega
  · split
    · omega
    · split
      · omega
      · omega
theorem or64_low (a b : Int) (ha : 0 ≤ a) (ha1 : a < 65536) (hb : 0 ≤ b ∧ b < 256) : bits .or .i64 (a * 256) b = a * 256 + b := by
  obtain ⟨a, rfl⟩ := Int.eq_ofNat_of_zero_le ha
  obtain ⟨b, rfl⟩ := Int.eq_ofNat_of_zero_le hb.1
  have h := i64_or_nat (a * 256) b (by omega) (by omega)
  rw [show (((a * 256 : Nat) : Nat) : Int) = (a : Int) * 256 by omega] at h
  rw [h, show a * 256 = 2 ^ 8 * a by omega, ← Nat.two_pow_add_eq_or_of_lt (show b < 2 ^ 8 by omega)]
  omega
theorem getD_cell {w : World} {B n cap : Nat} {A : Option Addr} {zs : List Int} (hr : Reads w B 1 A n (nums .u8 zs)) {k : Nat} (hk : k < n) : ∃ b off, A = some ⟨b, off, none⟩ ∧ w.cell? ⟨b, off + k, none⟩ = some (.int .u8 (zs.getD k 0)) := by
  obtain ⟨b, off, u, rfl, _, hu, hc⟩ := hr.at_ hk
  obtain ⟨z, hz, rfl⟩ := nums_at hu
  exact ⟨b, off, rfl, by rw [hc]; simp [List.getD, hz]⟩
set_option maxHeartbeats 400000 in
theorem length_bad (A : Option Addr) (n c : Nat) (zs : List Int) (w : World) (hr : Reads w w.heap.size 1 A n (nums .u8 zs)) (hn : n ≤ 9223372036854775807) (h0 : n ≠ 0) (h1 : zs.getD 0 0 ≠ 181) :
    Calls Tryd.prog 43 #[.slice A n c] w fun e w' => e = .returned (.tuple #[.int .i64 0, .bool false]) ∧ w = w' := by
  obtain ⟨b, off, rfl, hc⟩ := getD_cell (cap := c) hr (k := 0) (by omega)
  have ht : (zs.getD 0 0 != 181) = true := by rw [bne_iff_ne]; exact h1
  have h0' : 0 < n := by omega
  generalize zs.getD 0 0 = z at hc ht
  rw [Nat.add_zero] at hc
  clear h1 hr h0
  go_enter Tryd.func43, Tryd.ntmps43
  go_wp2_with fail
  go_ret2
  exact ⟨rfl, rfl⟩
set_option maxHeartbeats 400000 in
theorem length_good (A : Option Addr) (n c : Nat) (zs : List Int) (w : World) (hr : Reads w w.heap.size 1 A n (nums .u8 zs)) (hz : ∀ z ∈ zs, 0 ≤ z ∧ z < 256) (hn : n ≤ 9223372036854775807) (h1 : n = 0 ∨ zs.getD 0 0 = 181) :
    Calls Tryd.prog 43 #[.slice A n c] w fun e w' => e = .returned (.tuple #[.int .i64 (nZ zs), .bool (decide (nZ zs ≤ 60000))]) ∧ w = w' := by
  have hl : zs.length = n := by have := hr.1; simpa [nums] using this
  have HR := Lib.hid hr
  have HZ := Lib.hid hz
  have HL := Lib.hid hl
  clear hr hz hl
  have key : ∀ (pre : Hid True), Calls Tryd.prog 43 #[.slice A n c] w fun e w' => e = .returned (.tuple #[.int .i64 (pz zs 4), .bool (decide (pz zs 4 ≤ 60000))]) ∧ w = w' := by
    intro _
    go_enter Tryd.func43, Tryd.ntmps43
    go_upto_region 1 with fail
    go_cut [14] (fun v wx => v = .bool false ∧ w = wx)
    case first =>
      rcases Nat.eq_zero_or_pos n with h0 | h0
      · subst h0
        go_wp2_with fail
        go_meet
        exact ⟨rfl, rfl⟩
      · have h2 := h1.resolve_left (by omega)
        obtain ⟨b, off, rfl, hc⟩ := getD_cell (cap := c) HR.out (k := 0) h0
        rw [h2, Nat.add_zero] at hc
        clear h1 h2
        go_wp2_with fail
        go_meet
        exact ⟨rfl, rfl⟩
    case rest =>
      obtain ⟨rfl, rfl⟩ := hcut
      go_wp2_with fail
      go_loop [4, 5] (fun v i => ∃ k : Nat, 1 ≤ k ∧ k ≤ 4 ∧ i = .int .i64 k ∧ v = .int .i64 (pz zs k)) (fun _ i => 4 - (intOf i).toNat)
      case atStart => exact ⟨1, by omega, by omega, rfl, rfl⟩
      case round =>
        obtain ⟨k, hk1, hk, rfl, rfl⟩ := hrel
        by_cases hlt : k < 4
        · obtain ⟨b0, b1⟩ := pz_bd zs HZ.out k hlt
          have hs := Lib.hid (pz_succ zs k hk1 hlt)
          generalize pz zs k = x at b0 b1 hs
          by_cases hkn : k < n
          · obtain ⟨b, off, rfl, hc⟩ := getD_cell (cap := c) HR.out hkn
            have hzb := getD_nn HZ.out k
            generalize zs.getD k 0 = z at hc hzb hs
            have ho := Lib.hid (or64_low x z b0 b1 hzb)
            obtain ⟨z0, z1⟩ := hzb
            go_wp2_with fail
            go_round
            case rel => exact ⟨k + 1, by omega, by omega, by go_num, by rw [hs.out, ho.out]⟩
            case measure => simp [intOf]; omega
          · have hz0 : zs.getD k 0 = 0 := by simp [List.getD, List.getElem?_eq_none (show zs.length ≤ k by rw [HL.out]; omega)]
            have hs2 := Lib.hid (show pz zs (k + 1) = x * 256 by rw [hs.out, hz0]; omega)
            clear hz0
            go_wp2_with fail
            go_round
            case rel => exact ⟨k + 1, by omega, by omega, by go_num, by rw [hs2.out]⟩
            case measure => simp [intOf]; omega
        · obtain rfl : k = 4 := by omega
          obtain ⟨x, hx⟩ : ∃ x, pz zs 4 = x := ⟨_, rfl⟩
          rw [hx]
          have HX := Lib.hid hx
          clear hx
          go_wp2_with fail
          go_ret2
          exact ⟨by rw [HX.out]; rfl, rfl⟩
  exact key (Lib.hid trivial)
def FGet (zs : List Int) (w : World) (e : Ending) (w' : World) : Prop :=
  ∃ A c, e = .returned (.tuple #[.slice A (gB smZ zs).length c, .int .i64 (gN smZ zs), .int .i64 (gE smZ zs)]) ∧ Reads w' w'.heap.size 1 A (gB smZ zs).length (nums .u8 (gB smZ zs)) ∧ Below w.heap.size w w'
def FGetO (zs : List Int) (w : World) (e : Ending) (w' : World) : Prop :=
  ∃ A c, e = .returned (.tuple #[.slice A (gB smZ zs).length c, .int .i64 (gN smZ zs), .int .i64 (gE smZ zs)]) ∧ w'.ownsRow w.heap.size 5 1 (.slice A (gB smZ zs).length c) (gB smZ zs).length (nums .u8 (gB smZ zs)) ∧ Below w.heap.size w w'
theorem FGetO.get {zs : List Int} {w : World} (e : Ending) (w' : World) (h : FGetO zs w e w') : FGet zs w e w' := by
  obtain ⟨A, c, h1, h2, h3⟩ := h
  exact ⟨A, c, h1, own_reads h2, h3⟩
theorem FGet_bad {zs : List Int} {w w' : World} {c : Int} (hc : c ≠ 0) (he : gE smZ zs = c) (hb : Below w.heap.size w w') : FGetO zs w (.returned (.tuple #[.slice none 0 0, .int .i64 0, .int .i64 c])) w' := by
  have e1 : gB smZ zs = [] := by unfold gB; rw [if_neg (by rw [he]; exact hc)]
  have e2 : gN smZ zs = 0 := by unfold gN; rw [if_neg (by rw [he]; exact hc)]
  refine ⟨none, 0, ?_, ?_, hb⟩
  · rw [e1, e2, he]; rfl
  · rw [e1]; exact World.ownsRow_nil _ _ _ _
set_option maxHeartbeats 400000 in
theorem fget_form (A : Option Addr) (n c : Nat) (zs : List Int) (w : World) (hr : Reads w w.heap.size 1 A n (nums .u8 zs)) (hz : ∀ z ∈ zs, 0 ≤ z ∧ z < 256) (hn : n ≤ 9223372036854775807) (h : (n ≠ 0 ∧ zs.getD 0 0 ≠ 181) ∨ ((n = 0 ∨ zs.getD 0 0 = 181) ∧ 60000 < nZ zs)) :
    Calls Tryd.prog 9 #[.slice A n c] w (FGetO zs w) := by
  have hl : zs.length = n := by have := hr.1; simpa [nums] using this
  have he : gE smZ zs = 6 := by
    unfold gE
    rcases h with h | h
    · rw [if_pos (by rw [hl]; exact h)]
    · rw [if_neg (by rw [hl]; intro h'; rcases h.1 with h1 | h1; exact h'.1 h1; exact h'.2 h1), if_pos h.2]
  have HE := Lib.hid he
  rcases h with h | h
  · have hc := length_bad A n c zs w hr hn h.1 h.2
    clear hr hz h he hl
    go_enter Tryd.func9, Tryd.ntmps9
    go_wp2_with fail
    refine hc.mono ?_
    rintro e w' ⟨rfl, rfl⟩
    go_wp2_with fail
    go_ret3
    exact FGet_bad (by decide) HE.out (Below.refl _ _)
  · have hc := length_good A n c zs w hr hz hn h.1
    have hd : decide (nZ zs ≤ 60000) = false := by simp; exact h.2
    rw [hd] at hc
    generalize nZ zs = x at hc
    clear hr hz h he hl hd
    go_enter Tryd.func9, Tryd.ntmps9
    go_wp2_with fail
    refine hc.mono ?_
    rintro e w' ⟨rfl, rfl⟩
    go_wp2_with fail
    go_ret3
    exact FGet_bad (by decide) HE.out (Below.refl _ _)
set_option maxHeartbeats 400000 in
theorem fget_short (A : Option Addr) (n c : Nat) (zs : List Int) (w : World) (hr : Reads w w.heap.size 1 A n (nums .u8 zs)) (hz : ∀ z ∈ zs, 0 ≤ z ∧ z < 256) (hn : n ≤ 9223372036854775807) (h1 : n = 0 ∨ zs.getD 0 0 = 181) (h2 : nZ zs ≤ 60000) (h3 : (n : Int) < 8 + nZ zs) :
    Calls Tryd.prog 9 #[.slice A n c] w (FGetO zs w) := by
  have hl : zs.length = n := by have := hr.1; simpa [nums] using this
  have he : gE smZ zs = 5 := by
    unfold gE
    rw [if_neg (by rw [hl]; intro h'; rcases h1 with h1 | h1; exact h'.1 h1; exact h'.2 h1), if_neg (by omega), if_pos (by rw [hl]; exact h3)]
  have HE := Lib.hid he
  have hc := length_good A n c zs w hr hz hn h1
  have hd : decide (nZ zs ≤ 60000) = true := by simp; exact h2
  rw [hd] at hc
  obtain ⟨x0, x1⟩ := nZ_nn hz
  generalize nZ zs = x at hc h2 h3 x0 x1
  have hs := size_in x w x0 h2
  clear hr hz h1 he hl hd
  by_cases h4 : n < 4
  · go_enter Tryd.func9, Tryd.ntmps9
    go_wp2_with fail
    refine hc.mono ?_
    rintro e w' ⟨rfl, rfl⟩
    go_wp2_with fail
    go_ret3
    exact FGet_bad (by decide) HE.out (Below.refl _ _)
  · go_enter Tryd.func9, Tryd.ntmps9
    go_wp2_with fail
    refine hc.mono ?_
    rintro e w' ⟨rfl, rfl⟩
    go_wp2_with fail
    refine hs.mono ?_
    rintro e w' ⟨rfl, rfl⟩
    go_wp2_with fail
    go_ret3
    exact FGet_bad (by decide) HE.out (Below.refl _ _)
end Go.Proofs.YtadfopdjhbjekaaDoor
namespace Go.Proofs.YtadfopdjhbjekaaDoor
open Go.RowKit
open Byts Fram
set_option linter.unusedVariables false
theorem tail_at (zs : List Int) (m j : Nat) (hj : j < 4) (h : m + 4 ≤ zs.length) : ((zs.drop m).take 4)[j]? = some (zs.getD (m + j) 0) := by
  rw [List.getElem?_take, if_pos hj, List.getElem?_drop]
  simp [List.getD, show m + j < zs.length by omega]
theorem bytesZ_at (r : Crc.W32) (j : Nat) (hj : j < 4) : (bytesZ r)[j]? = some ((bytesZ r).getD j 0) := by
  simp [List.getD, show j < (bytesZ r).length from hj]
theorem tail_ne (zs : List Int) (m j : Nat) (r : Crc.W32) (hj : j < 4) (h : m + 4 ≤ zs.length) (hne : zs.getD (m + j) 0 ≠ (bytesZ r).getD j 0) : (zs.drop m).take 4 ≠ bytesZ r := by
  intro he
  have := tail_at zs m j hj h
  rw [he, bytesZ_at r j hj] at this
  injection this with this
  exact hne this.symm
theorem tail_eq (zs : List Int) (m : Nat) (r : Crc.W32) (h : m + 4 ≤ zs.length) (he : ∀ j, j < 4 → zs.getD (m + j) 0 = (bytesZ r).getD j 0) : (zs.drop m).take 4 = bytesZ r := by
  apply List.ext_getElem?
  intro j
  rcases Nat.lt_or_ge j 4 with hj | hj
  · rw [tail_at zs m j hj h, bytesZ_at r j hj, he j hj]
  · rw [List.getElem?_eq_none (by simp; omega), List.getElem?_eq_none (by exact hj)]
set_option maxHeartbeats 800000 in
theorem fget_main (A : Option Addr) (n c : Nat) (zs : List Int) (w : World) (ht : Tab w) (hr : Reads w w.heap.size 1 A n (nums .u8 zs)) (hz : ∀ z ∈ zs, 0 ≤ z ∧ z < 256) (hnc : n ≤ c) (hc0 : c ≤ 9223372036854775807) (h1 : n = 0 ∨ zs.getD 0 0 = 181) (h2 : nZ zs ≤ 60000) (h3 : 8 + nZ zs ≤ (n : Int)) :
    Calls Tryd.prog 9 #[.slice A n c] w (FGetO zs w) := by
  have hl : zs.length = n := by have := hr.1; simpa [nums] using this
  have hc := length_good A n c zs w hr hz (by omega) h1
  have hd : decide (nZ zs ≤ 60000) = true := by simp; exact h2
  rw [hd] at hc
  obtain ⟨x0, x1⟩ := nZ_nn hz
  have hgE : gE smZ zs = if (zs.drop (4 + (nZ zs).toNat)).take 4 ≠ smZ (zs.take (4 + (nZ zs).toNat)) then 13 else 0 := by
    unfold gE
    rw [if_neg (by rw [hl]; intro h'; rcases h1 with h1 | h1; exact h'.1 h1; exact h'.2 h1), if_neg (by omega), if_neg (by rw [hl]; omega)]
  obtain ⟨m, hm⟩ := Int.eq_ofNat_of_zero_le x0
  rw [hm, Int.toNat_natCast] at hgE
  have HGB : Hid (gE smZ zs = 0 → gB smZ zs = (zs.drop 4).take m ∧ gN smZ zs = 8 + (m : Int)) := Lib.hid (by
    intro h
    unfold gB gN
    rw [if_pos h, if_pos h, hm, Int.toNat_natCast]
    exact ⟨rfl, rfl⟩)
  rw [hm] at hc h2 h3
  have hm8 : 8 + m ≤ n := by omega
  have hm6 : m ≤ 60000 := by omega
  have hs := fun w' => size_in (m : Int) w' (by omega) h2
  have cs := sum_any A (4 + m) c (zs.take (4 + m)) w ht (by
    have := hr.first (k := 4 + m) (by omega)
    rw [Nat.mul_one] at this
    have e : (nums .u8 zs).take (4 + m) = nums .u8 (zs.take (4 + m)) := by simp [nums]
    rwa [e] at this) (fun z h => hz z (List.mem_of_mem_take h)) (by omega)
  obtain ⟨r, hr0⟩ : ∃ r, Crc.more 0#32 (zs.take (4 + m)) = r := ⟨_, rfl⟩
  have hsm : smZ (zs.take (4 + m)) = bytesZ r := by unfold smZ; rw [hr0]
  rw [hr0] at cs
  rw [hsm] at hgE
  have HE := Lib.hid hgE
  have HR := Lib.hid hr
  have HZ := Lib.hid hz
  have HL := Lib.hid hl
  have HS := Lib.hid hs
  have hrl := r.isLt
  clear hr hz h1 hl hd hgE hsm hr0 hm hs ht x0 x1 h2 h3
  go_enter Tryd.func9, Tryd.ntmps9
  go_wp2_with fail
  refine hc.mono ?_
  rintro e w' ⟨rfl, rfl⟩
  go_wp2_with fail
  refine (HS.out _).mono ?_
  rintro e w' ⟨rfl, rfl⟩
  go_wp2_with fail
  refine cs.mono ?_
  rintro e w' ⟨rfl, rfl⟩
  clear hc cs
  go_wp2_with fail
  go_loopw [8, 31] (fun _ i wr => ∃ k : Nat, k ≤ 4 ∧ i = .int .i64 k ∧ Hid (∀ j, j < k → zs.getD (4 + m + j) 0 = (bytesZ r).getD j 0) ∧ Below w.heap.size w wr) (fun _ i _ => 4 - (intOf i).toNat)
  case atStart => exact ⟨0, by omega, rfl, Lib.hid (fun j hj => absurd hj (by omega)), Below.refl _ _⟩
  case round =>
    obtain ⟨k, hk, rfl, HP, hbel⟩ := hrel
    have HB := Lib.hid hbel
    clear hbel
    by_cases hlt : k < 4
    · obtain ⟨b, off, rfl, hcell⟩ := getD_cell (cap := c) (HR.out.below HB.out) (k := 4 + m + k) (by omega)
      have hsh := Lib.hid (bytesZ_shr r k hlt)
      have hzb := getD_nn HZ.out (4 + m + k)
      have i0 : (0 : Int) ≤ 4 + (m : Int) + (k : Int) := by omega
      have i1 : 4 + (m : Int) + (k : Int) < (n : Int) := by omega
      have y0 : 0 ≤ (r.toNat : Int) / 2 ^ (8 * k) := Int.ediv_nonneg (by omega) (Int.pow_nonneg (by decide))
      have HNe := fun hne => tail_ne zs (4 + m) k r hlt (by rw [HL.out]; omega) hne
      obtain ⟨z, hzk⟩ : ∃ z, zs.getD (4 + m + k) 0 = z := ⟨_, rfl⟩
      rw [hzk] at hcell hzb HNe
      have HNE := Lib.hid HNe
      have HZk := Lib.hid hzk
      clear hzk HNe
      by_cases heq : z = (bytesZ r).getD k 0
      · have HQ := Lib.hid heq
        rw [hsh.out] at heq
        have ht : (z != ((r.toNat : Int) / 2 ^ (8 * k) % 256)) = false := by rw [heq]; simp
        clear heq
        go_wp2_with fail
        go_quiet (fail)
        go_wp2_with fail
        go_roundw
        case rel =>
          refine ⟨k + 1, by omega, by go_num, Lib.hid (fun j hj => ?_), below_drewN HB.out _⟩
          rcases Nat.lt_or_ge j k with h | h
          · exact HP.out j h
          · obtain rfl : j = k := by omega
            rw [HZk.out, HQ.out]
        case measure => simp [intOf]; omega
      · have hbad : gE smZ zs = 13 := by rw [HE.out, if_pos (HNE.out heq)]
        have HBad := Lib.hid hbad
        have ht : (z != ((r.toNat : Int) / 2 ^ (8 * k) % 256)) = true := by rw [bne_iff_ne, ← hsh.out]; exact heq
        clear heq hbad
        go_wp2_with fail
        go_quiet (fail)
        go_wp2_with fail
        go_ret3
        exact FGet_bad (by decide) HBad.out (below_drewN HB.out _)
    · obtain rfl : k = 4 := by omega
      have hok : gE smZ zs = 0 := by
        rw [HE.out, if_neg]
        intro h
        exact h (tail_eq zs (4 + m) r (by rw [HL.out]; omega) HP.out)
      obtain ⟨e1, e2⟩ := HGB.out hok
      have hcr := (HR.out.below HB.out).cut (k := 4) (cap := c) (by omega) hnc
      have hcr2 := hcr.first (k := m) (by omega)
      have ed : ((nums .u8 zs).drop (4 * 1)).take (m * 1) = nums .u8 ((zs.drop 4).take m) := by simp [nums]
      rw [ed, Nat.mul_one] at hcr2
      have hA3 : (if c = 4 then A else A.map (·.add (4 * 1))) = Option.map (fun x : Addr => ({ block := x.block, off := x.off + 4 } : Addr)) A := by rw [if_neg (by omega)]; rfl
      have hm4 := Lib.hid (show 4 + m - 4 = m by omega)
      rw [hA3] at hcr2
      have HC2 := Lib.hid hcr2
      have HOk := Lib.hid hok
      have E1 := Lib.hid e1
      have E2 := Lib.hid e2
      have hws := HB.out.size
      clear hok e1 e2 hcr hcr2 ed HP hA3
      go_wp2_with (at_builtin; refine wpl_bytes rfl (.const (.slice none 0 0)) (.tmp 51) rfl w.heap.size (.slice none 0 0) 0 [] rfl (World.ownsRow_nil _ _ _ _) w.heap.size (Option.map (fun x : Addr => ({ block := x.block, off := x.off + 4 } : Addr)) A) (4 + m - 4) (c - 4) ((zs.drop 4).take m) rfl ?r1 ?c1 ?c2 ?_)
      case r1 => rw [hm4.out]; exact HC2.out
      case c1 => omega
      case c2 => exact hws
      intro A4 c4 w4 hown4 hgr4 hb4 hor4
      have hbD := HB.out.trans hb4
      have HBD := Lib.hid hbD
      have HO := Lib.hid hown4
      have hs4 := HS.out w4
      clear hgr4 hor4 hb4 hown4 hbD
      go_wp2_with fail
      refine hs4.mono ?_
      rintro e w' ⟨rfl, rfl⟩
      go_wp2
      go_ret3
      have ho := HO.out
      try simp only [Nat.zero_add, List.nil_append, hm4.out] at ho
      have hlen : (gB smZ zs).length = m := by rw [E1.out]; simp [HL.out]; omega
      refine ⟨A4, c4, ?_, ?_, HBD.out⟩
      · rw [hlen, E2.out, HOk.out, show (8 : Int) + (m : Int) = 4 + (m : Int) + 4 by omega]; rfl
      · rw [hlen, E1.out]; exact ho
end Go.Proofs.YtadfopdjhbjekaaDoor
namespace Go.Proofs.YtadfopdjhbjekaaDoor
open Go.RowKit
open Byts Fram
set_option linter.unusedVariables false
def gStep (zs : List Int) : Nat := max 1 (gN smZ zs).toNat
def allF (zs : List Int) (p : Nat) : List (List Int) × Nat × Int :=
  if h : p < zs.length then
    if gE smZ (zs.drop p) = 0 then
      let r := allF zs (p + gStep (zs.drop p))
      (gB smZ (zs.drop p) :: r.1, r.2)
    else ([], p, gE smZ (zs.drop p))
  else ([], p, 0)
termination_by zs.length - p
decreasing_by
  unfold gStep
  omega
theorem allF_end {zs : List Int} {p : Nat} (h : zs.length ≤ p) : allF zs p = ([], p, 0) := by
  rw [allF, dif_neg (by omega)]
theorem allF_bad {zs : List Int} {p : Nat} (h : p < zs.length) (he : gE smZ (zs.drop p) ≠ 0) : allF zs p = ([], p, gE smZ (zs.drop p)) := by
  rw [allF, dif_pos h, if_neg he]
theorem allF_ok {zs : List Int} {p : Nat} (h : p < zs.length) (he : gE smZ (zs.drop p) = 0) : allF zs p = (gB smZ (zs.drop p) :: (allF zs (p + gStep (zs.drop p))).1, (allF zs (p + gStep (zs.drop p))).2) := by
  rw [allF, dif_pos h, if_pos he]
structure AllSt (zs : List Int) (p : Nat) (o : List (List Int)) : Prop where
  at_ : allF zs 0 = (o ++ (allF zs p).1, (allF zs p).2)
  le : p ≤ zs.length
  few : o.length ≤ p
theorem AllSt.start (zs : List Int) : AllSt zs 0 [] := ⟨rfl, Nat.zero_le _, Nat.le_refl _⟩
theorem gN_ok {zs : List Int} (hz : ∀ z ∈ zs, 0 ≤ z ∧ z < 256) (h : gE smZ zs = 0) : 8 ≤ gN smZ zs ∧ gN smZ zs ≤ (zs.length : Int) ∧ (gStep zs : Int) = gN smZ zs := by
  have h0 := (nZ_nn hz).1
  have e : gN smZ zs = 8 + nZ zs := by unfold gN; rw [if_pos h]
  have h2 : ¬ ((zs.length : Int) < 8 + nZ zs) := by
    intro hlt
    unfold gE at h
    split at h
    · cases h
    · split at h
      · cases h
      · cases h
  unfold gStep
  omega
variable {zs : List Int} {p : Nat} {o : List (List Int)}
theorem AllSt.next (h : AllSt zs p o) (hz : ∀ z ∈ zs, 0 ≤ z ∧ z < 256) (hp : p < zs.length) (he : gE smZ (zs.drop p) = 0) : AllSt zs (p + gStep (zs.drop p)) (o ++ [gB smZ (zs.drop p)]) := by
  obtain ⟨h8, hl, hs⟩ := gN_ok (fun z hz' => hz z (List.mem_of_mem_drop hz')) he
  rw [List.length_drop] at hl
  refine ⟨?_, by omega, ?_⟩
  · rw [h.at_, allF_ok hp he]
    simp
  · have := h.few
    simp only [List.length_append, List.length_cons, List.length_nil]
    omega
theorem AllSt.done (h : AllSt zs p o) (hp : zs.length ≤ p) : allF zs 0 = (o, p, 0) := by
  rw [h.at_, allF_end hp, List.append_nil]
theorem AllSt.bad (h : AllSt zs p o) (hp : p < zs.length) (he : gE smZ (zs.drop p) ≠ 0) : allF zs 0 = (o, p, gE smZ (zs.drop p)) := by
  rw [h.at_, allF_bad hp he, List.append_nil]
theorem fgetO_any (A : Option Addr) (n c : Nat) (zs : List Int) (w : World) (ht : Tab w) (hr : Reads w w.heap.size 1 A n (nums .u8 zs)) (hz : ∀ z ∈ zs, 0 ≤ z ∧ z < 256) (hnc : n ≤ c) (hc0 : c ≤ 9223372036854775807) :
    Calls Tryd.prog 9 #[.slice A n c] w (FGetO zs w) := by
  by_cases h1 : n ≠ 0 ∧ zs.getD 0 0 ≠ 181
  · exact fget_form A n c zs w hr hz (by omega) (.inl h1)
  · have h1' : n = 0 ∨ zs.getD 0 0 = 181 := by
      by_cases h : n = 0
      · exact .inl h
      · right
        by_cases h2 : zs.getD 0 0 = 181
        · exact h2
        · exact absurd ⟨h, h2⟩ h1
    by_cases h2 : nZ zs ≤ 60000
    · by_cases h3 : (n : Int) < 8 + nZ zs
      · exact fget_short A n c zs w hr hz (by omega) h1' h2 h3
      · exact fget_main A n c zs w ht hr hz hnc hc0 h1' h2 (by omega)
    · exact fget_form A n c zs w hr hz (by omega) (.inr ⟨h1', by omega⟩)
end Go.Proofs.YtadfopdjhbjekaaDoor
namespace Go.Proofs.YtadfopdjhbjekaaDoor.H
open Go.RowKit
set_option linter.unusedSimpArgs false
abbrev Fr := Nat → Value
def lk : List (Nat × Value) → Fr → Fr
  | [], b, j => b j
  | (k, v) :: t, b, j => bif Nat.beq j k then v else lk t b j
def hav (M : List Nat) (g b : Fr) : Fr := fun j => bif M.contains j then g j else b j
def ev (f : Fr) : Operand → Value
  | .tmp t => f t
  | .const v => v
  | .global g => .pointer (some ⟨g, 0, none⟩)
  | .func n => .func (.func n) #[] #[]
structure Rep (n : Nat) (f : Fr) (a : Act) : Prop where
  size : a.tmps.size = n
  defers : a.defers = []
  get : ∀ j, a.tmps.getD j undef = f j
def lft (n : Nat) (Q : Exit → Fr → World → Prop) (e : Exit) (a : Act) (w : World) : Prop := ∃ f, Rep n f a ∧ Q e f w
def fitO (n : Nat) (o : Oper) : Bool := match o.dst with
  | some d => Nat.blt d n
  | none => true
def fitC (n : Nat) : Code → Bool
  | .region _ ops _ => ops.toList.all (fitO n)
  | .seq a b => fitC n a && fitC n b
  | .cond _ a b => fitC n a && fitC n b
  | .block _ c => fitC n c
  | .loop c => fitC n c
  | .scope c => fitC n c
  | .rangeFunc _ _ _ _ => false
  | _ => true
def yl (ops : List Oper) (f : Fr) (j : Nat) : Option Bool := match (ops[j]?).bind (·.dst) with
  | some d => (match f d with
    | .bool b => some b
    | _ => none)
  | none => none
def wn (ops : List Oper) (f : Fr) : Option (Nat × Bool) → Bool
  | none => true
  | some (j, b) => yl ops f j == some b
def putO (f : Fr) (d : Option Tmp) (v : Value) : Fr := match d with
  | some k => lk [(k, v)] f
  | none => f
theorem Rep.eval {n : Nat} {f : Fr} {a : Act} (h : Rep n f a) : a.eval = ev f := by
  funext x
  cases x <;> simp only [Act.eval, ev]
  exact h.get _
theorem Rep.put {n : Nat} {f : Fr} {a : Act} (h : Rep n f a) {d : Option Tmp} (v : Value) (hd : (match d with | some k => Nat.blt k n | none => true) = true) : Rep n (putO f d v) (a.put d v) := by
  cases d with
  | none => exact h
  | some k =>
    have hk : k < n := by simpa using hd
    refine ⟨by simp [Act.put, h.size], h.defers, fun j => ?_⟩
    show (a.tmps.setIfInBounds k v).getD j undef = bif Nat.beq j k then v else f j
    rw [← h.get j]
    by_cases hj : j = k
    · subst hj
      have hb : Nat.beq j j = true := Nat.beq_refl j
      rw [hb, Array.getD_eq_getD_getElem?, Array.getElem?_setIfInBounds_self_of_lt (by rw [h.size]; exact hk)]
      rfl
    · have hb : Nat.beq j k = false := by
        cases hbb : Nat.beq j k with
        | false => rfl
        | true => exact absurd (Nat.eq_of_beq_eq_true hbb) hj
      rw [hb, Array.getD_eq_getD_getElem?, Array.getD_eq_getD_getElem?, Array.getElem?_setIfInBounds_ne (by omega)]
      rfl
theorem wanted_eq {n : Nat} {f : Fr} {a : Act} (h : Rep n f a) (ops : List Oper) (o : Oper) : Region.wanted o (yielded ops.toArray a.tmps) = wn ops f o.guard := by
  unfold Region.wanted wn
  cases hg : o.guard with
  | none => rfl
  | some jb =>
    obtain ⟨j, b⟩ := jb
    simp only
    congr 1
    unfold yielded yl
    rw [show (ops.toArray)[j]? = ops[j]? by simp]
    cases hd : (ops[j]?).bind (·.dst) with
    | none => rfl
    | some d =>
      simp only [Option.bind_some]
      have h1 := h.get d
      rw [Array.getD_eq_getD_getElem?] at h1
      rw [← h1]
      cases he : a.tmps[d]? with
      | none => rfl
      | some v => cases v <;> rfl
def L (P : Program) (n : Nat) (ops : List Oper) (Q : Exit → Fr → World → Prop) (l : List Oper) (f : Fr) (w : World) : Prop :=
  l.all (fitO n) = true → ∀ a, Rep n f a → wpList P ops.toArray (lft n Q) l a w
def J (P : Program) (n : Nat) (c : Code) (Q : Exit → Fr → World → Prop) (f : Fr) (w : World) : Prop :=
  fitC n c = true → ∀ a, Rep n f a → c.wp P (lft n Q) a w
section
variable {P : Program} {n : Nat} {ops rest : List Oper} {Q : Exit → Fr → World → Prop} {f : Fr} {w w' : World} {o : Oper} {v : Value}
theorem L.nil (h : Q .normal f w) : L P n ops Q [] f w := fun _ _ hr => ⟨f, hr, h⟩
theorem L.val (hg : wn ops f o.guard = true) (hx : (execOp (ev f) o).run P w = .ok (.value v) w') (h : L P n ops Q rest (putO f o.dst v) w') : L P n ops Q (o :: rest) f w := by
  intro hf a hr
  simp only [List.all_cons, Bool.and_eq_true] at hf
  refine wpList_step fun K hK => ?_
  rw [wanted_eq hr, hg, if_pos rfl]
  unfold Oper.wp
  rw [hr.eval, hx]
  exact hK _ _ (h hf.2 _ (hr.put v hf.1))
theorem L.skip (hg : wn ops f o.guard = true) (hx : (execOp (ev f) o).run P w = .ok .skip w') (h : L P n ops Q rest (putO f o.dst undef) w') : L P n ops Q (o :: rest) f w := by
  intro hf a hr
  simp only [List.all_cons, Bool.and_eq_true] at hf
  refine wpList_step fun K hK => ?_
  rw [wanted_eq hr, hg, if_pos rfl]
  unfold Oper.wp
  rw [hr.eval, hx]
  exact hK _ _ (h hf.2 _ (hr.put undef hf.1))
theorem L.off (hg : wn ops f o.guard = false) (h : L P n ops Q rest (putO f o.dst undef) w) : L P n ops Q (o :: rest) f w := by
  intro hf a hr
  simp only [List.all_cons, Bool.and_eq_true] at hf
  refine wpList_step fun K hK => ?_
  rw [wanted_eq hr, hg]
  exact hK _ _ (h hf.2 _ (hr.put undef hf.1))
theorem L.enter {fn : FuncId} {args : Array Value} {R : Ending → World → Prop} (hg : wn ops f o.guard = true) (hx : (execOp (ev f) o).run P w = .ok (.enter fn args) w) (hc : Calls P fn args w R)
    (h : ∀ e w', R e w' → ∃ v, e = .returned v ∧ L P n ops Q rest (putO f o.dst v) w') : L P n ops Q (o :: rest) f w := by
  intro hf a hr
  simp only [List.all_cons, Bool.and_eq_true] at hf
  refine wpList_step fun K hK => ?_
  rw [wanted_eq hr, hg, if_pos rfl]
  unfold Oper.wp
  rw [hr.eval, hx]
  refine hc.mono fun e w'' hR => ?_
  obtain ⟨v, rfl, hl⟩ := h e w'' hR
  exact hK _ _ (hl hf.2 _ (hr.put v hf.1))
theorem L.law (hg : wn ops f o.guard = true)
    (h : ∀ a, Rep n f a → ∀ K : Act → World → Prop, (∀ v w', L P n ops Q rest (putO f o.dst v) w' → K (a.put o.dst v) w') → o.wp P a w K (lft n Q)) : L P n ops Q (o :: rest) f w := by
  intro hf a hr
  simp only [List.all_cons, Bool.and_eq_true] at hf
  refine wpList_step fun K hK => ?_
  rw [wanted_eq hr, hg, if_pos rfl]
  exact h a hr K fun v w' hl => hK _ _ (hl hf.2 _ (hr.put v hf.1))
theorem L.va {k : Nat} {op : Op} {ty : TypeId} {pos : String} {aft : Array Edge} {g : Option (Nat × Bool)} (hg : wn ops f g = true) (hx : (execOp (ev f) ⟨some k, op, ty, pos, aft, g⟩).run P w = .ok (.value v) w') (h : L P n ops Q rest (lk [(k, v)] f) w') : L P n ops Q (⟨some k, op, ty, pos, aft, g⟩ :: rest) f w := L.val hg hx h
theorem L.no {k : Nat} {op : Op} {ty : TypeId} {pos : String} {aft : Array Edge} {g : Option (Nat × Bool)} (hg : wn ops f g = false) (h : L P n ops Q rest (lk [(k, undef)] f) w) : L P n ops Q (⟨some k, op, ty, pos, aft, g⟩ :: rest) f w := L.off hg h
def thn (K : Fr → World → Prop) (Q : Exit → Fr → World → Prop) : Exit → Fr → World → Prop
  | .normal, f, w => K f w
  | e, f, w => Q e f w
def inB (id : Nat) (Q : Exit → Fr → World → Prop) : Exit → Fr → World → Prop
  | .exit k, f, w => bif Nat.beq k id then Q .normal f w else Q (.exit k) f w
  | e, f, w => Q e f w
variable {x y c : Code}
theorem J.seq (h : J P n x (thn (J P n y Q) Q) f w) : J P n (.seq x y) Q f w := by
  intro hf a hr
  simp only [fitC, Bool.and_eq_true] at hf
  refine wp_seq (wp_mono (h hf.1 a hr) ?_)
  rintro e a' w' ⟨f', hr', hq⟩
  cases e
  case normal => exact hq hf.2 a' hr'
  all_goals exact ⟨f', hr', hq⟩
theorem J.region {id : Nat} {l : List Oper} (h : L P n l Q l f w) : J P n (.region id l.toArray false) Q f w := by
  intro hf a hr
  simp only [fitC] at hf
  exact wp_region_lit (h hf a hr)
theorem J.ite {o : Operand} {b : Bool} (hc : ev f o = .bool b) (ht : b = true → J P n x Q f w) (he : b = false → J P n y Q f w) : J P n (.cond o x y) Q f w := by
  intro hf a hr
  simp only [fitC, Bool.and_eq_true] at hf
  refine wp_cond_split (t := b) (by rw [hr.eval]; exact hc) (fun h => ht h hf.1 a hr) (fun h => he h hf.2 a hr)
theorem J.dec {o : Operand} {p : Prop} [Decidable p] (hc : ev f o = .bool (decide p)) (ht : p → J P n x Q f w) (he : ¬ p → J P n y Q f w) : J P n (.cond o x y) Q f w :=
  J.ite hc (fun h => ht (of_decide_eq_true h)) (fun h => he (of_decide_eq_false h))
theorem J.ndec {o : Operand} {p : Prop} [Decidable p] (hc : ev f o = .bool (!decide p)) (ht : ¬ p → J P n x Q f w) (he : p → J P n y Q f w) : J P n (.cond o x y) Q f w :=
  J.ite hc (fun h => ht (by simpa using h)) (fun h => he (by simpa using h))
theorem J.skip (h : Q .normal f w) : J P n .skip Q f w := fun _ _ hr => wp_skip ⟨f, hr, h⟩
theorem J.ret (h : Q .ret f w) : J P n .ret Q f w := fun _ _ hr => wp_ret ⟨f, hr, h⟩
theorem J.exit {k : Nat} (h : Q (.exit k) f w) : J P n (.exit k) Q f w := fun _ _ hr => wp_exit ⟨f, hr, h⟩
theorem J.block {id : Nat} (h : J P n c (inB id Q) f w) : J P n (.block id c) Q f w := by
  intro hf a hr
  simp only [fitC] at hf
  refine wp_block (wp_mono (h hf a hr) ?_)
  rintro e a' w' ⟨f', hr', hq⟩
  cases e
  case exit k =>
    simp only [inB] at hq
    simp only [Exit.inBlock]
    by_cases hk : k = id
    · subst hk
      rw [show Nat.beq k k = true from Nat.beq_refl k] at hq
      rw [if_pos rfl]
      exact ⟨f', hr', hq⟩
    · have hb : Nat.beq k id = false := by
        cases hbb : Nat.beq k id with
        | false => rfl
        | true => exact absurd (Nat.eq_of_beq_eq_true hbb) hk
      rw [hb] at hq
      rw [if_neg hk]
      exact ⟨f', hr', hq⟩
  all_goals exact ⟨f', hr', hq⟩
theorem J.cong {Q' : Exit → Fr → World → Prop} (h : J P n c Q' f w) (hq : ∀ e f w, Q' e f w → Q e f w) : J P n c Q f w := by
  intro hf a hr
  refine wp_mono (h hf a hr) ?_
  rintro e a' w' ⟨f', hr', hq'⟩
  exact ⟨f', hr', hq _ _ _ hq'⟩
def At (f : Fr) : List (Nat × Value) → Prop
  | [] => True
  | (k, v) :: t => f k = v ∧ At f t
def Agr (M : List Nat) (f' f : Fr) : Prop := ∀ j, M.contains j = false → f' j = f j
theorem Agr.rfl' {M : List Nat} {f : Fr} : Agr M f f := fun _ _ => rfl
theorem Agr.hav {M M' : List Nat} {g f f' : Fr} (hM : (M'.all fun k => M.contains k) = true) (h : Agr M f' f) : Agr M (hav M' g f') f := by
  intro j hj
  rw [← h j hj]
  unfold H.hav
  cases hc : M'.contains j with
  | false => rfl
  | true =>
    have := List.all_eq_true.1 hM j (List.contains_iff_mem.1 hc)
    rw [hj] at this
    cases this
theorem Agr.lk {M : List Nat} {l : List (Nat × Value)} {f f' : Fr} (hl : (l.all fun p => M.contains p.1) = true) (h : Agr M f' f) : Agr M (lk l f') f := by
  induction l with
  | nil => exact h
  | cons p t ih =>
    simp only [List.all_cons, Bool.and_eq_true] at hl
    intro j hj
    obtain ⟨k, v⟩ := p
    show (bif Nat.beq j k then v else H.lk t f' j) = f j
    have hb : Nat.beq j k = false := by
      cases hbb : Nat.beq j k with
      | false => rfl
      | true =>
        have := Nat.eq_of_beq_eq_true hbb
        subst this
        rw [hj] at hl
        cases hl.1
    rw [hb]
    exact ih hl.2 j hj
theorem frame_of {M : List Nat} {S : List (Nat × Value)} {f' f : Fr} (ha : Agr M f' f) (hs : At f' S) : f' = lk S (hav M f' f) := by
  funext j
  induction S with
  | nil =>
    show f' j = bif M.contains j then f' j else f j
    cases hc : M.contains j with
    | false => exact ha j hc
    | true => rfl
  | cons p t ih =>
    obtain ⟨k, v⟩ := p
    obtain ⟨h1, h2⟩ := hs
    show f' j = bif Nat.beq j k then v else lk t (hav M f' f) j
    cases hb : Nat.beq j k with
    | false => exact ih h2
    | true =>
      have := Nat.eq_of_beq_eq_true hb
      subst this
      exact h1
def Met {X : Type} (M : List Nat) (S : X → List (Nat × Value)) (I : X → World → Prop) (f0 : Fr) (f : Fr) (w : World) : Prop :=
  ∃ x, At f (S x) ∧ Agr M f f0 ∧ I x w
theorem J.cut {X : Type} (M : List Nat) (S : X → List (Nat × Value)) (I : X → World → Prop)
    (h1 : J P n x (thn (Met M S I f) Q) f w) (h2 : ∀ (s : X) (g : Fr) (w' : World), I s w' → J P n y Q (lk (S s) (hav M g f)) w') : J P n (.seq x y) Q f w := by
  refine J.seq (J.cong h1 ?_)
  intro e f' w' hq
  cases e
  case normal =>
    obtain ⟨s, hs, ha, hi⟩ := hq
    show J P n y Q f' w'
    rw [frame_of ha hs]
    exact h2 s f' w' hi
  all_goals exact hq
theorem J.loop {X : Type} (M : List Nat) (S : X → List (Nat × Value)) (I : X → World → Prop) (μ : X → Nat) (x0 : X) (h0 : At f (S x0)) (hI : I x0 w)
    (h : ∀ (s : X) (g : Fr) (w' : World), I s w' → J P n c (thn (Met M S (fun s' w'' => I s' w'' ∧ μ s' < μ s) f) Q) (lk (S s) (hav M g f)) w') : J P n (.loop c) Q f w := by
  intro hf a hr
  simp only [fitC] at hf
  have key : ∀ (m : Nat) (s : X) (g : Fr) (a : Act) (w' : World), μ s < m → I s w' → Rep n (lk (S s) (hav M g f)) a → Code.rounds P c (lft n Q) m a w' := by
    intro m
    induction m with
    | zero => intro s g a w' hm; exact absurd hm (Nat.not_lt_zero _)
    | succ m ih =>
      intro s g a w' hm hi hr
      rw [rounds_succ]
      refine wp_mono (h s g w' hi hf a hr) ?_
      rintro e a' w'' ⟨f', hr', hq⟩
      cases e
      case normal =>
        obtain ⟨s', hs, ha, hi', hlt⟩ := hq
        exact ih s' f' a' w'' (by omega) hi' (by rw [← frame_of ha hs]; exact hr')
      all_goals exact ⟨f', hr', hq⟩
  exact wp_loop_rounds (μ x0 + 1) (key _ x0 f a w (Nat.lt_succ_self _) hI (by rw [← frame_of Agr.rfl' h0]; exact hr))
end
def Scal (P : Program) (t : TypeId) : Prop := ∀ w : World, (isAgg t).run P w = .ok false w
theorem Scal.of {P : Program} {t : TypeId} {d : TypeDesc} (h : P.underlying t = some d) (hd : (match d with | .struct _ | .array _ _ => true | _ => false) = false) : Scal P t := by
  intro w
  simp only [isAgg, Sem.run_bind, run_underlying h, Result.andThen_ok]
  cases d <;> first | rfl | cases hd
def Siz (P : Program) (t : TypeId) (n : Nat) : Prop := ∃ i, P.info? t = some i ∧ i.size = n
theorem Siz.of {P : Program} {t : TypeId} {n : Nat} (h : (P.info? t).map (·.size) = some n) : Siz P t n := by
  cases hi : P.info? t with
  | none => rw [hi] at h; cases h
  | some i => rw [hi] at h; injection h with h; exact ⟨i, hi, h⟩
theorem Siz.run {P : Program} {t : TypeId} {n : Nat} (h : Siz P t n) (w : World) : (sizeOf t).run P w = .ok n w := by
  obtain ⟨i, hi, rfl⟩ := h
  simp [sizeOf, typeInfo, hi]
def pA (A : Option Addr) (j : Nat) : Value := .pointer (A.map (·.add j))
def Ld (w : World) (p : Value) (v : Value) : Prop := ∃ a, p = .pointer (some a) ∧ w.cell? a = some v
section
variable {P : Program} {f : Operand → Value} {w : World} {d : Option Tmp} {ty : TypeId} {pos : String} {aft : Array Edge} {g : Option (Nat × Bool)} {x y z : Operand} {v u p : Value} {k kx ky kz : IntKind} {m n : Int} {t tx tz e : TypeId}
theorem str_dec (a b : ByteArray) : (a.toList == b.toList) = decide (a = b) := by
  rw [Bool.eq_iff_iff, beq_iff_eq, decide_eq_true_iff, Lib.toList_data, Lib.toList_data]
  constructor
  · intro h
    cases a; cases b
    simp only at h
    rw [Array.toList_inj.1 h]
  · intro h; rw [h]
theorem X.move (hx : f x = v) : (execOp f ⟨d, .move x, ty, pos, aft, g⟩).run P w = .ok (.value v) w := by
  simp [execOp, hx, go_sem]
theorem X.assign (hx : f x = v) : (execOp f ⟨d, .assign x, ty, pos, aft, g⟩).run P w = .ok (.value v) w := by
  simp [execOp, hx, go_sem]
theorem X.pickT (hc : f z = .bool true) (hx : f x = v) : (execOp f ⟨d, .pick z x y, ty, pos, aft, g⟩).run P w = .ok (.value v) w := by
  simp [execOp, hx, hc, go_sem]
theorem X.pickF (hc : f z = .bool false) (hy : f y = u) : (execOp f ⟨d, .pick z x y, ty, pos, aft, g⟩).run P w = .ok (.value u) w := by
  simp [execOp, hy, hc, go_sem]
theorem X.len {A : Option Addr} {q c : Nat} (hx : f x = .slice A q c) (ht : P.underlying t = some (.slice e)) : (execOp f ⟨d, .call { callee := .builtin .len, args := #[x], argTypes := #[t] }, ty, pos, aft, g⟩).run P w = .ok (.value (.int .i64 (q : Int))) w := by
  simp [execOp, hx, go_sem, Builtin.len_, run_underlying ht]
theorem X.bin {op : BinOp} (hx : f x = u) (hy : f y = v) (hg : eqGuard op tx x y u v = pure ()) (h : (binOp op tx u v).run P w = .ok p w) : (execOp f ⟨d, .binOp op tx x y tz, ty, pos, aft, g⟩).run P w = .ok (.value p) w := by
  simp [execOp, hx, hy, hg, h]
theorem X.addw (hx : f x = .int k m) (hy : f y = .int k n) : (execOp f ⟨d, .binOp .add tx x y tz, ty, pos, aft, g⟩).run P w = .ok (.value (.int k (k.wrap (m + n)))) w :=
  X.bin hx hy (by simp [go_sem]) (by simp [binOp, Op.intArith])
theorem X.mulw (hx : f x = .int k m) (hy : f y = .int k n) : (execOp f ⟨d, .binOp .mul tx x y tz, ty, pos, aft, g⟩).run P w = .ok (.value (.int k (k.wrap (m * n)))) w :=
  X.bin hx hy (by simp [go_sem]) (by simp [binOp, Op.intArith])
theorem w64 {m : Int} (h : -9223372036854775808 ≤ m ∧ m ≤ 9223372036854775807) : IntKind.i64.wrap m = m := IntWalk.i64_in _ h
theorem X.add (hx : f x = .int .i64 m) (hy : f y = .int .i64 n) (h : -9223372036854775808 ≤ m + n ∧ m + n ≤ 9223372036854775807) : (execOp f ⟨d, .binOp .add tx x y tz, ty, pos, aft, g⟩).run P w = .ok (.value (.int .i64 (m + n))) w := by
  rw [X.addw hx hy, w64 h]
theorem X.mul (hx : f x = .int .i64 m) (hy : f y = .int .i64 n) (h : -9223372036854775808 ≤ m * n ∧ m * n ≤ 9223372036854775807) : (execOp f ⟨d, .binOp .mul tx x y tz, ty, pos, aft, g⟩).run P w = .ok (.value (.int .i64 (m * n))) w := by
  rw [X.mulw hx hy, w64 h]
theorem X.neq (hx : f x = .int k m) (hy : f y = .int k n) : (execOp f ⟨d, .binOp .neq tx x y tz, ty, pos, aft, g⟩).run P w = .ok (.value (.bool (!decide (m = n)))) w :=
  X.bin hx hy (by simp [go_sem]) (by simp [binOp, Op.intCmp]; rfl)
theorem X.lss (hx : f x = .int k m) (hy : f y = .int k n) : (execOp f ⟨d, .binOp .lss tx x y tz, ty, pos, aft, g⟩).run P w = .ok (.value (.bool (decide (m < n)))) w :=
  X.bin hx hy (by simp [go_sem]) (by simp [binOp, Op.intCmp])
theorem X.gtr (hx : f x = .int k m) (hy : f y = .int k n) : (execOp f ⟨d, .binOp .gtr tx x y tz, ty, pos, aft, g⟩).run P w = .ok (.value (.bool (decide (n < m)))) w :=
  X.bin hx hy (by simp [go_sem]) (by simp [binOp, Op.intCmp])
theorem X.neqS {a b : ByteArray} (hx : f x = .string a) (hy : f y = .string b) : (execOp f ⟨d, .binOp .neq tx x y tz, ty, pos, aft, g⟩).run P w = .ok (.value (.bool (!decide (a = b)))) w :=
  X.bin hx hy (by simp [go_sem]) (by simp [binOp, Op.stringOp, str_dec])
theorem X.not {b : Bool} (hx : f x = .bool b) : (execOp f ⟨d, .unOp .not t x, ty, pos, aft, g⟩).run P w = .ok (.value (.bool (!b))) w := by
  simp [execOp, hx, go_sem]
theorem X.convw (hx : f x = .int k m) (hs : (P.underlying t).isSome = true) (hd : P.underlying tz = some (.int ky)) : (execOp f ⟨d, .convert t tz x, ty, pos, aft, g⟩).run P w = .ok (.value (.int ky (ky.wrap m))) w := by
  obtain ⟨ds, hs'⟩ := Option.isSome_iff_exists.mp hs
  simp [execOp, hx, convert, run_underlying hs', run_underlying hd, Conv.intToInt]
theorem X.convI (hx : f x = .int k m) (hs : (P.underlying t).isSome = true) (hd : P.underlying tz = some (.int .i64)) (h : -9223372036854775808 ≤ m ∧ m ≤ 9223372036854775807) : (execOp f ⟨d, .convert t tz x, ty, pos, aft, g⟩).run P w = .ok (.value (.int .i64 m)) w := by
  rw [X.convw hx hs hd, w64 h]
theorem X.conv (hx : f x = u) (h : (convert t tz u).run P w = .ok v w) : (execOp f ⟨d, .convert t tz x, ty, pos, aft, g⟩).run P w = .ok (.value v) w := by
  simp [execOp, hx, h]
theorem X.indexAddr {A : Option Addr} {q c sz : Nat} (hx : f x = .slice A q c) (hy : f y = .int k m) (ht : P.underlying t = some (.slice e)) (hs : Siz P e sz) (hA : A ≠ none) (hj : 0 ≤ m ∧ m < (q : Int)) : (execOp f ⟨d, .indexAddr t x y, ty, pos, aft, g⟩).run P w = .ok (.value (pA A (m.toNat * sz))) w := by
  cases A with
  | none => exact absurd rfl hA
  | some a => simp [execOp, hx, hy, Instr.indexAt, run_underlying ht, asIntOf, hj, hs.run, pA]
theorem X.index1 {A : Option Addr} {q c : Nat} (hx : f x = .slice A q c) (hy : f y = .int k m) (ht : P.underlying t = some (.slice e)) (hs : Siz P e 1) (hA : A ≠ none) (hj : 0 ≤ m ∧ m < (q : Int)) : (execOp f ⟨d, .indexAddr t x y, ty, pos, aft, g⟩).run P w = .ok (.value (pA A m.toNat)) w := by
  have := X.indexAddr (P := P) (w := w) (d := d) (ty := ty) (pos := pos) (aft := aft) (g := g) hx hy ht hs hA hj
  rwa [Nat.mul_one] at this
theorem X.index1n {A : Option Addr} {q c j : Nat} (hx : f x = .slice A q c) (hy : f y = .int k (j : Int)) (ht : P.underlying t = some (.slice e)) (hs : Siz P e 1) (hA : A ≠ none) (hj : j < q) : (execOp f ⟨d, .indexAddr t x y, ty, pos, aft, g⟩).run P w = .ok (.value (pA A j)) w :=
  X.index1 hx hy ht hs hA ⟨by omega, by omega⟩
theorem X.load (hx : f x = p) (hs : Scal P t) (hl : Ld w p v) : (execOp f ⟨d, .load t x, ty, pos, aft, g⟩).run P w = .ok (.value v) w := by
  obtain ⟨a, rfl, hc⟩ := hl
  simp [execOp, hx, Instr.loadAt, Instr.sureAddr, loadVar, hs w, go_sem, hc]
theorem X.nilCheck {a : Addr} (hx : f x = .pointer (some a)) : (execOp f ⟨d, .nilCheck x, ty, pos, aft, g⟩).run P w = .ok (.value (.pointer (some a))) w := by
  simp [execOp, hx]
theorem X.extract {vs : Array Value} {i : Nat} (hx : f x = .tuple vs) (hv : vs[i]? = some v) : (execOp f ⟨d, .extract x i, ty, pos, aft, g⟩).run P w = .ok (.value v) w := by
  simp [execOp, hx, Instr.extract, hv]
def Ent (P : Program) (c : FuncId) : Prop := (match P.funcs[c]? with
  | some fn => !(fn.name == "runtime.NumGoroutine") && fn.body.isSome
  | none => false) = true
theorem Ent.run {c : FuncId} (h : Ent P c) (args : Array Value) (w : World) : (callFunc c args).run P w = .ok (.enter c args) w := by
  unfold Ent at h
  unfold callFunc
  simp only [Sem.run_bind, run_program, Result.andThen_ok]
  cases hf : P.funcs[c]? with
  | none => rw [hf] at h; cases h
  | some fn =>
    rw [hf] at h
    simp only [Bool.and_eq_true, Bool.not_eq_true'] at h
    simp only [h.1]
    have hn : fn.body.isNone = false := by
      cases hb : fn.body with
      | none => rw [hb] at h; cases h.2
      | some _ => rfl
    simp [hn]
theorem X.enter {c : FuncId} {l : List Operand} {ts : Array TypeId} {vs : List Value} (he : Ent P c) (hfn : f (.func c) = .func (.func c) #[] #[]) (hv : l.map f = vs) : (execOp f ⟨d, .call { callee := .value (.func c), args := l.toArray, argTypes := ts }, ty, pos, aft, g⟩).run P w = .ok (.enter c vs.toArray) w := by
  subst hv
  simp only [execOp, resolve, hfn, Deferred.ofValue, Sem.run_bind, Sem.run_pure, Result.andThen_ok, invoke, List.map_toArray, Array.append_empty, Array.empty_append, he.run]
end
end Go.Proofs.YtadfopdjhbjekaaDoor.H
namespace Go.Proofs.YtadfopdjhbjekaaDoor.H
open Go.RowKit Go.Proofs.YtadfopdjhbjekaaDoor
set_option linter.unusedSimpArgs false
set_option linter.unusedVariables false
def Ext (w w' : World) : Prop := Below w.heap.size w w'
theorem Ext.refl (w : World) : Ext w w := Below.refl _ _
theorem Ext.trans {a b c : World} (h : Ext a b) (k : Ext b c) : Ext a c := Below.trans h (k.mono (Below.size h))
theorem Ext.ext {a b c : World} (h : Ext a b) (k : Ext b c) : Ext a c := h.trans k
theorem Ext.le {a b : World} (h : Ext a b) : a.heap.size ≤ b.heap.size := Below.size h
theorem Ext.alloc (w : World) (o : Obj) : Ext w (w.alloc o) := (Below.refl _ _).alloc (Nat.le_refl _) o
theorem Ext.drew (w : World) : Ext w w.drew := (Below.refl _ _).drew
theorem Ext.grw {a b c : World} {r : Option Nat} (h : Ext a b) (k : b.grownBy c r) (hr : ∀ g, r = some g → a.heap.size ≤ g) : Ext a c := Below.grown h k (Below.size h) hr
section
variable {w w' : World} {B size n : Nat} {A : Option Addr} {xs : List Value} {g : Nat} {t : TypeId} {cs : Array Value}
theorem Reads.keep' (h : Reads w B size A n xs) (hk : ∀ b, b < w.heap.size → b < B → w'.heap[b]? = w.heap[b]?) : Reads w' B size A n xs :=
  ⟨h.1, fun hn => by
    obtain ⟨ad, e, hb, hc⟩ := h.2 hn
    refine ⟨ad, e, hb, fun j u hu => ?_⟩
    have h1 := hc j u hu
    rw [← h1]
    refine World.cell?_of_block (hk _ ?_ (by rw [block_of_add]; exact hb))
    rcases Nat.lt_or_ge (ad.add j).block w.heap.size with h2 | h2
    · exact h2
    · simp [World.cell?, Array.getElem?_eq_none h2] at h1⟩
theorem _root_.Go.Proofs.YtadfopdjhbjekaaDoor.Reads.ext (h : Reads w B size A n xs) (he : Ext w w') : Reads w' B size A n xs := Reads.keep' h fun b hb _ => Below.block he b hb
theorem _root_.Go.Proofs.YtadfopdjhbjekaaDoor.Reads.grw {r : Option Nat} (h : Reads w B size A n xs) (hg : w.grownBy w' r) (hr : ∀ g, r = some g → B ≤ g) : Reads w' B size A n xs :=
  Reads.keep' h fun b hb hB => hg.block b hb (fun e => by have := hr b e.symm; omega)
theorem _root_.Go.Proofs.YtadfopdjhbjekaaDoor.Blk.ext (h : Blk w g t cs) (he : Ext w w') : Blk w' g t cs := h.below he h.lt
theorem _root_.Go.World.ownsRow.ext {base : Nat} {e : TypeId} {v : Value} (h : w.ownsRow base e size v n xs) (he : Ext w w') : w'.ownsRow base e size v n xs :=
  h.kept (row := none) ⟨Below.os he, Below.tape he, Below.output he, Below.size he, fun k hk _ => Below.block he k hk⟩ (by cases hv : v.ownBlock with | none => exact .inl rfl | some b => exact .inr (by simp))
theorem Ld.rd (h : Reads w B size A n xs) {j : Nat} (hj : j < n * size) : Ld w (pA A j) (xs.getD j undef) := by
  have hn : 0 < n := Nat.pos_of_ne_zero (fun h0 => by subst h0; simp at hj)
  obtain ⟨ad, rfl, _, hc⟩ := h.2 hn
  have hl : j < xs.length := by rw [h.1]; exact hj
  refine ⟨ad.add j, rfl, ?_⟩
  rw [hc j _ (List.getElem?_eq_getElem hl)]
  simp [List.getD, hl]
theorem Ld.num {k : IntKind} {zs : List Int} (h : Reads w B 1 A n (nums k zs)) {j : Nat} (hj : j < n) : Ld w (pA A j) (.int k (zs.getD j 0)) := by
  have h1 := Ld.rd h (j := j) (by omega)
  have hl : j < zs.length := by have := h.1; rw [nums_length] at this; omega
  have : (nums k zs).getD j undef = .int k (zs.getD j 0) := by simp [nums, List.getD, hl]
  rwa [this] at h1
theorem Ld.blk (h : Blk w g t cs) {i : Nat} {v : Value} (hv : cs[i]? = some v) : Ld w (.pointer (some ⟨g, i, none⟩)) v := ⟨_, rfl, (h.cell i).trans hv⟩
theorem Ld.own {base : Nat} {e : TypeId} {c : Nat} {k : IntKind} {zs : List Int} (h : w.ownsRow base e 1 (.slice A n c) n (nums k zs)) {j : Nat} (hj : j < n) : Ld w (pA A j) (.int k (zs.getD j 0)) :=
  Ld.num (own_reads h) hj
theorem _root_.Go.Proofs.YtadfopdjhbjekaaDoor.Reads.some_ (h : Reads w B size A n xs) (hn : 0 < n) : A ≠ none := by
  obtain ⟨ad, rfl, _⟩ := h.2 hn
  simp
def Zer (P : Program) (t : TypeId) (l : List Value) : Prop := ∃ i z, P.info? t = some i ∧ i.zero = some z ∧ z.cells = l.toArray
theorem Zer.of {P : Program} {t : TypeId} {l : List Value} (h : ((P.info? t).bind (·.zero)).map (·.cells.toList) = some l) : Zer P t l := by
  cases hi : P.info? t with
  | none => rw [hi] at h; cases h
  | some i =>
    rw [hi] at h
    cases hz : i.zero with
    | none => simp [hz] at h
    | some z =>
      simp [hz] at h
      exact ⟨i, z, hi, hz, by rw [← h]⟩
theorem Zer.run {P : Program} {t : TypeId} {l : List Value} (h : Zer P t l) (w : World) : ∃ z, z.cells = l.toArray ∧ (zeroValue t).run P w = .ok z w := by
  obtain ⟨i, z, hi, hz, hc⟩ := h
  refine ⟨z, hc, ?_⟩
  simp [zeroValue, typeInfo, hi, hz]
end
section
variable {P : Program} {n : Nat} {ops rest : List Oper} {Q : Exit → Fr → World → Prop} {f : Fr} {w w' : World} {d : Option Tmp} {ty : TypeId} {pos : String} {aft : Array Edge} {g : Option (Nat × Bool)} {x y z : Operand} {v u p : Value} {t e tx tz : TypeId}
theorem L.call {c : FuncId} {l : List Operand} {vs : List Value} {ts : Array TypeId} {R : Ending → World → Prop} (hg : wn ops f g = true) (he : Ent P c) (hv : l.map (ev f) = vs) (hc : Calls P c vs.toArray w R)
    (h : ∀ e w', R e w' → ∃ v, e = .returned v ∧ L P n ops Q rest (putO f d v) w') : L P n ops Q (⟨d, .call { callee := .value (.func c), args := l.toArray, argTypes := ts }, ty, pos, aft, g⟩ :: rest) f w :=
  L.enter hg (X.enter he rfl hv) hc h
theorem L.alloc {l : List Value} (hg : wn ops f g = true) (hz : Zer P t l) (h : ∀ b w', b = w.heap.size → w'.heap.size = w.heap.size + 1 → Blk w' b t l.toArray → Ext w w' → L P n ops Q rest (putO f d (.pointer (some ⟨b, 0, none⟩))) w') :
    L P n ops Q (⟨d, .alloc t, ty, pos, aft, g⟩ :: rest) f w := by
  obtain ⟨z, hc, hr⟩ := hz.run w
  refine L.val hg ?_ (h w.heap.size (w.alloc (.cells l.toArray t)) rfl (by simp) (Blk.new _ _ _) (Ext.alloc _ _))
  simp [execOp, Instr.alloc, hr, newVar, newRow, newObj, hc]
  rfl
theorem L.box (hg : wn ops f g = true) (hx : ev f x = v) (h : ∀ b w', b = w.heap.size → w'.heap.size = w.heap.size + 1 → Blk w' b t v.cells → Ext w w' → L P n ops Q rest (putO f d (.pointer (some ⟨b, 0, none⟩))) w') :
    L P n ops Q (⟨d, .box t x, ty, pos, aft, g⟩ :: rest) f w := by
  refine L.val hg ?_ (h w.heap.size (w.alloc (.cells v.cells t)) rfl (by simp) (Blk.new _ _ _) (Ext.alloc _ _))
  simp [execOp, Instr.box, newVar, newRow, newObj, hx]
  rfl
theorem only_setRow (w : World) (b : Nat) (cs : Array Value) : w.grownBy (w.setRow b cs) (some b) :=
  ⟨rfl, rfl, rfl, by simp, fun k _ hk => setRow_other w b k cs (fun e => hk (by rw [e]))⟩
theorem run_store_blk {b o : Nat} {tb : TypeId} {cs : Array Value} {vs : List Value} (hc : v.cells = vs.toArray) (h1 : (vs.all (·.oneCell')) = true) (hz : Siz P t vs.length) (hb : Blk w b tb cs) (hi : o + vs.length ≤ cs.size) :
    (Instr.storeAt t (.pointer (some ⟨b, o, none⟩)) v).run P w = .ok () (w.setRow b (cs.toList.take o ++ vs ++ cs.toList.drop (o + vs.length)).toArray) := by
  have := run_storeCells_at (P := P) b o tb vs 0 cs w hb (by omega) (fun u hu => List.all_eq_true.1 h1 u hu)
  simp only [Nat.add_zero] at this
  simp only [Instr.storeAt, Instr.sureAddr, storeVar, Sem.run_bind, Sem.run_pure, Result.andThen_ok, hz.run, hc]
  simp [this]
theorem L.storeC {b o : Nat} {tb : TypeId} {cs : Array Value} {vs : List Value} (hg : wn ops f g = true) (hx : ev f x = .pointer (some ⟨b, o, none⟩)) (hy : ev f y = v) (hc : v.cells = vs.toArray) (h1 : (vs.all (·.oneCell')) = true) (hz : Siz P t vs.length) (hb : Blk w b tb cs) (hi : o + vs.length ≤ cs.size)
    (h : ∀ w', Blk w' b tb (cs.toList.take o ++ vs ++ cs.toList.drop (o + vs.length)).toArray → w.grownBy w' (some b) → w'.heap.size = w.heap.size → L P n ops Q rest (putO f d undef) w') : L P n ops Q (⟨d, .store t x y, ty, pos, aft, g⟩ :: rest) f w := by
  refine L.skip hg ?_ (h (w.setRow b (cs.toList.take o ++ vs ++ cs.toList.drop (o + vs.length)).toArray) (setRow_heap w b _ _ _ _ hb) (only_setRow _ _ _) (by simp))
  simp only [execOp, hx, hy]
  rw [Sem.run_bind, run_store_blk hc h1 hz hb hi]
  rfl
theorem L.store {b i : Nat} {tb : TypeId} {cs : Array Value} (hg : wn ops f g = true) (hx : ev f x = .pointer (some ⟨b, i, none⟩)) (hy : ev f y = v) (h1 : v.oneCell' = true) (hz : Siz P t 1) (hb : Blk w b tb cs) (hi : i < cs.size)
    (h : ∀ w', Blk w' b tb (cs.setIfInBounds i v) → w.grownBy w' (some b) → w'.heap.size = w.heap.size → L P n ops Q rest (putO f d undef) w') : L P n ops Q (⟨d, .store t x y, ty, pos, aft, g⟩ :: rest) f w := by
  refine L.storeC (vs := [v]) hg hx hy (by cases v <;> first | rfl | cases h1) (by simp [h1]) hz hb (show i + [v].length ≤ cs.size from hi) ?_
  have e : (cs.toList.take i ++ [v] ++ cs.toList.drop (i + [v].length)).toArray = cs.setIfInBounds i v := by
    apply Array.ext'
    simp only [Array.toList_setIfInBounds]
    rw [List.set_eq_take_append_cons_drop, if_pos (by simpa using hi)]
    simp
  rw [e]
  exact h
theorem X.slice {A : Option Addr} {q c sz : Nat} {k kx : IntKind} {m m' : Int} (hx : ev f x = .slice A q c) (hy : ev f y = .int k m) (hz : ev f z = .int kx m') (ht : P.underlying t = some (.slice e)) (hs : Siz P e sz) (hij : 0 ≤ m ∧ m ≤ m' ∧ m' ≤ (c : Int)) :
    (execOp (ev f) ⟨d, .slice t x (some y) (some z) none, ty, pos, aft, g⟩).run P w = .ok (.value (.slice (if c = m.toNat then A else A.map (·.add (m.toNat * sz))) (m'.toNat - m.toNat) (c - m.toNat))) w := by
  simp only [execOp, Instr.sliceAt, Instr.slice, Instr.sliceBounds, Instr.sliceBound, Option.map_some, Option.map_none, hx, hy, hz, Sem.run_bind, run_underlying ht, Result.andThen_ok, asIntOf, Sem.run_pure, hs.run]
  have h1 : 0 ≤ m' ∧ m' ≤ (c : Int) := ⟨by omega, hij.2.2⟩
  have h2 : 0 ≤ m ∧ m ≤ ((m'.toNat : Nat) : Int) := ⟨hij.1, by omega⟩
  simp [h1, h2, hs.run]
  intro hlt
  omega
theorem X.sliceTo {A : Option Addr} {q c sz : Nat} {kx : IntKind} {m' : Int} (hx : ev f x = .slice A q c) (hz : ev f z = .int kx m') (ht : P.underlying t = some (.slice e)) (hs : Siz P e sz) (hij : 0 ≤ m' ∧ m' ≤ (c : Int)) :
    (execOp (ev f) ⟨d, .slice t x none (some z) none, ty, pos, aft, g⟩).run P w = .ok (.value (.slice A m'.toNat c)) w := by
  simp only [execOp, Instr.sliceAt, Instr.slice, Instr.sliceBounds, Instr.sliceBound, Option.map_some, Option.map_none, hx, hz, Sem.run_bind, run_underlying ht, Result.andThen_ok, asIntOf, Sem.run_pure, hs.run]
  simp [hij, hs.run]
  cases A <;> simp [Addr.add_zero']
theorem X.sliceFrom {A : Option Addr} {q c sz : Nat} {k : IntKind} {m : Int} (hx : ev f x = .slice A q c) (hy : ev f y = .int k m) (ht : P.underlying t = some (.slice e)) (hs : Siz P e sz) (hij : 0 ≤ m ∧ m ≤ (q : Int)) :
    (execOp (ev f) ⟨d, .slice t x (some y) none none, ty, pos, aft, g⟩).run P w = .ok (.value (.slice (if c = m.toNat then A else A.map (·.add (m.toNat * sz))) (q - m.toNat) (c - m.toNat))) w := by
  simp only [execOp, Instr.sliceAt, Instr.slice, Instr.sliceBounds, Instr.sliceBound, Option.map_some, Option.map_none, hx, hy, Sem.run_bind, run_underlying ht, Result.andThen_ok, asIntOf, Sem.run_pure, hs.run]
  simp [hij, hs.run]
theorem X.slicen {A : Option Addr} {q c i j sz : Nat} {k kx : IntKind} (hx : ev f x = .slice A q c) (hy : ev f y = .int k (i : Int)) (hz : ev f z = .int kx (j : Int)) (ht : P.underlying t = some (.slice e)) (hs : Siz P e sz) (hij : i ≤ j ∧ j ≤ c) :
    (execOp (ev f) ⟨d, .slice t x (some y) (some z) none, ty, pos, aft, g⟩).run P w = .ok (.value (.slice (if c = i then A else A.map (·.add (i * sz))) (j - i) (c - i))) w :=
  X.slice hx hy hz ht hs ⟨by omega, by omega, by omega⟩
theorem X.sliceTon {A : Option Addr} {q c j sz : Nat} {kx : IntKind} (hx : ev f x = .slice A q c) (hz : ev f z = .int kx (j : Int)) (ht : P.underlying t = some (.slice e)) (hs : Siz P e sz) (hij : j ≤ c) :
    (execOp (ev f) ⟨d, .slice t x none (some z) none, ty, pos, aft, g⟩).run P w = .ok (.value (.slice A j c)) w :=
  X.sliceTo hx hz ht hs ⟨by omega, by omega⟩
theorem X.sliceFromn {A : Option Addr} {q c i sz : Nat} {k : IntKind} (hx : ev f x = .slice A q c) (hy : ev f y = .int k (i : Int)) (ht : P.underlying t = some (.slice e)) (hs : Siz P e sz) (hij : i ≤ q) :
    (execOp (ev f) ⟨d, .slice t x (some y) none none, ty, pos, aft, g⟩).run P w = .ok (.value (.slice (if c = i then A else A.map (·.add (i * sz))) (q - i) (c - i))) w :=
  X.sliceFrom hx hy ht hs ⟨by omega, by omega⟩
def Evs (f : Fr) : List (Nat × Operand) → List (Nat × Value) → Prop
  | [], [] => True
  | (i, x) :: ps, (j, v) :: qs => i = j ∧ ev f x = v ∧ Evs f ps qs
  | _, _ => False
theorem Evs.nil : Evs f [] [] := trivial
theorem Evs.cons {i : Nat} {ps : List (Nat × Operand)} {qs : List (Nat × Value)} (h : ev f x = v) (t : Evs f ps qs) : Evs f ((i, x) :: ps) ((i, v) :: qs) := ⟨rfl, h, t⟩
theorem Evs.map : ∀ {ps : List (Nat × Operand)} {qs : List (Nat × Value)}, Evs f ps qs → ps.map (fun p => (p.1, ev f p.2)) = qs
  | [], [], _ => rfl
  | (i, x) :: ps, (j, v) :: qs, ⟨h1, h2, h3⟩ => by simp only [List.map_cons, h1, h2, Evs.map h3]
  | [], _ :: _, h => h.elim
  | _ :: _, [], h => h.elim
theorem part_reads {B sz q c i j : Nat} {A : Option Addr} {xs : List Value} (h : Reads w B sz A q xs) (hij : i ≤ j) (hj : j ≤ q) (hq : q ≤ c) : Reads w B sz (if c = i then A else A.map (·.add (i * sz))) (j - i) ((xs.drop (i * sz)).take ((j - i) * sz)) :=
  (h.cut (by omega) hq).first (by omega)
theorem part_nums {B q c i j : Nat} {A : Option Addr} {k : IntKind} {zs : List Int} (h : Reads w B 1 A q (nums k zs)) (hij : i ≤ j) (hj : j ≤ q) (hq : q ≤ c) : Reads w B 1 (if c = i then A else A.map (·.add (i * 1))) (j - i) (nums k ((zs.drop i).take (j - i))) := by
  have := part_reads h hij hj hq
  simpa [nums] using this
theorem fill_ones : ∀ (l : List Value) (i : Nat) (cells : Array Value), (∀ v ∈ l, v.oneCell' = true) → i + l.length ≤ cells.size →
    Instr.fill (fun i => some (i * 1, 1)) cells ((List.range' i l.length).zip l) = some (cells.toList.take i ++ l ++ cells.toList.drop (i + l.length)).toArray
  | [], i, cells, _, _ => by simp [Instr.fill]
  | v :: l, i, cells, h1, hl => by
    have hv : v.cells = #[v] := by
      have := h1 v (by simp)
      cases v <;> first | rfl | cases this
    simp only [List.length_cons] at hl
    have hlt : i < cells.toList.length := by simp; omega
    simp only [List.length_cons, List.range'_succ, List.zip_cons_cons, Instr.fill, hv, Nat.mul_one]
    rw [if_neg (by simp; omega)]
    have e : (#[v].zipIdx.foldl (fun cs x => cs.setIfInBounds (i + x.2) x.1) cells) = cells.setIfInBounds i v := by simp
    have ih := fill_ones l (i + 1) (cells.setIfInBounds i v) (fun u hu => h1 u (by simp [hu])) (by simp; omega)
    have e2 : (List.foldl (fun cs x => cs.setIfInBounds (i + x.2) x.1) cells #[v].zipIdx.toList) = cells.setIfInBounds i v := by simp
    simp only [Nat.mul_one] at ih
    first
      | (rw [e, ih])
      | (simp only [← Array.foldl_toList]; rw [e2, ih])
    congr 1
    apply Array.ext'
    simp only [Array.toList_setIfInBounds]
    rw [List.set_eq_take_append_cons_drop, if_pos hlt]
    simp only [List.take_append, List.length_take, List.drop_append]
    rw [Nat.min_eq_left (by omega)]
    simp
    rw [List.take_of_length_le (show (cells.toList.take i).length ≤ i + 1 by simp; omega), List.drop_of_length_le (show (cells.toList.take i).length ≤ i + 1 + l.length by simp; omega), show i + 1 + l.length - i = l.length + 1 by omega, List.drop_succ_cons, List.drop_drop]
    rw [show i + 1 + l.length = i + (l.length + 1) by omega]
    rfl
theorem L.bslice {ps : List (Nat × Operand)} {vs zs : List Value} {q : Nat} {qs : List (Nat × Value)} (hg : wn ops f g = true) (hv0 : Evs f ps qs) (hv1 : qs.map (·.2) = vs) (hi : ps.map (·.1) = List.range' 0 q) (hq : vs.length = q) (h1 : (vs.all (·.oneCell')) = true) (ht : P.underlying t = some (.slice e)) (hs : Siz P e 1) (hzr : Zer P e zs) (hq2 : q ≤ 16777216)
    (h : ∀ b w', b = w.heap.size → w'.heap.size = w.heap.size + 1 → Blk w' b e vs.toArray → Ext w w' → L P n ops Q rest (putO f d (.slice (some ⟨b, 0, none⟩) q q)) w') : L P n ops Q (⟨d, .buildSlice t q ps.toArray, ty, pos, aft, g⟩ :: rest) f w := by
  refine L.val hg ?_ (h w.heap.size (w.alloc (.cells vs.toArray e)) rfl (by simp) (Blk.new _ _ _) (Ext.alloc _ _))
  obtain ⟨z, hzc, hzr⟩ := hzr.run w
  have hv : ps.map (fun p => ev f p.2) = vs := by rw [← hv1, ← hv0.map]; simp
  have hps : ps.map (fun p => (p.1, ev f p.2)) = (List.range' 0 vs.length).zip vs := by
    rw [hq, ← hi, ← hv, List.zip_map', ]
  have hall : ∀ v ∈ vs, v.oneCell' = true := fun v hv => List.all_eq_true.1 h1 v hv
  have key : ∀ z : Array Value, Instr.fill (fun i => some (i * 1, 1)) ((Array.range (q * 1)).map (z[· % z.size]!)) (ps.map (fun p => (p.1, ev f p.2))) = some vs.toArray := by
    intro z
    rw [hps, fill_ones vs 0 _ hall (by simp; omega)]
    simp [hq]
  simp only [execOp, Instr.buildSlice, Sem.run_bind, run_underlying ht, Result.andThen_ok, hs.run, List.map_toArray]
  rw [if_neg (by omega)]
  by_cases h0 : q * 1 = 0
  · simp only [if_pos h0, Sem.run_pure, Result.andThen_ok, key, newRow, newObj]
    rfl
  · simp only [if_neg h0, Sem.run_bind, hzr, Sem.run_pure, Result.andThen_ok, key, newRow, newObj]
    rfl
end
end Go.Proofs.YtadfopdjhbjekaaDoor.H
namespace Go.Proofs.YtadfopdjhbjekaaDoor.H
open Go.RowKit Go.Proofs.YtadfopdjhbjekaaDoor
set_option linter.unusedSimpArgs false
set_option linter.unusedVariables false
section
variable {P : Program} {n : Nat} {ops rest : List Oper} {Q : Exit → Fr → World → Prop} {f : Fr} {w w' : World} {d : Option Tmp} {ty : TypeId} {pos : String} {aft : Array Edge} {g : Option (Nat × Bool)} {x y z : Operand} {v u p : Value} {t e tx tz : TypeId}
def Elm (P : Program) (e : TypeId) (z : Value) (size bytes : Nat) : Prop := (P.info? e).map (fun i => (i.zero, i.size, i.bytes)) = some (some z, size, bytes) ∧ z.cells.size = size ∧ 0 < size
theorem Elm.of {e : TypeId} {z : Value} {size bytes : Nat} (h : (P.info? e).map (fun i => (i.zero, i.size, i.bytes)) = some (some z, size, bytes)) (h1 : z.cells.size = size) (h2 : 0 < size) : Elm P e z size bytes := ⟨h, h1, h2⟩
theorem L.append {base n' m c B size bytes : Nat} {A : Option Addr} {xs news : List Value} {z : Value} (hg : wn ops f g = true) (hs : ev f x = v) (hx : ev f y = .slice A m c) (ht : P.underlying t = some (.slice e)) (he : Elm P e z size bytes)
    (hown : w.ownsRow base e size v n' xs) (hr : Reads w B size A m news) (h1 : (news.all (·.oneCell')) = true) (hlen : n' + m ≤ maxLen ∧ (n' + m) * bytes ≤ 140737488355328) (hbase : base ≤ w.heap.size)
    (h : ∀ A' c' w', w'.ownsRow base e size (.slice A' (n' + m) c') (n' + m) (xs ++ news) → w.grownBy w' v.ownBlock → Below base w w' → (Value.ownBlock (.slice A' (n' + m) c') = v.ownBlock ∨ Value.ownBlock (.slice A' (n' + m) c') = some w.heap.size) → L P n ops Q rest (putO f d (.slice A' (n' + m) c')) w') :
    L P n ops Q (⟨d, .call { callee := .builtin .append, args := #[x, y], argTypes := #[t, t] }, ty, pos, aft, g⟩ :: rest) f w := by
  refine L.law hg fun a hr' K hK => ?_
  obtain ⟨i, hi0, hz, hs1, hb1⟩ := info_parts he.1
  refine wp_append_any w x y t rfl base e i z size bytes ht hi0 hz hs1 hb1 he.2.1 he.2.2 v n' xs (by rw [hr'.eval]; exact hs) hown B A m c news (by rw [hr'.eval]; exact hx) hr (fun u hu => List.all_eq_true.1 h1 u hu) hlen.1 hlen.2 hbase ?_
  intro v' w' h2 h3 h4
  obtain ⟨A', c', rfl⟩ := ownsRow_slice h2
  exact hK _ _ (h A' c' w' h2 h3 (below_grown hown h3 hbase) h4)
theorem nums_ones (k : IntKind) (zs : List Int) : ((nums k zs).all (·.oneCell')) = true := by
  rw [List.all_eq_true]
  exact nums_one k zs
theorem L.appendN {base n' m c B bytes : Nat} {k : IntKind} {A : Option Addr} {xs zs : List Int} {z : Value} (hg : wn ops f g = true) (hs : ev f x = v) (hx : ev f y = .slice A m c) (ht : P.underlying t = some (.slice e)) (he : Elm P e z 1 bytes)
    (hown : w.ownsRow base e 1 v n' (nums k xs)) (hr : Reads w B 1 A m (nums k zs)) (hlen : n' + m ≤ maxLen ∧ (n' + m) * bytes ≤ 140737488355328) (hbase : base ≤ w.heap.size)
    (h : ∀ A' c' w', w'.ownsRow base e 1 (.slice A' (n' + m) c') (n' + m) (nums k (xs ++ zs)) → w.grownBy w' v.ownBlock → Below base w w' → (Value.ownBlock (.slice A' (n' + m) c') = v.ownBlock ∨ Value.ownBlock (.slice A' (n' + m) c') = some w.heap.size) → L P n ops Q rest (putO f d (.slice A' (n' + m) c')) w') :
    L P n ops Q (⟨d, .call { callee := .builtin .append, args := #[x, y], argTypes := #[t, t] }, ty, pos, aft, g⟩ :: rest) f w := by
  refine L.append hg hs hx ht he hown hr (nums_ones _ _) hlen hbase ?_
  rw [nums_append]
  exact h
theorem L.appendQ {base n' m c B bytes q : Nat} {k : IntKind} {A : Option Addr} {xs zs ys : List Int} {z : Value} (hg : wn ops f g = true) (hs : ev f x = v) (hx : ev f y = .slice A m c) (ht : P.underlying t = some (.slice e)) (he : Elm P e z 1 bytes)
    (hown : w.ownsRow base e 1 v n' (nums k xs)) (hr : Reads w B 1 A m (nums k zs)) (hq : n' + m = q) (hy : xs ++ zs = ys) (hlen : q ≤ maxLen ∧ q * bytes ≤ 140737488355328) (hbase : base ≤ w.heap.size)
    (h : ∀ A' c' w', w'.ownsRow base e 1 (.slice A' q c') q (nums k ys) → w.grownBy w' v.ownBlock → Below base w w' → (Value.ownBlock (.slice A' q c') = v.ownBlock ∨ Value.ownBlock (.slice A' q c') = some w.heap.size) → L P n ops Q rest (putO f d (.slice A' q c')) w') :
    L P n ops Q (⟨d, .call { callee := .builtin .append, args := #[x, y], argTypes := #[t, t] }, ty, pos, aft, g⟩ :: rest) f w := by
  subst hq hy
  exact L.appendN hg hs hx ht he hown hr hlen hbase h
theorem L.appendV {base n' m c B size bytes q : Nat} {A : Option Addr} {xs news ys : List Value} {z : Value} (hg : wn ops f g = true) (hs : ev f x = v) (hx : ev f y = .slice A m c) (ht : P.underlying t = some (.slice e)) (he : Elm P e z size bytes)
    (hown : w.ownsRow base e size v n' xs) (hr : Reads w B size A m news) (h1 : (news.all (·.oneCell')) = true) (hq : n' + m = q) (hy : xs ++ news = ys) (hlen : q ≤ maxLen ∧ q * bytes ≤ 140737488355328) (hbase : base ≤ w.heap.size)
    (h : ∀ A' c' w', w'.ownsRow base e size (.slice A' q c') q ys → w.grownBy w' v.ownBlock → Below base w w' → (Value.ownBlock (.slice A' q c') = v.ownBlock ∨ Value.ownBlock (.slice A' q c') = some w.heap.size) → L P n ops Q rest (putO f d (.slice A' q c')) w') :
    L P n ops Q (⟨d, .call { callee := .builtin .append, args := #[x, y], argTypes := #[t, t] }, ty, pos, aft, g⟩ :: rest) f w := by
  subst hq hy
  exact L.append hg hs hx ht he hown hr h1 hlen hbase h
theorem own_nil (w : World) (base : Nat) (e : TypeId) (size : Nat) : w.ownsRow base e size (.slice none 0 0) 0 [] := World.ownsRow_nil _ _ _ _
theorem blk_own {base b q c size : Nat} {l : List Value} (h : Blk w b e l.toArray) (hb : base ≤ b) (hq : q ≤ c) (hm : c ≤ maxLen) (hl : l.length = c * size) : w.ownsRow base e size (.slice (some ⟨b, 0, none⟩) q c) q (l.take (q * size)) := by
  refine ⟨by rw [List.length_take, hl]; exact Nat.min_eq_left (Nat.mul_le_mul_right _ hq), .inr ⟨b, c, l.toArray, rfl, hb, h, hq, hm, by simpa using hl, by simp⟩⟩
theorem blk_own1 {base b q : Nat} {l : List Value} (h : Blk w b e l.toArray) (hb : base ≤ b) (hm : q ≤ maxLen) (hl : l.length = q) : w.ownsRow base e 1 (.slice (some ⟨b, 0, none⟩) q q) q l := by
  have := blk_own (size := 1) h hb (Nat.le_refl _) hm (by omega)
  rwa [List.take_of_length_le (by omega)] at this
theorem blk_reads {b q B : Nat} {l : List Value} (h : Blk w b t l.toArray) (hb : b < B) (hl : l.length = q) : Reads w B 1 (some ⟨b, 0, none⟩) q l := by
  refine ⟨by omega, fun _ => ⟨_, rfl, hb, fun j u hu => ?_⟩⟩
  rw [Addr.add_mid, Nat.zero_add, h.cell]
  simpa using hu
def wpAnyL (P : Program) (ops : Array Oper) (Q : Exit → Act → World → Prop) (S : World → Prop) (ℓ : Nat) : Nat → Array Bool → Act → World → Prop
  | 0, listed, a, w => Region.ready .any ops listed = [] ∧ Q .normal a w
  | fuel + 1, listed, a, w =>
    (Region.ready .any ops listed = [] → Q .normal a w) ∧
    ∀ i ∈ Region.ready .any ops listed, wpOp P ops Q i (fun a' w' => (i ≠ ℓ → S w') ∧ wpAnyL P ops Q S ℓ fuel (listed.setIfInBounds i true) a' w') a w
theorem wpAny_of_L {P : Program} {ops : Array Oper} {Q : Exit → Act → World → Prop} {S : World → Prop} {ℓ : Nat} : ∀ (fuel : Nat) (listed : Array Bool) (a : Act) (w : World), wpAnyL P ops Q S ℓ fuel listed a w → wpAny P .any ops Q fuel listed a w
  | 0, _, _, _, h => h
  | fuel + 1, _, _, _, h => ⟨h.1, fun i hi => wpOp_mono (fun a' w' h' => wpAny_of_L fuel _ a' w' h'.2) (h.2 i hi)⟩
def waiters (ops : Array Oper) (i : Nat) : List Nat :=
  (List.range ops.size).foldl (fun W j => match ops[j]? with
    | some o => if o.after.any (fun e => Region.binds .any e && (e.on == i || W.contains e.on)) then j :: W else W
    | none => W) []
def late (ops : Array Oper) (listed : Array Bool) (i ℓ : Nat) : Bool :=
  Nat.ble ops.size ℓ || ((waiters ops i).contains ℓ && (waiters ops i).all fun j => !listed.getD j true && (match ops[j]? with
    | some o => o.after.any (fun e => Region.binds .any e && (e.on == i || (waiters ops i).contains e.on))
    | none => false))
theorem wpAnyL_gen {P : Program} {ops : Array Oper} {Q : Exit → Act → World → Prop} {S : World → Prop} {ℓ i : Nat} {oi : Oper} {v : Value} {Y : Act → Prop} (hi : ops[i]? = some oi)
    (hop : ∀ {K : Act → World → Prop} {a : Act} {w : World}, Y a → S w → K (a.put oi.dst v) w → wpOp P ops Q i K a w)
    (hpast : ∀ {j : Nat} {oj : Oper} {K : Act → World → Prop} {a : Act} {w : World}, ops[j]? = some oj → oi.apart ops oj = true → Y a → wpOp P ops Q j K (a.put oi.dst v) w → wpOp P ops Q j (fun a' w' => Y a' ∧ K (a'.put oi.dst v) w') a w)
    (W : List Nat) (hW : ∀ j ∈ W, ∃ oj, ops[j]? = some oj ∧ ∃ e ∈ oj.after, Region.binds .any e = true ∧ (e.on = i ∨ e.on ∈ W)) (hℓ : ℓ ∈ W ∨ ops.size ≤ ℓ) :
    ∀ (fuel : Nat) (listed : Array Bool) (a : Act) (w : World),
      (∀ j oj, ops[j]? = some oj → j ≠ i → listed.getD j true = false → (∀ e ∈ oj.after, Region.binds .any e = true → e.on ≠ i) → oi.apart ops oj = true) →
      (∀ j ∈ W, listed.getD j true = false) →
      i ∈ Region.ready .any ops listed → Y a → S w →
      wpAnyL P ops Q S ℓ fuel (listed.setIfInBounds i true) (a.put oi.dst v) w → wpAnyL P ops Q S ℓ (fuel + 1) listed a w := by
  intro fuel
  induction fuel with
  | zero =>
    intro listed a w _ _ hr hy hS H
    refine ⟨fun h => (by rw [h] at hr; cases hr), fun j hj => ?_⟩
    by_cases hji : j = i
    · subst hji; exact hop hy hS ⟨fun _ => hS, H⟩
    · have := ready_mono hj hji
      rw [H.1] at this
      cases this
  | succ fuel ih =>
    intro listed a w hfree hWl hr hy hS H
    refine ⟨fun h => (by rw [h] at hr; cases hr), fun j hj => ?_⟩
    by_cases hji : j = i
    · subst hji; exact hop hy hS ⟨fun _ => hS, H⟩
    · have h1 := H.2 j (ready_mono hj hji)
      obtain ⟨hjun, oj, hoj, hall⟩ := mem_ready.1 hj
      have hiun := (mem_ready.1 hr).1
      have clash : ∀ k, listed.getD k false = true → listed.getD k true = false → False := fun k h1 h0 => by
        rcases Nat.lt_or_ge k listed.size with h' | h'
        · simp [h'] at h0 h1; rw [h0] at h1; cases h1
        · simp [Array.getElem?_eq_none h'] at h1
      have hnot : ∀ e ∈ oj.after, Region.binds .any e = true → e.on ≠ i := fun e he hb heq => by
        have h1 := hall e he hb
        rw [heq] at h1
        exact clash i h1 hiun
      have hjW : j ∉ W := fun hjW => by
        obtain ⟨oj', hoj', e, he, hb, hon⟩ := hW j hjW
        rw [hoj] at hoj'
        obtain rfl : oj = oj' := by injection hoj'
        have h1 := hall e he hb
        rcases hon with hon | hon
        · rw [hon] at h1; exact clash i h1 hiun
        · exact clash e.on h1 (hWl e.on hon)
      have hjℓ : j ≠ ℓ := fun h => by
        subst h
        rcases hℓ with h | h
        · exact hjW h
        · rw [Array.getElem?_eq_none h] at hoj; cases hoj
      have h2 := hpast hoj (hfree j oj hoj hji hjun hnot) hy h1
      have hfree' : ∀ k ok, ops[k]? = some ok → k ≠ i → (listed.setIfInBounds j true).getD k true = false →
          (∀ e ∈ ok.after, Region.binds .any e = true → e.on ≠ i) → oi.apart ops ok = true := fun k ok hk hki hun hno => by
        refine hfree k ok hk hki ?_ hno
        by_cases hjk : j = k
        · subst hjk; exact hjun
        · rw [getD_set_ne true hjk] at hun; exact hun
      have hWl' : ∀ k ∈ W, (listed.setIfInBounds j true).getD k true = false := fun k hk => by
        rw [getD_set_ne true (show j ≠ k from fun h => by subst h; exact hjW hk)]; exact hWl k hk
      refine wpOp_mono (fun a' w' h3 => ⟨h3.2.1, ih (listed.setIfInBounds j true) a' w' hfree' hWl' (ready_mono hr (Ne.symm hji)) h3.1 (h3.2.1 hjℓ) ?_⟩) h2
      rw [Array.setIfInBounds_comm _ _ hji]
      exact h3.2.2
theorem late_spec {ops : Array Oper} {listed : Array Bool} {i ℓ : Nat} (h : late ops listed i ℓ = true) :
    ∃ W : List Nat, (∀ j ∈ W, ∃ oj, ops[j]? = some oj ∧ ∃ e ∈ oj.after, Region.binds .any e = true ∧ (e.on = i ∨ e.on ∈ W)) ∧ (ℓ ∈ W ∨ ops.size ≤ ℓ) ∧ ∀ j ∈ W, listed.getD j true = false := by
  unfold late at h
  rw [Bool.or_eq_true, Bool.and_eq_true] at h
  rcases h with h | ⟨h1, h2⟩
  · exact ⟨[], fun j hj => (List.not_mem_nil hj).elim, Or.inr (Nat.le_of_ble_eq_true h), fun j hj => (List.not_mem_nil hj).elim⟩
  · refine ⟨waiters ops i, fun j hj => ?_, .inl (by simpa using h1), fun j hj => ?_⟩
    · have h3 := List.all_eq_true.1 h2 j hj
      rw [Bool.and_eq_true] at h3
      have h4 := h3.2
      cases ho : ops[j]? with
      | none => rw [ho] at h4; cases h4
      | some o =>
        rw [ho] at h4
        simp only [Array.any_eq_true'] at h4
        obtain ⟨e, he, hb⟩ := h4
        refine ⟨o, rfl, e, he, ?_⟩
        simpa using hb
    · have h3 := List.all_eq_true.1 h2 j hj
      rw [Bool.and_eq_true] at h3
      simpa using h3.1
theorem wpAnyL_take {P : Program} {ops : Array Oper} {Q : Exit → Act → World → Prop} {S : World → Prop} {ℓ i : Nat} {oi : Oper} {v : Value} {fuel : Nat} {listed : Array Bool} {a : Act} {w : World} (hi : ops[i]? = some oi)
    (hs : Region.noSelect ops = true) (hf : Region.free .any ops listed i = true) (hr : (Region.ready .any ops listed).contains i = true) (hl : late ops listed i ℓ = true)
    (hQ : ∀ c a w, Q (.panic c) (a.put oi.dst v) w → Q (.panic c) a w) (hy : YieldsIf P ops S oi v a) (hS : S w)
    (h : wpAnyL P ops Q S ℓ fuel (listed.setIfInBounds i true) (a.put oi.dst v) w) : wpAnyL P ops Q S ℓ (fuel + 1) listed a w := by
  obtain ⟨W, h1, h2, h3⟩ := late_spec hl
  have hsel := Region.noSelect_spec hs
  exact wpAnyL_gen hi (fun hy hS h => hy.wpOp hi hS h) (fun {j oj K a w} hj hap hy h => wpOp_putIf hj hap (fun cs b => hsel i oi cs b hi) (fun cs b => hsel j oj cs b hj) hQ hy h) W h1 h2 fuel listed a w (Region.free_spec hi hf) h3 (by simpa using hr) hy hS h
theorem wpAnyL_all {P : Program} {ops : Array Oper} {Q : Exit → Act → World → Prop} {S : World → Prop} {ℓ : Nat} {rs : List Nat} {fuel : Nat} {listed : Array Bool} {a : Act} {w : World} (hr : Region.ready .any ops listed = rs) (hne : rs ≠ [])
    (h : ∀ i ∈ rs, wpOp P ops Q i (fun a' w' => (i ≠ ℓ → S w') ∧ wpAnyL P ops Q S ℓ fuel (listed.setIfInBounds i true) a' w') a w) : wpAnyL P ops Q S ℓ (fuel + 1) listed a w :=
  ⟨fun h0 => absurd (hr ▸ h0) hne, hr ▸ h⟩
theorem wpAnyL_done {P : Program} {ops : Array Oper} {Q : Exit → Act → World → Prop} {S : World → Prop} {ℓ : Nat} {listed : Array Bool} {a : Act} {w : World} (hr : Region.ready .any ops listed = []) (h : Q .normal a w) :
    ∀ fuel, wpAnyL P ops Q S ℓ fuel listed a w
  | 0 => ⟨hr, h⟩
  | _ + 1 => ⟨fun _ => h, by rw [hr]; simp⟩
def D (P : Program) (n : Nat) (ops : List Oper) (S : World → Prop) (ℓ : Nat) (Q : Exit → Fr → World → Prop) (fuel : Nat) (listed : Array Bool) (f : Fr) (w : World) : Prop :=
  ops.all (fitO n) = true → ∀ a, Rep n f a → wpAnyL P ops.toArray (lft n Q) S ℓ fuel listed a w
theorem J.draw {id : Nat} {l : List Oper} {S : World → Prop} {ℓ : Nat} (hm : P.follows .mixedOrders = true) (h : ∀ w1, Ext w w1 → w1.heap = w.heap → D P n l S ℓ Q l.length (Array.replicate l.length false) f w1) : J P n (.region id l.toArray true) Q f w := by
  intro hf a hr
  simp only [fitC] at hf
  refine wp_region_any hm (wpAny_of_L (S := S) (ℓ := ℓ) _ _ _ _ ?_)
  have := h w.drew (Ext.drew w) rfl hf a hr
  simpa using this
theorem D.done {S : World → Prop} {ℓ : Nat} {fuel : Nat} {listed : Array Bool} (hr : Region.ready .any ops.toArray listed = []) (h : Q .normal f w) : D P n ops S ℓ Q fuel listed f w :=
  fun _ _ hr' => wpAnyL_done hr ⟨f, hr', h⟩ fuel
theorem D.take {S : World → Prop} {ℓ : Nat} {fuel : Nat} {listed : Array Bool} (i : Nat) {o : Oper} (ho : ops[i]? = some o)
    (hb : (Region.noSelect ops.toArray && Region.free .any ops.toArray listed i && (Region.ready .any ops.toArray listed).contains i && late ops.toArray listed i ℓ) = true) (hQ : ∀ c f w, Q (.panic c) f w → False)
    (hg : wn ops f o.guard = true) (hx : ∀ w', S w' → (execOp (ev f) o).run P w' = .ok (.value v) w') (hS : S w) (h : D P n ops S ℓ Q fuel (listed.setIfInBounds i true) (putO f o.dst v) w) : D P n ops S ℓ Q (fuel + 1) listed f w := by
  intro hf a hr
  simp only [Bool.and_eq_true] at hb
  refine wpAnyL_take (i := i) (oi := o) (v := v) (by simpa using ho) hb.1.1.1 hb.1.1.2 hb.1.2 hb.2 ?_ (.inl ⟨by rw [wanted_eq hr]; exact hg, fun w' hw' => by rw [hr.eval]; exact hx w' hw'⟩) hS ?_
  · rintro c a w ⟨f', _, hq⟩
    exact absurd hq (hQ c f' w)
  · exact h hf _ (hr.put v (List.all_eq_true.1 hf o (List.mem_of_getElem? ho)))
theorem D.off {S : World → Prop} {ℓ : Nat} {fuel : Nat} {listed : Array Bool} (i : Nat) {o : Oper} (ho : ops[i]? = some o)
    (hb : (Region.noSelect ops.toArray && Region.free .any ops.toArray listed i && (Region.ready .any ops.toArray listed).contains i && late ops.toArray listed i ℓ) = true) (hQ : ∀ c f w, Q (.panic c) f w → False)
    (hg : wn ops f o.guard = false) (hS : S w) (h : D P n ops S ℓ Q fuel (listed.setIfInBounds i true) (putO f o.dst undef) w) : D P n ops S ℓ Q (fuel + 1) listed f w := by
  intro hf a hr
  simp only [Bool.and_eq_true] at hb
  refine wpAnyL_take (i := i) (oi := o) (v := undef) (by simpa using ho) hb.1.1.1 hb.1.1.2 hb.1.2 hb.2 ?_ (.inr ⟨by rw [wanted_eq hr]; exact hg, rfl⟩) hS ?_
  · rintro c a w ⟨f', _, hq⟩
    exact absurd hq (hQ c f' w)
  · exact h hf _ (hr.put undef (List.all_eq_true.1 hf o (List.mem_of_getElem? ho)))
theorem wp_mono2 {o : Oper} {a : Act} {w : World} {K K' : Act → World → Prop} {Q1 Q2 : Exit → Act → World → Prop} (hK : ∀ a w, K a w → K' a w) (hQ : ∀ e a w, e ≠ .normal → Q1 e a w → Q2 e a w) (h : o.wp P a w K Q1) : o.wp P a w K' Q2 := by
  unfold Oper.wp at *
  generalize (execOp a.eval o).run P w = r at *
  cases r with
  | ok n w' =>
    cases n <;> simp only [Oper.upon] at h ⊢ <;>
      first
        | exact hK _ _ h
        | exact Calls.mono h (fun e w'' he => by
            cases e
            case returned => exact hK _ _ he
            case panicked => exact hQ _ _ _ (by simp) he
            case outgrown => obtain ⟨a2, w2, h2⟩ := he; exact ⟨a2, w2, hQ _ _ _ (by simp) h2⟩)
        | exact Rows.mono h (fun _ _ he => hK _ _ he)
  | halt x w' => cases x <;> simp only [Oper.upon] at h ⊢ <;> first | exact hQ _ _ _ (by simp) h | exact h
theorem D.va {S : World → Prop} {ℓ : Nat} {fuel : Nat} {listed : Array Bool} (i : Nat) {k : Nat} {op : Op} (ho : ops[i]? = some ⟨some k, op, ty, pos, aft, g⟩)
    (hb : (Region.noSelect ops.toArray && Region.free .any ops.toArray listed i && (Region.ready .any ops.toArray listed).contains i && late ops.toArray listed i ℓ) = true) (hQ : ∀ c f w, Q (.panic c) f w → False)
    (hg : wn ops f g = true) (hx : ∀ w', S w' → (execOp (ev f) ⟨some k, op, ty, pos, aft, g⟩).run P w' = .ok (.value v) w') (hS : S w) (h : D P n ops S ℓ Q fuel (listed.setIfInBounds i true) (lk [(k, v)] f) w) : D P n ops S ℓ Q (fuel + 1) listed f w := D.take i ho hb hQ hg hx hS h
theorem D.no {S : World → Prop} {ℓ : Nat} {fuel : Nat} {listed : Array Bool} (i : Nat) {k : Nat} {op : Op} (ho : ops[i]? = some ⟨some k, op, ty, pos, aft, g⟩)
    (hb : (Region.noSelect ops.toArray && Region.free .any ops.toArray listed i && (Region.ready .any ops.toArray listed).contains i && late ops.toArray listed i ℓ) = true) (hQ : ∀ c f w, Q (.panic c) f w → False)
    (hg : wn ops f g = false) (hS : S w) (h : D P n ops S ℓ Q fuel (listed.setIfInBounds i true) (lk [(k, undef)] f) w) : D P n ops S ℓ Q (fuel + 1) listed f w := D.off i ho hb hQ hg hS h
theorem D.all {S : World → Prop} {ℓ : Nat} {fuel : Nat} {listed : Array Bool} {rs : List Nat} (hr : Region.ready .any ops.toArray listed = rs) (hne : rs ≠ [])
    (h : ∀ i ∈ rs, ∃ o, ops[i]? = some o ∧ L P n ops (thn (fun f' w' => (i ≠ ℓ → S w') ∧ D P n ops S ℓ Q fuel (listed.setIfInBounds i true) f' w') Q) [o] f w) : D P n ops S ℓ Q (fuel + 1) listed f w := by
  intro hf a hr'
  refine wpAnyL_all hr hne fun i hi => ?_
  obtain ⟨o, ho, hl⟩ := h i hi
  have h1 := hl (by simp only [List.all_cons, List.all_nil, Bool.and_true]; exact List.all_eq_true.1 hf o (List.mem_of_getElem? ho)) a hr'
  unfold wpOp
  rw [show ops.toArray[i]? = some o by simpa using ho]
  simp only
  have mono : ∀ a' w', lft n (thn (fun f' w' => (i ≠ ℓ → S w') ∧ D P n ops S ℓ Q fuel (listed.setIfInBounds i true) f' w') Q) .normal a' w' → (i ≠ ℓ → S w') ∧ wpAnyL P ops.toArray (lft n Q) S ℓ fuel (listed.setIfInBounds i true) a' w' := by
    rintro a' w' ⟨f', hr2, hs, hd⟩
    exact ⟨hs, hd hf a' hr2⟩
  have monoQ : ∀ e a' w', e ≠ .normal → lft n (thn (fun f' w' => (i ≠ ℓ → S w') ∧ D P n ops S ℓ Q fuel (listed.setIfInBounds i true) f' w') Q) e a' w' → lft n Q e a' w' := by
    rintro e a' w' hne ⟨f', hr2, hq⟩
    refine ⟨f', hr2, ?_⟩
    cases e
    case normal => exact absurd rfl hne
    all_goals exact hq
  unfold wpList at h1
  by_cases hw : Region.wanted o (yielded ops.toArray a.tmps) = true
  · rw [if_pos hw] at h1 ⊢
    rcases h1 with h1 | ⟨h1, a2, w2, h2⟩
    · exact .inl (wp_mono2 mono monoQ h1)
    · exact .inr ⟨h1, a2, w2, monoQ _ _ _ (by simp) h2⟩
  · rw [if_neg hw] at h1 ⊢
    exact mono _ _ h1
theorem D.one {S : World → Prop} {ℓ : Nat} {fuel : Nat} {listed : Array Bool} (i : Nat) {o : Oper} (hr : Region.ready .any ops.toArray listed = [i]) (ho : ops[i]? = some o)
    (h : L P n ops (thn (fun f' w' => (i ≠ ℓ → S w') ∧ D P n ops S ℓ Q fuel (listed.setIfInBounds i true) f' w') Q) [o] f w) : D P n ops S ℓ Q (fuel + 1) listed f w :=
  D.all hr (by simp) (fun j hj => by
    obtain rfl : j = i := by simpa using hj
    exact ⟨o, ho, h⟩)
def args (l : List Value) : Nat → List (Nat × Value) := fun i => (List.range' i l.length).zip l
def resF (rs : Array ResultVar) (f : Fr) : Sem Value := do
  let vs ← rs.mapM fun
    | .tmp t => pure (f t)
    | .cell a t => do loadVar t (← asAddr (f a))
  pure (if h : vs.size = 1 then vs[0] else .tuple vs)
theorem results_eq {fn : Func} {a : Act} (hr : Rep n f a) : results fn a.tmps = resF fn.results f := by
  unfold results resF
  have : (fun t => a.tmps.getD t undef) = f := funext hr.get
  congr 1
  congr 1
  funext r
  cases r with
  | tmp t => simp only [hr.get]
  | cell c t => simp only [hr.get]
def fin (P : Program) (rs : Array ResultVar) (R : Ending → World → Prop) : Exit → Fr → World → Prop
  | .normal, f, w => ∃ v, (resF rs f).run P w = .ok v w ∧ R (.returned v) w
  | .ret, f, w => ∃ v, (resF rs f).run P w = .ok v w ∧ R (.returned v) w
  | _, _, _ => False
theorem enter {id : FuncId} {fn : Func} {c : Code} {l : List Value} {R : Ending → World → Prop} (hf : P.funcs[id]? = some fn) (hb : fn.body = some c) (hk : (fitC fn.ntmps c && Nat.ble l.length fn.ntmps) = true)
    (h : J P fn.ntmps c (fin P fn.results R) (lk (args l 0) fun _ => undef) w) : Calls P id l.toArray w R := by
  simp only [Bool.and_eq_true] at hk
  have hle : l.length ≤ fn.ntmps := by simpa using hk.2
  refine calls_of_wp hf hb (wp_mono (h hk.1 _ ⟨by simp; omega, rfl, ?_⟩) ?_)
  · intro j
    have key : ∀ (l : List Value) (i j : Nat), lk ((List.range' i l.length).zip l) (fun _ => undef) j = if i ≤ j then l.getD (j - i) undef else undef := by
      intro l
      induction l with
      | nil => intro i j; simp [lk]
      | cons a l ih =>
        intro i j
        simp only [List.length_cons, List.range'_succ, List.zip_cons_cons, lk]
        rw [ih (i + 1) j]
        cases hb : Nat.beq j i with
        | true =>
          have := Nat.eq_of_beq_eq_true hb
          subst this
          simp
        | false =>
          have hne : j ≠ i := fun e => by subst e; rw [Nat.beq_refl] at hb; cases hb
          by_cases hij : i + 1 ≤ j
          · rw [if_pos hij, if_pos (by omega), show j - i = (j - (i + 1)) + 1 by omega]
            simp
          · rw [if_neg hij, if_neg (by omega)]
            rfl
    show (l.toArray ++ Array.replicate (fn.ntmps - l.toArray.size) undef).getD j undef = _
    unfold args
    rw [key l 0 j, if_pos (Nat.zero_le _), Nat.sub_zero, Array.getD_eq_getD_getElem?, Array.getElem?_append]
    by_cases hj : j < l.length
    · simp [hj, List.getD]
    · simp only [List.size_toArray, hj, if_false, List.getD, List.getElem?_eq_none (Nat.le_of_not_lt hj)]
      rw [Array.getElem?_replicate]
      split <;> rfl
  · rintro e a' w' ⟨f', hr, hq⟩
    cases e <;> simp only [fin] at hq <;> first
      | (obtain ⟨v, hv, hR⟩ := hq
         exact ⟨hr.defers, v, by rw [results_eq hr]; exact hv, hR⟩)
      | exact hq.elim
theorem thn_ret {K : Fr → World → Prop} (h : Q .ret f w) : thn K Q .ret f w := h
theorem inB_ret {id : Nat} (h : Q .ret f w) : inB id Q .ret f w := h
theorem fin1 {R : Ending → World → Prop} {k : Tmp} (h : R (.returned (f k)) w) : fin P #[.tmp k] R .ret f w := ⟨f k, by simp [resF], h⟩
theorem fin3 {R : Ending → World → Prop} {k1 k2 k3 : Tmp} (h : R (.returned (.tuple #[f k1, f k2, f k3])) w) : fin P #[.tmp k1, .tmp k2, .tmp k3] R .ret f w := ⟨_, by simp [resF], h⟩
theorem fin0 {R : Ending → World → Prop} {e : Exit} (he : e = .ret ∨ e = .normal) (h : R (.returned (.tuple #[])) w) : fin P #[] R e f w := by
  rcases he with rfl | rfl <;> exact ⟨_, by simp [resF], h⟩
end
end Go.Proofs.YtadfopdjhbjekaaDoor.H
namespace Go.Proofs.YtadfopdjhbjekaaDoor.H
open Go.RowKit Go.Proofs.YtadfopdjhbjekaaDoor
set_option linter.unusedSimpArgs false
set_option linter.unusedVariables false
section
variable {P : Program} {n : Nat} {ops rest l : List Oper} {Q : Exit → Fr → World → Prop} {f : Fr} {w w' : World} {d : Option Tmp} {ty : TypeId} {pos : String} {aft : Array Edge} {g : Option (Nat × Bool)} {x y z o : Operand} {v u p : Value} {t e tx tz : TypeId} {c1 c2 : Code}
theorem J.iteF (hc : ev f o = .bool false) (h : J P n c2 Q f w) : J P n (.cond o c1 c2) Q f w := J.ite hc (fun h' => by cases h') (fun _ => h)
theorem J.ndecF {p : Prop} [Decidable p] (hc : ev f o = .bool (!decide p)) (hp : p) (h : J P n c2 Q f w) : J P n (.cond o c1 c2) Q f w := J.ndec hc (fun h' => absurd hp h') (fun _ => h)
theorem lk_self (k : Nat) (v : Value) (h : f k = v) : lk [(k, v)] f = f := by
  funext j
  show (bif Nat.beq j k then v else f j) = f j
  cases hb : Nat.beq j k with
  | false => rfl
  | true =>
    have := Nat.eq_of_beq_eq_true hb
    subst this
    exact h.symm
theorem caseB_ {C : Fr → Prop} {k : Nat} {b : Bool} (hk : f k = .bool b) (h1 : b = true → C (lk [(k, .bool true)] f)) (h2 : b = false → C (lk [(k, .bool false)] f)) : C f := by
  cases b
  · have := h2 rfl; rwa [lk_self k _ hk] at this
  · have := h1 rfl; rwa [lk_self k _ hk] at this
theorem caseDec_ {C : Fr → Prop} {k : Nat} {p : Prop} [Decidable p] (hk : f k = .bool (decide p)) (h1 : p → C (lk [(k, .bool true)] f)) (h2 : ¬ p → C (lk [(k, .bool false)] f)) : C f :=
  caseB_ hk (fun h => h1 (of_decide_eq_true h)) (fun h => h2 (of_decide_eq_false h))
theorem caseNdec_ {C : Fr → Prop} {k : Nat} {p : Prop} [Decidable p] (hk : f k = .bool (!decide p)) (h1 : ¬ p → C (lk [(k, .bool true)] f)) (h2 : p → C (lk [(k, .bool false)] f)) : C f :=
  caseB_ hk (fun h => h1 (by simpa using h)) (fun h => h2 (by simpa using h))
theorem L.caseDec {k : Nat} {p : Prop} [Decidable p] (hk : f k = .bool (decide p)) (h1 : p → L P n ops Q rest (lk [(k, .bool true)] f) w) (h2 : ¬ p → L P n ops Q rest (lk [(k, .bool false)] f) w) : L P n ops Q rest f w := caseDec_ (C := fun f => L P n ops Q rest f w) hk h1 h2
theorem L.caseNdec {k : Nat} {p : Prop} [Decidable p] (hk : f k = .bool (!decide p)) (h1 : ¬ p → L P n ops Q rest (lk [(k, .bool true)] f) w) (h2 : p → L P n ops Q rest (lk [(k, .bool false)] f) w) : L P n ops Q rest f w := caseNdec_ (C := fun f => L P n ops Q rest f w) hk h1 h2
theorem L.caseNdecF {k : Nat} {p : Prop} [Decidable p] (hk : f k = .bool (!decide p)) (hp : p) (h1 : L P n ops Q rest (lk [(k, .bool false)] f) w) : L P n ops Q rest f w := L.caseNdec hk (fun h => absurd hp h) (fun _ => h1)
section
variable {S : World → Prop} {ℓ : Nat} {fuel : Nat} {listed : Array Bool}
theorem D.caseDec {k : Nat} {p : Prop} [Decidable p] (hk : f k = .bool (decide p)) (h1 : p → D P n ops S ℓ Q fuel listed (lk [(k, .bool true)] f) w) (h2 : ¬ p → D P n ops S ℓ Q fuel listed (lk [(k, .bool false)] f) w) : D P n ops S ℓ Q fuel listed f w := caseDec_ (C := fun f => D P n ops S ℓ Q fuel listed f w) hk h1 h2
theorem D.caseNdec {k : Nat} {p : Prop} [Decidable p] (hk : f k = .bool (!decide p)) (h1 : ¬ p → D P n ops S ℓ Q fuel listed (lk [(k, .bool true)] f) w) (h2 : p → D P n ops S ℓ Q fuel listed (lk [(k, .bool false)] f) w) : D P n ops S ℓ Q fuel listed f w := caseNdec_ (C := fun f => D P n ops S ℓ Q fuel listed f w) hk h1 h2
theorem D.caseNdecF {k : Nat} {p : Prop} [Decidable p] (hk : f k = .bool (!decide p)) (hp : p) (h1 : D P n ops S ℓ Q fuel listed (lk [(k, .bool false)] f) w) : D P n ops S ℓ Q fuel listed f w := D.caseNdec hk (fun h => absurd hp h) (fun _ => h1)
end
theorem at_int {k : Nat} {kd : IntKind} {m m' : Int} (h : f k = .int kd m) (e : m = m') : f k = .int kd m' := by rw [h, e]
theorem at_slice {k : Nat} {A : Option Addr} {m m' c : Nat} (h : f k = .slice A m c) (e : m = m') : f k = .slice A m' c := by rw [h, e]
theorem At1 {k1 : Nat} {v1 : Value} (h1 : f k1 = v1) : At f [(k1, v1)] := ⟨h1, trivial⟩
theorem At2 {k1 k2 : Nat} {v1 v2 : Value} (h1 : f k1 = v1) (h2 : f k2 = v2) : At f [(k1, v1), (k2, v2)] := ⟨h1, h2, trivial⟩
theorem At0 : At f [] := trivial
end
end Go.Proofs.YtadfopdjhbjekaaDoor.H
namespace Go.Proofs.YtadfopdjhbjekaaDoor.H
open Go.RowKit Go.Proofs.YtadfopdjhbjekaaDoor
set_option linter.unusedSimpArgs false
set_option linter.unusedVariables false
section
variable {P : Program} {n : Nat} {ops rest l : List Oper} {f : Fr} {w w' : World} {d : Option Tmp} {ty : TypeId} {pos : String} {aft : Array Edge} {g : Option (Nat × Bool)} {x y z o : Operand} {v u p : Value} {t e tx tz : TypeId}
def Qt (P : Program) (n : Nat) (ops : List Oper) (C : World → Prop) (Q : Fr → Prop) (l : List Oper) (f : Fr) : Prop :=
  l.all (fitO n) = true → ∀ a, Rep n f a → wpQuiet P ops.toArray C (fun a' => ∃ f', Rep n f' a' ∧ Q f') l a
variable {C : World → Prop} {Q : Fr → Prop}
theorem J.quiet {id : Nat} {Q : Exit → Fr → World → Prop} (hm : P.follows .mixedOrders = true) (hB : Region.lexB .any l.toArray = true) (h : Qt P n l (Ext w) (fun f' => ∀ w', Ext w w' → Q .normal f' w') l f) : J P n (.region id l.toArray true) Q f w := by
  intro hf a hr
  simp only [fitC] at hf
  refine wp_region_quiet (C := Ext w) hm hB (Ext.drew w) ?_
  have := h hf a hr
  refine wpQuiet_mono ?_ this
  rintro a' ⟨f', hr', hq⟩ w' hw'
  exact ⟨f', hr', hq w' hw'⟩
theorem Qt.nil (h : Q f) : Qt P n ops C Q [] f := fun _ _ hr => ⟨f, hr, h⟩
theorem Qt.va {k : Nat} {op : Op} (hg : wn ops f g = true) (hx : ∀ w', C w' → (execOp (ev f) ⟨some k, op, ty, pos, aft, g⟩).run P w' = .ok (.value v) w') (h : Qt P n ops C Q rest (lk [(k, v)] f)) : Qt P n ops C Q (⟨some k, op, ty, pos, aft, g⟩ :: rest) f := by
  intro hf a hr
  simp only [List.all_cons, Bool.and_eq_true] at hf
  unfold wpQuiet
  rw [wanted_eq hr, if_pos hg]
  refine ⟨v, fun w' hw' => ?_, h hf.2 _ (hr.put (d := some k) v hf.1)⟩
  unfold Oper.quietAt
  rw [hr.eval, hx w' hw']
  exact ⟨rfl, rfl⟩
theorem Qt.no {k : Nat} {op : Op} (hg : wn ops f g = false) (h : Qt P n ops C Q rest (lk [(k, undef)] f)) : Qt P n ops C Q (⟨some k, op, ty, pos, aft, g⟩ :: rest) f := by
  intro hf a hr
  simp only [List.all_cons, Bool.and_eq_true] at hf
  unfold wpQuiet
  rw [wanted_eq hr, if_neg (by rw [hg]; simp)]
  exact h hf.2 _ (hr.put (d := some k) undef hf.1)
theorem Qt.call {k : Nat} {c : FuncId} {l : List Operand} {vs : List Value} {ts : Array TypeId} (hg : wn ops f g = true) (he : Ent P c) (hv : l.map (ev f) = vs) (hc : ∀ w', C w' → Calls P c vs.toArray w' fun e w'' => e = .returned v ∧ C w'') (h : Qt P n ops C Q rest (lk [(k, v)] f)) :
    Qt P n ops C Q (⟨some k, .call { callee := .value (.func c), args := l.toArray, argTypes := ts }, ty, pos, aft, g⟩ :: rest) f := by
  intro hf a hr
  simp only [List.all_cons, Bool.and_eq_true] at hf
  unfold wpQuiet
  rw [wanted_eq hr, if_pos hg]
  refine ⟨v, fun w' hw' => ?_, h hf.2 _ (hr.put (d := some k) v hf.1)⟩
  unfold Oper.quietAt
  rw [hr.eval, X.enter he rfl hv]
  exact ⟨rfl, hc w' hw'⟩
theorem Qt.caseDec {k : Nat} {p : Prop} [Decidable p] (hk : f k = .bool (decide p)) (h1 : p → Qt P n ops C Q rest (lk [(k, .bool true)] f)) (h2 : ¬ p → Qt P n ops C Q rest (lk [(k, .bool false)] f)) : Qt P n ops C Q rest f := caseDec_ (C := fun f => Qt P n ops C Q rest f) hk h1 h2
theorem Qt.caseNdec {k : Nat} {p : Prop} [Decidable p] (hk : f k = .bool (!decide p)) (h1 : ¬ p → Qt P n ops C Q rest (lk [(k, .bool true)] f)) (h2 : p → Qt P n ops C Q rest (lk [(k, .bool false)] f)) : Qt P n ops C Q rest f := caseNdec_ (C := fun f => Qt P n ops C Q rest f) hk h1 h2
theorem Qt.caseNdecF {k : Nat} {p : Prop} [Decidable p] (hk : f k = .bool (!decide p)) (hp : p) (h1 : Qt P n ops C Q rest (lk [(k, .bool false)] f)) : Qt P n ops C Q rest f := Qt.caseNdec hk (fun h => absurd hp h) (fun _ => h1)
def Acts (P : Program) (ops : Array Oper) (S : World → Prop) (o : Oper) (v : Value) (a : Act) : Prop :=
  (Region.wanted o (yielded ops a.tmps) = true ∧ ∀ w, S w → o.quietAt P a (fun w'' => w'' = w) w v) ∨ (Region.wanted o (yielded ops a.tmps) = false ∧ v = undef)
section
variable {ops : Array Oper} {S : World → Prop} {md : Region.Mode} {Q : Exit → Act → World → Prop}
theorem Acts.wpOp {i : Nat} {o : Oper} {v : Value} {a : Act} (hi : ops[i]? = some o) (hy : Acts P ops S o v a) {K : Act → World → Prop} {w : World} (hS : S w) (h : K (a.put o.dst v) w) : wpOp P ops Q i K a w := by
  unfold Go.wpOp
  simp only [hi]
  rcases hy with ⟨hw, hv⟩ | ⟨hw, rfl⟩
  · simp only [hw, if_true]
    refine .inl ?_
    have h3 := hv w hS
    unfold Oper.quietAt at h3
    unfold Oper.wp
    generalize (execOp a.eval o).run P w = r at *
    cases r with
    | ok n w' =>
      cases n <;> simp only [Oper.quietUpon] at h3 <;> simp only [Oper.upon]
      case value u => obtain ⟨rfl, rfl⟩ := h3; exact h
      case skip => obtain ⟨rfl, rfl⟩ := h3; exact h
      case enter f args =>
        obtain ⟨rfl, hc⟩ := h3
        exact hc.mono fun e w'' ⟨he, hw''⟩ => by subst he; subst hw''; exact h
    | halt x w' => simp only [Oper.quietUpon] at h3
  · simp only [hw, Bool.false_eq_true, if_false]; exact h
theorem Acts.of_same {o : Oper} {v : Value} {a a' : Act} (hy : Acts P ops S o v a) (he : execOp a'.eval o = execOp a.eval o) (hw : Region.wanted o (yielded ops a'.tmps) = Region.wanted o (yielded ops a.tmps)) : Acts P ops S o v a' := by
  unfold Acts Oper.quietAt at *
  rw [he, hw]
  exact hy
theorem acts_past {j : Nat} {oi oj : Oper} {v : Value} (hj : ops[j]? = some oj) (hap : oi.apart ops oj = true) (hsi : ∀ cs b, oi.op ≠ .select cs b) (hsj : ∀ cs b, oj.op ≠ .select cs b)
    (hQ : ∀ c a w, Q (.panic c) (a.put oi.dst v) w → Q (.panic c) a w) {K : Act → World → Prop} {a : Act} {w : World}
    (hy : Acts P ops S oi v a) (h : wpOp P ops Q j K (a.put oi.dst v) w) : wpOp P ops Q j (fun a' w' => Acts P ops S oi v a' ∧ K (a'.put oi.dst v) w') a w := by
  obtain ⟨h1, h2, h3⟩ := Oper.apart_spec hap
  have keep : ∀ (a : Act), Acts P ops S oi v a → ∀ u, Acts P ops S oi v (a.put oj.dst u) := fun a hy u => hy.of_same (execOp_put oi hsi a oj.dst u h3) (wanted_put oi a oj.dst u h3)
  have keepD : ∀ d, Acts P ops S oi v { a with defers := d :: a.defers } := fun d => hy.of_same rfl rfl
  unfold wpOp at *
  simp only [hj] at *
  rw [wanted_put oj a oi.dst v h1] at h
  split
  · rename_i hw
    simp only [hw, if_true] at h
    rcases h with h | ⟨hasks, hlets⟩
    case inr => exact .inr ⟨by unfold Oper.asks at *; rw [execOp_put oj hsj a oi.dst v h1] at hasks; exact hasks, hlets⟩
    refine .inl ?_
    unfold Oper.wp at *
    rw [execOp_put oj hsj a oi.dst v h1] at h
    generalize (execOp a.eval oj).run P w = r at *
    cases r with
    | ok n w' =>
      cases n <;> simp only [Oper.upon] at h ⊢
      case value u => exact ⟨keep a hy u, by rw [← Act.put_comm a v u h2]; exact h⟩
      case skip => exact ⟨keep a hy _, by rw [← Act.put_comm a v undef h2]; exact h⟩
      case defer d =>
        refine ⟨keep _ (keepD d) _, ?_⟩
        rw [← Act.put_comm _ v undef h2, ← Act.put_defers]
        exact h
      case enter f args =>
        refine Calls.mono h fun e w'' he => ?_
        cases e with
        | returned u => exact ⟨keep a hy u, by rw [← Act.put_comm a v u h2]; exact he⟩
        | panicked c => exact hQ _ _ _ he
        | outgrown => exact he
      case row row args => exact Rows.mono h fun u w'' he => ⟨keep a hy u, by rw [← Act.put_comm a v u h2]; exact he⟩
    | halt x w' =>
      cases x <;> simp only [Oper.upon] at h ⊢
      case panic u => exact hQ _ _ _ h
  · rename_i hw
    simp only [hw] at h
    exact ⟨keep a hy _, by rw [← Act.put_comm a v undef h2]; exact h⟩
theorem acts_first {i ℓ : Nat} {oi : Oper} {v : Value} {fuel : Nat} {listed : Array Bool} {a : Act} {w : World} (hi : ops[i]? = some oi)
    (hs : Region.noSelect ops = true) (hf : Region.free .any ops listed i = true) (hr : (Region.ready .any ops listed).contains i = true) (hl : late ops listed i ℓ = true)
    (hQ : ∀ c a w, Q (.panic c) (a.put oi.dst v) w → Q (.panic c) a w) (hy : Acts P ops S oi v a) (hS : S w)
    (h : wpAnyL P ops Q S ℓ fuel (listed.setIfInBounds i true) (a.put oi.dst v) w) : wpAnyL P ops Q S ℓ (fuel + 1) listed a w := by
  obtain ⟨W, h1, h2, h3⟩ := late_spec hl
  have hsel := Region.noSelect_spec hs
  exact wpAnyL_gen hi (fun hy hS h => hy.wpOp hi hS h) (fun {j oj K a w} hj hap hy h => acts_past hj hap (fun cs b => hsel i oi cs b hi) (fun cs b => hsel j oj cs b hj) hQ hy h) W h1 h2 fuel listed a w (Region.free_spec hi hf) h3 (by simpa using hr) hy hS h
end
theorem D.call {Q : Exit → Fr → World → Prop} {S : World → Prop} {ℓ : Nat} {fuel : Nat} {listed : Array Bool} (i : Nat) {k : Nat} {c : FuncId} {l : List Operand} {vs : List Value} {ts : Array TypeId} (ho : ops[i]? = some ⟨some k, .call { callee := .value (.func c), args := l.toArray, argTypes := ts }, ty, pos, aft, g⟩)
    (hb : (Region.noSelect ops.toArray && Region.free .any ops.toArray listed i && (Region.ready .any ops.toArray listed).contains i && late ops.toArray listed i ℓ) = true) (hQ : ∀ c f w, Q (.panic c) f w → False)
    (hg : wn ops f g = true) (he : Ent P c) (hv : l.map (ev f) = vs) (hc : ∀ w', S w' → Calls P c vs.toArray w' fun e w'' => e = .returned v ∧ w' = w'') (hS : S w) (h : D P n ops S ℓ Q fuel (listed.setIfInBounds i true) (lk [(k, v)] f) w) : D P n ops S ℓ Q (fuel + 1) listed f w := by
  intro hf a hr
  simp only [Bool.and_eq_true] at hb
  refine acts_first (i := i) (v := v) (by simpa using ho) hb.1.1.1 hb.1.1.2 hb.1.2 hb.2 ?_ (.inl ⟨by rw [wanted_eq hr]; exact hg, fun w' hw' => ?_⟩) hS ?_
  · rintro c a w ⟨f', _, hq⟩
    exact absurd hq (hQ c f' w)
  · unfold Oper.quietAt
    rw [hr.eval, X.enter he rfl hv]
    exact ⟨rfl, (hc w' hw').mono fun _ _ ⟨h1, h2⟩ => ⟨h1, h2.symm⟩⟩
  · exact h hf _ (hr.put v (List.all_eq_true.1 hf _ (List.mem_of_getElem? ho)))
end
end Go.Proofs.YtadfopdjhbjekaaDoor.H
namespace Go.Proofs.YtadfopdjhbjekaaDoor.H
open Go.RowKit Go.Proofs.YtadfopdjhbjekaaDoor
set_option linter.unusedSimpArgs false
set_option linter.unusedVariables false
section
variable {P : Program} {n : Nat} {ops rest : List Oper} {Q : Exit → Fr → World → Prop} {f : Fr} {w w' : World} {d : Option Tmp} {ty : TypeId} {pos : String} {aft : Array Edge} {g : Option (Nat × Bool)} {x y z o : Operand} {v u p : Value} {t e tx tz : TypeId}
end
end Go.Proofs.YtadfopdjhbjekaaDoor.H
namespace Go.Proofs.YtadfopdjhbjekaaDoor.H
open Go.RowKit Go.Proofs.YtadfopdjhbjekaaDoor
set_option linter.unusedSimpArgs false
set_option linter.unusedVariables false
section
variable {P : Program} {n : Nat} {ops rest l : List Oper} {Q : Exit → Fr → World → Prop} {f : Fr} {w w' : World} {d : Option Tmp} {ty : TypeId} {pos : String} {aft : Array Edge} {g : Option (Nat × Bool)} {x y z o : Operand} {v u p : Value} {t e tx tz : TypeId}
end
end Go.Proofs.YtadfopdjhbjekaaDoor.H
namespace Go.Proofs.YtadfopdjhbjekaaDoor.H
open Go.RowKit Go.Proofs.YtadfopdjhbjekaaDoor
set_option linter.unusedSimpArgs false
set_option linter.unusedVariables false
section
variable {P : Program} {n : Nat} {ops rest l : List Oper} {Q : Exit → Fr → World → Prop} {f : Fr} {w w' : World} {d : Option Tmp} {ty : TypeId} {pos : String} {aft : Array Edge} {g : Option (Nat × Bool)} {x y z o : Operand} {v u p rv : Value} {t e tx tz : TypeId} {name : String}
def Mtd (P : Program) (t : TypeId) (v rv : Value) (name : String) (c : FuncId) (w : World) : Prop := ∀ args, (callMethod (.iface t v) name args).run P w = .ok (.enter c (#[rv] ++ args)) w
theorem X.invoke {ρ : Operand → Value} {c : FuncId} {l : List Operand} {ts : Array TypeId} {vs : List Value} (hx : ρ x = .iface t v) (hm : Mtd P t v rv name c w) (hv : l.map ρ = vs) : (execOp ρ ⟨d, .call { callee := .invoke x name, args := l.toArray, argTypes := ts }, ty, pos, aft, g⟩).run P w = .ok (.enter c (rv :: vs).toArray) w := by
  subst hv
  have e : ((#[Value.iface t v] ++ (l.map ρ).toArray).extract 1 (#[Value.iface t v] ++ (l.map ρ).toArray).size) = (l.map ρ).toArray := by
    apply Array.ext'
    simp [List.take_of_length_le]
  have e2 : (#[rv] ++ (l.map ρ).toArray) = (rv :: l.map ρ).toArray := by
    apply Array.ext'
    simp
  have h0 : (#[Value.iface t v] ++ (l.map ρ).toArray)[0]? = some (Value.iface t v) := by simp
  simp only [execOp, resolve, hx, Sem.run_bind, Sem.run_pure, Result.andThen_ok, Go.invoke, List.map_toArray, h0, e]
  rw [hm, e2]
theorem L.invoke {c : FuncId} {l : List Operand} {vs : List Value} {ts : Array TypeId} {R : Ending → World → Prop} (hg : wn ops f g = true) (hx : ev f x = .iface t v) (hm : Mtd P t v rv name c w) (hv : l.map (ev f) = vs) (hc : Calls P c (rv :: vs).toArray w R)
    (h : ∀ e w', R e w' → ∃ v, e = .returned v ∧ L P n ops Q rest (putO f d v) w') : L P n ops Q (⟨d, .call { callee := .invoke x name, args := l.toArray, argTypes := ts }, ty, pos, aft, g⟩ :: rest) f w :=
  L.enter hg (X.invoke hx hm hv) hc h
def Has (P : Program) (t : TypeId) (name : String) (c : FuncId) (ptr : Bool) : Prop := ((P.info? t).bind fun i => (i.methods.find? fun m => m.name == name).map fun m => (m.path.toList, m.func)) = some ([], some (c, ptr))
theorem Has.run {c : FuncId} {b : Bool} (h : Has P t name c b) : ∃ i m, P.info? t = some i ∧ i.methods.find? (fun m => m.name == name) = some m ∧ m.path = #[] ∧ m.func = some (c, b) := by
  unfold Has at h
  cases hi : P.info? t with
  | none => rw [hi] at h; cases h
  | some i =>
    rw [hi] at h
    simp only [Option.bind_some] at h
    cases hm : i.methods.find? (fun m => m.name == name) with
    | none => rw [hm] at h; cases h
    | some m =>
      rw [hm] at h
      simp only [Option.map_some, Option.some.injEq, Prod.mk.injEq] at h
      exact ⟨i, m, rfl, hm, by apply Array.ext'; rw [h.1], h.2⟩
theorem thn_exit {K : Fr → World → Prop} {k : Nat} (h : Q (.exit k) f w) : thn K Q (.exit k) f w := h
theorem inB_eq {k : Nat} (h : Q .normal f w) : inB k Q (.exit k) f w := by
  show (bif Nat.beq k k then Q .normal f w else Q (.exit k) f w)
  rw [show Nat.beq k k = true from Nat.beq_refl k]
  exact h
end
end Go.Proofs.YtadfopdjhbjekaaDoor.H
namespace Go.Proofs.YtadfopdjhbjekaaDoor
open Go.RowKit H
set_option linter.unusedVariables false
structure Chg (S : Nat → Prop) (w w' : World) : Prop where
  os : w'.os = w.os
  tape : w'.tape = w.tape
  output : w'.output = w.output
  size : w.heap.size ≤ w'.heap.size
  block : ∀ g, g < w.heap.size → ¬ S g → w'.heap[g]? = w.heap[g]?
theorem Chg.of_ext {S : Nat → Prop} {w w' : World} (h : Ext w w') : Chg S w w' := ⟨Below.os h, Below.tape h, Below.output h, Ext.le h, fun g hg _ => Below.block h g hg⟩
theorem Chg.of_grown {S : Nat → Prop} {w w' : World} {r : Option Nat} (h : w.grownBy w' r) (hr : ∀ g, r = some g → S g) : Chg S w w' :=
  ⟨h.os, h.tape, h.output, h.size, fun g hg hS => h.block g hg (fun e => hS (hr g e.symm))⟩
theorem Chg.trans {S S' : Nat → Prop} {a b c : World} (h : Chg S a b) (k : Chg S' b c) (hs : ∀ g, g < a.heap.size → S' g → S g) : Chg S a c :=
  ⟨k.os.trans h.os, k.tape.trans h.tape, k.output.trans h.output, Nat.le_trans h.size k.size, fun g hg hS => (k.block g (Nat.lt_of_lt_of_le hg h.size) (fun hh => hS (hs g hg hh))).trans (h.block g hg hS)⟩
theorem Chg.mono {S S' : Nat → Prop} {a b : World} (h : Chg S a b) (hs : ∀ g, S g → S' g) : Chg S' a b := ⟨h.os, h.tape, h.output, h.size, fun g hg hS => h.block g hg (fun hh => hS (hs g hh))⟩
theorem Chg.below {S : Nat → Prop} {w w' : World} {B : Nat} (h : Chg S w w') (hB : B ≤ w.heap.size) (hs : ∀ g, S g → B ≤ g) : Below B w w' :=
  ⟨h.os, h.tape, h.output, h.size, fun g hg => h.block g (by omega) (fun hh => by have := hs g hh; omega)⟩
theorem Chg.blk {S : Nat → Prop} {w w' : World} {g t : Nat} {cs : Array Value} (h : Chg S w w') (hb : Blk w g t cs) (hg : ¬ S g) : Blk w' g t cs := by
  have := h.block g hb.lt hg
  exact this.trans hb
theorem Chg.own {S : Nat → Prop} {w w' : World} {N e sz n : Nat} {x : Value} {xs : List Value} (h : Chg S w w') (ho : w.ownsRow N e sz x n xs) (hg : ∀ g, x.ownBlock = some g → ¬ S g) : w'.ownsRow N e sz x n xs := by
  refine ⟨ho.1, ?_⟩
  rcases ho.2 with h1 | ⟨b, cap, cur, rfl, hb, hh, h4⟩
  · exact .inl h1
  · exact .inr ⟨b, cap, cur, rfl, hb, (h.blk (t := e) (cs := cur) hh (hg b rfl)), h4⟩
end Go.Proofs.YtadfopdjhbjekaaDoor
namespace Go.Proofs.YtadfopdjhbjekaaDoor.H
open Go.RowKit Go.Proofs.YtadfopdjhbjekaaDoor
set_option linter.unusedSimpArgs false
set_option linter.unusedVariables false
section
variable {P : Program} {n : Nat} {ops rest l : List Oper} {Q : Exit → Fr → World → Prop} {f : Fr} {w w' : World} {d : Option Tmp} {ty : TypeId} {pos : String} {aft : Array Edge} {g : Option (Nat × Bool)} {x y z o : Operand} {v u p rv : Value} {t e tx tz : TypeId} {name : String}
theorem X.makeFn {ρ : Operand → Value} {fn : Fn} {l : List Operand} {cs : List Value} (hv : l.map ρ = cs) : (execOp ρ ⟨d, .makeFunc fn #[] l.toArray, ty, pos, aft, g⟩).run P w = .ok (.value (.func fn #[] cs.toArray)) w := by
  subst hv
  simp [execOp, Instr.makeFunc]
end
end Go.Proofs.YtadfopdjhbjekaaDoor.H
namespace Go.Proofs.YtadfopdjhbjekaaDoor.H
open Go.RowKit Go.Proofs.YtadfopdjhbjekaaDoor
set_option linter.unusedVariables false
set_option linter.unusedSimpArgs false
section
variable {P : Program} {m n : Nat} {ops rest : List Oper} {Q : Exit → Fr → World → Prop} {f : Fr} {w w' : World} {o : Oper} {v : Value}
def LI (m : Nat) (P : Program) (n : Nat) (ops : List Oper) (Q : Exit → Fr → World → Prop) (l : List Oper) (f : Fr) (w : World) : Prop :=
  l.all (fitO n) = true → ∀ a, Rep n f a → wpListIn Fence.wide m P ops.toArray (lft n Q) l a w
theorem LI.nil (h : Q .normal f w) : LI m P n ops Q [] f w := fun _ _ hr => ⟨f, hr, h⟩
theorem J.listIn {id : Nat} {l : List Oper} (h : LI m P n l Q l f w) : J P n (.region id l.toArray false) Q f w := by
  intro hf a hr
  simp only [fitC] at hf
  exact wpIn_wide.1 (wpIn_region_lit (h hf a hr))
theorem LI.val (hg : wn ops f o.guard = true) (hx : (execOp (ev f) o).run P w = .ok (.value v) w') (h : LI m P n ops Q rest (putO f o.dst v) w') : LI m P n ops Q (o :: rest) f w := by
  intro hf a hr
  simp only [List.all_cons, Bool.and_eq_true] at hf
  refine wpListIn_step fun K hK => ?_
  rw [wanted_eq hr, hg, if_pos rfl]
  refine ⟨fun _ _ => trivial, ?_⟩
  rw [Fence.wide_round, Oper.semAt_none, hr.eval, hx]
  exact hK _ _ (h hf.2 _ (hr.put v hf.1))
theorem LI.va {k : Nat} {op : Op} {ty : TypeId} {pos : String} {aft : Array Edge} {g : Option (Nat × Bool)} (hg : wn ops f g = true) (hx : (execOp (ev f) ⟨some k, op, ty, pos, aft, g⟩).run P w = .ok (.value v) w') (h : LI m P n ops Q rest (lk [(k, v)] f) w') : LI m P n ops Q (⟨some k, op, ty, pos, aft, g⟩ :: rest) f w := LI.val hg hx h
theorem LI.yield {r fn : Nat} {tmps : Array Value} {assign body : Code} {R : Ending → World → Prop} (hg : wn ops f o.guard = true) (hx : (execOp (ev f) o).run P w = .ok (.round r fn tmps assign body) w') (hR : RoundIn Fence.wide (m - 1) P r fn tmps assign body w' R)
    (h : ∀ e w'', R e w'' → ∃ v, e = .returned v ∧ LI m P n ops Q rest (putO f o.dst v) w'') : LI m P n ops Q (o :: rest) f w := by
  intro hf a hr
  simp only [List.all_cons, Bool.and_eq_true] at hf
  refine wpListIn_step fun K hK => ?_
  rw [wanted_eq hr, hg, if_pos rfl]
  refine ⟨fun _ _ => trivial, ?_⟩
  rw [Fence.wide_round, Oper.semAt_none, hr.eval, hx]
  refine ⟨by simp [Fence.wide], hR.mono fun e w'' hq => ?_⟩
  obtain ⟨v, rfl, hl⟩ := h e w'' hq
  exact hK _ _ (hl hf.2 _ (hr.put v hf.1))
theorem X.yield {ρ : Operand → Value} {d : Option Tmp} {ty : TypeId} {pos : String} {aft : Array Edge} {g : Option (Nat × Bool)} {c : Operand} {l : List Operand} {ts : Array TypeId} {vs : List Value} {r fn : Nat} {tmps : Array Value} {assign body : Code} (hfn : ρ c = .func (.yield r) #[] #[]) (hv : l.map ρ = vs)
    (hy : (Instr.yield r vs.toArray).run P w = .ok (.round r fn tmps assign body) w') : (execOp ρ ⟨d, .call { callee := .value c, args := l.toArray, argTypes := ts }, ty, pos, aft, g⟩).run P w = .ok (.round r fn tmps assign body) w' := by
  subst hv
  simp only [execOp, resolve, hfn, Deferred.ofValue, Sem.run_bind, Sem.run_pure, Result.andThen_ok, invoke, List.map_toArray, Array.append_empty, Array.empty_append]
  simp only [Go.invoke, Array.append_empty]
  exact hy
theorem wpListIn_of {r m : Nat} {ops : Array Oper} {Q : Exit → Act → World → Prop} (hQ : ¬ LetsOut Q) : ∀ (l : List Oper) (a : Act) (w : World), (∀ o ∈ l, ∀ c, o.op ≠ .defer c) → wpList P ops Q l a w → wpListIn (Fence.wide.inRound r) m P ops Q l a w
  | [], a, w, _, h => h
  | o :: rest, a, w, hd, h => by
    have ih := fun a w => wpListIn_of (r := r) (m := m) (ops := ops) hQ rest a w (fun o' ho => hd o' (by simp [ho]))
    unfold wpList at h
    unfold wpListIn
    by_cases hw : Region.wanted o (yielded ops a.tmps) = true
    · rw [if_pos hw] at h ⊢
      rcases h with h | ⟨_, h⟩
      · refine ⟨fun _ _ => trivial, ?_⟩
        rw [Fence.inRound_round, Oper.semAt_some _ _ _ (hd o (by simp))]
        unfold Oper.wp at h
        revert h
        generalize (execOp a.eval o).run P w = x
        intro h
        cases x with
        | ok v w' =>
          cases v with
          | value v => exact ih _ _ h
          | skip => exact ih _ _ h
          | defer d => exact ih _ _ h
          | enter fn args =>
            refine ⟨by simp [Fence.wide], CallsIn.inRound r (callsIn_wide.2 (Calls.mono h fun e w'' hq => ?_))⟩
            cases e with
            | returned v => exact ih _ _ hq
            | panicked chain => exact hq
            | outgrown => exact hq
          | row row args =>
            refine ⟨by simp [Fence.wide], fun c cs _ => ?_⟩
            obtain ⟨v, w'', hq, hs⟩ := h c cs
            exact ⟨v, w'', ih _ _ hq, stepsIn_wide.2 hs⟩
          | _ => exact h.elim
        | halt x w' =>
          cases x with
          | panic v => exact h
          | _ => exact h.elim
      · exact absurd h hQ
    · rw [if_neg hw] at h ⊢
      exact ⟨fun _ _ => trivial, ih _ _ h⟩
theorem rep0 {l : List Value} (hle : l.length ≤ n) : Rep n (lk (args l 0) fun _ => undef) { tmps := l.toArray ++ Array.replicate (n - l.toArray.size) undef, defers := [] } := by
  refine ⟨by simp; omega, rfl, ?_⟩
  intro j
  have key : ∀ (l : List Value) (i j : Nat), lk ((List.range' i l.length).zip l) (fun _ => undef) j = if i ≤ j then l.getD (j - i) undef else undef := by
    intro l
    induction l with
    | nil => intro i j; simp [lk]
    | cons a l ih =>
      intro i j
      simp only [List.length_cons, List.range'_succ, List.zip_cons_cons, lk]
      rw [ih (i + 1) j]
      cases hb : Nat.beq j i with
      | true =>
        have := Nat.eq_of_beq_eq_true hb
        subst this
        simp
      | false =>
        have hne : j ≠ i := fun e => by subst e; rw [Nat.beq_refl] at hb; cases hb
        by_cases hij : i + 1 ≤ j
        · rw [if_pos hij, if_pos (by omega), show j - i = (j - (i + 1)) + 1 by omega]
          simp
        · rw [if_neg hij, if_neg (by omega)]
          rfl
  show (l.toArray ++ Array.replicate (n - l.toArray.size) undef).getD j undef = _
  unfold args
  rw [key l 0 j, if_pos (Nat.zero_le _), Nat.sub_zero, Array.getD_eq_getD_getElem?, Array.getElem?_append]
  by_cases hj : j < l.length
  · simp [hj, List.getD]
  · simp only [List.size_toArray, hj, if_false, List.getD, List.getElem?_eq_none (Nat.le_of_not_lt hj)]
    rw [Array.getElem?_replicate]
    split <;> rfl
def JX (P : Program) (n : Nat) (c : Code) (K : Exit → Act → World → Prop) (f : Fr) (w : World) : Prop := ∀ a, Rep n f a → c.wp P K a w
section
variable {c x y : Code} {K : Exit → Act → World → Prop}
theorem enterM {id : FuncId} {fn : Func} {l : List Value} {R : Ending → World → Prop} (hf : P.funcs[id]? = some fn) (hb : fn.body = some c) (hk : Nat.ble l.length fn.ntmps = true)
    (h : JX P fn.ntmps c (bodyPostM Fence.wide 1 P fn R) (lk (args l 0) fun _ => undef) w) : Calls P id l.toArray w R :=
  callsIn_wide.1 (callsIn_of_wp_marks hf hb trivial (wpIn_wide.2 (h _ (rep0 (Nat.le_of_ble_eq_true hk)))) rfl)
theorem JX.seq (hx : fitC n x = true) (h : J P n x (thn (JX P n y K) fun _ _ _ => False) f w) : JX P n (.seq x y) K f w := by
  intro a hr
  refine wp_seq (wp_mono (h hx a hr) ?_)
  rintro e a' w' ⟨f', hr', hq⟩
  cases e
  case normal => exact hq a' hr'
  all_goals exact hq.elim
theorem JX.seqX (h : JX P n x (fun e a w => e = .normal ∧ y.wp P K a w) f w) : JX P n (.seq x y) K f w := by
  intro a hr
  refine wp_seq (wp_mono (h a hr) ?_)
  rintro e a' w' ⟨rfl, hq⟩
  exact hq
theorem JX.block {id : Nat} (h : JX P n c (fun e a w => e = .normal ∧ K .normal a w) f w) : JX P n (.block id c) K f w := by
  intro a hr
  refine wp_block (wp_mono (h a hr) ?_)
  rintro e a' w' ⟨rfl, hq⟩
  exact hq
theorem JX.rangeF {o : Operand} {ps : Array Tmp} {assign body : Code} {gf : Nat} {cs : List Value} (hx : ev f o = .func (.func gf) #[] cs.toArray) (he : Ent P gf)
    (h : ∀ (fn : Nat) (a : Act), Rep n f a → ∀ rec : Loop, rec = { state := .ready, pending := none, fn, tmps := a.tmps, params := ps, assign, body, defers := w.heap.size } →
      Calls P gf (#[.func (.yield (w.heap.size + 1)) #[] #[]] ++ cs.toArray) ((w.alloc (.deferred (some []))).alloc (.loop rec)) fun e w3 => (∃ v, e = .returned v) ∧ w3.heap[w.heap.size + 1]? = some (.loop rec) ∧
        K .normal { a with defers := [{ target := .collected w.heap.size, args := #[] }] } (w3.putObj (w.heap.size + 1) (.loop { rec with state := .exhausted }))) :
    JX P n (.rangeFunc o ps assign body) K f w := by
  intro a hr
  refine wpIn_wide.1 (wpIn_rangeFunc (n := 1) ?_)
  intro fn _
  obtain ⟨rec, hrec⟩ : ∃ rec : Loop, rec = { state := .ready, pending := none, fn, tmps := a.tmps, params := ps, assign, body, defers := w.heap.size } := ⟨_, rfl⟩
  have h1 : (Instr.enterLoop fn a.tmps ps assign body Fence.wide.round).run P w = .ok (w.heap.size + 1, [{ target := .collected w.heap.size, args := #[] }]) ((w.alloc (.deferred (some []))).alloc (.loop rec)) := by
    rw [hrec, Fence.wide_round]
    exact run_enterLoop_outer _ _ _ _ _
  have h2 : ∀ W : World, (resolve a.eval (rangeCall o (w.heap.size + 1)) 0).run P W = .ok { target := .fn (.func gf) cs.toArray, args := #[.func (.yield (w.heap.size + 1)) #[] #[]] } W := fun W => by
    rw [hr.eval]
    simp only [resolve, hx]
    simp [go_sem, ev]
  have h3 : ∀ W : World, (Go.invoke (.fn (.func gf) cs.toArray) #[.func (.yield (w.heap.size + 1)) #[] #[]]).run P W = .ok (.enter gf (#[.func (.yield (w.heap.size + 1)) #[] #[]] ++ cs.toArray)) W := fun W => by
    simp only [Go.invoke, he.run]
  have h4 := h fn a hr rec hrec
  refine ⟨_, _, _, _, _, gf, _, _, h1, h2 _, fun _ _ => trivial, h3 _, fun h => by simp [Fence.wide] at h, callsIn_wide.2 (h4.mono ?_)⟩
  rintro e w3 ⟨⟨v, rfl⟩, hl, hk⟩
  have h5 := run_endLoop (P := P) hl (by rw [hrec]; simp)
  have h6 : rec.pending = none := by rw [hrec]
  refine ⟨none, w3.putObj (w.heap.size + 1) (.loop { rec with state := .exhausted }), h5.trans (congrArg (fun j => Result.ok j _) h6), ?_⟩
  show K .normal { tmps := a.tmps, defers := [{ target := .collected w.heap.size, args := #[] }] ++ a.defers } _
  rw [hr.defers]
  exact hk
theorem wpQuiet_dfr {C : World → Prop} {ops : Array Oper} {D : List Deferred} {Q : Act → Prop} : ∀ (l : List Oper) (a : Act), wpQuiet P ops C Q l a → wpQuiet P ops C (fun a' => ∃ a0, Q a0 ∧ a' = { a0 with defers := D }) l { a with defers := D }
  | [], a, h => ⟨a, h, rfl⟩
  | o :: rest, a, h => by
    have ev_ : Act.eval { a with defers := D } = a.eval := by
      funext x
      cases x <;> rfl
    have put_ : ∀ v, Act.put { a with defers := D } o.dst v = { a.put o.dst v with defers := D } := fun v => by
      cases o.dst <;> rfl
    unfold wpQuiet at h ⊢
    show if Region.wanted o (yielded ops a.tmps) then _ else _
    by_cases hw : Region.wanted o (yielded ops a.tmps) = true
    · rw [if_pos hw] at h ⊢
      obtain ⟨v, h1, h2⟩ := h
      refine ⟨v, fun w' hw' => ?_, ?_⟩
      · have := h1 w' hw'
        unfold Oper.quietAt at this ⊢
        rw [ev_]
        exact this
      · rw [put_]
        exact wpQuiet_dfr rest _ h2
    · rw [if_neg hw] at h ⊢
      rw [put_]
      exact wpQuiet_dfr rest _ h
theorem tailM {fn : Func} {R : Ending → World → Prop} {D id : Nat} {l : List Oper} {a : Act} (hr : Rep n f a) (hm : P.follows .mixedOrders = true) (hB : Region.lexB .any l.toArray = true) (hfit : l.all (fitO n) = true)
    (hD : w.heap[D]? = some (.deferred (some [])))
    (hq : Qt P n l (Ext w) (fun f' => ∀ w', Ext w w' → fin P fn.results R .ret f' (w'.putObj D (.deferred none))) l f) :
    (Code.seq (.region id l.toArray true) .ret).wp P (bodyPostM Fence.wide 1 P fn R) { a with defers := [{ target := .collected D, args := #[] }] } w := by
  refine wp_seq (wp_region_quiet (C := Ext w) hm hB (Ext.drew w) (wpQuiet_mono ?_ (wpQuiet_dfr l a (hq hfit a hr))))
  rintro a' ⟨a0, ⟨f', hr', hf⟩, rfl⟩ w' hw'
  refine wp_ret ?_
  obtain ⟨v, hv, hR⟩ := hf w' hw'
  have hD' : w'.heap[D]? = some (.deferred (some [])) := (hw'.block D (Array.getElem?_eq_some_iff.1 hD).1).trans hD
  refine ⟨by simp, .inl ⟨D, _, rfl, run_takeDeferred hD', ?_⟩⟩
  exact ⟨v, by rw [results_eq hr']; exact hv, hR⟩
end
def JI (r m : Nat) (P : Program) (n : Nat) (c : Code) (Q : Exit → Fr → World → Prop) (f : Fr) (w : World) : Prop :=
  fitC n c = true → ∀ a, Rep n f a → c.wpIn (Fence.wide.inRound r) m P (lft n Q) a w
section
variable {r : Nat} {c x y : Code}
theorem JI.seq (h : JI r m P n x (thn (JI r m P n y Q) Q) f w) : JI r m P n (.seq x y) Q f w := by
  intro hf a hr
  simp only [fitC, Bool.and_eq_true] at hf
  refine wpIn_seq (wpIn_mono (h hf.1 a hr) ?_)
  rintro e a' w' ⟨f', hr', hq⟩
  cases e
  case normal => exact hq hf.2 a' hr'
  all_goals exact ⟨f', hr', hq⟩
theorem JI.block {id : Nat} (h : JI r m P n c (fun e f w => e = .normal ∧ Q .normal f w) f w) : JI r m P n (.block id c) Q f w := by
  intro hf a hr
  simp only [fitC] at hf
  refine wpIn_block (wpIn_mono (h hf a hr) ?_)
  rintro e a' w' ⟨f', hr', rfl, hq⟩
  exact ⟨f', hr', hq⟩
def noDf (o : Oper) : Bool := match o.op with
  | .defer _ => false
  | _ => true
theorem JI.region {id : Nat} {l : List Oper} (hnd : l.all noDf = true) (hQ : ∀ f w, ¬ Q .outgrown f w) (h : L P n l Q l f w) : JI r m P n (.region id l.toArray false) Q f w := by
  intro hf a hr
  simp only [fitC] at hf
  refine wpIn_region_lit (wpListIn_of ?_ _ _ _ (fun o ho c e => ?_) (h hf a hr))
  · rintro ⟨a', w', f', _, hq⟩
    exact hQ f' w' hq
  · have := List.all_eq_true.1 hnd o ho
    unfold noDf at this
    rw [e] at this
    cases this
theorem round_of {assign body : Code} {a : Act} {fn : Nat} {R : Ending → World → Prop} (hr : Rep n f a) (hf1 : fitC n assign = true) (hf2 : fitC n body = true)
    (h : JI r m P n assign (fun e f' w' => e = .normal ∧ ∃ w2, (Instr.beginRound r).run P w' = .ok () w2 ∧ JI r m P n body (fun e f3 w3 => e = .normal ∧ ∃ v w4, (Instr.endRound r none).run P w3 = .ok v w4 ∧ R (.returned v) w4) f' w2) f w) :
    RoundIn Fence.wide m P r fn a.tmps assign body w R := by
  refine roundIn_of_wpIn trivial ?_
  have ha : ({ tmps := a.tmps, defers := [] } : Act) = a := by
    have := hr.defers
    cases a
    cases this
    rfl
  rw [ha]
  refine wpIn_mono (h hf1 a hr) ?_
  rintro e a' w' ⟨f', hr', rfl, w2, hb, hj⟩
  refine ⟨w2, hb, wpIn_mono (hj hf2 a' hr') ?_⟩
  rintro e a3 w3 ⟨f3, hr3, rfl, v, w4, he, hR⟩
  exact ⟨v, w4, he, hR⟩
end
end
end Go.Proofs.YtadfopdjhbjekaaDoor.H
namespace Go.Proofs.YtadfopdjhbjekaaDoor.H
open Go.RowKit Go.Proofs.YtadfopdjhbjekaaDoor
theorem mixed : Tryd.prog.follows .mixedOrders = true := by kernel_rfl
theorem sc_3 : Scal Tryd.prog 3 := Scal.of Tryd.underlying3 rfl
theorem sz_3 : Siz Tryd.prog 3 1 := Siz.of (by kernel_rfl)
theorem zr_3 : Zer Tryd.prog 3 [.int .i64 (0)] := Zer.of (by kernel_rfl)
theorem sc_5 : Scal Tryd.prog 5 := Scal.of Tryd.underlying5 rfl
theorem is_5 : (Tryd.prog.underlying 5).isSome = true := by rw [Tryd.underlying5]; rfl
theorem sz_5 : Siz Tryd.prog 5 1 := Siz.of (by kernel_rfl)
theorem zr_5 : Zer Tryd.prog 5 [.int .u8 (0)] := Zer.of (by kernel_rfl)
theorem el_5 : Elm Tryd.prog 5 (.int .u8 (0)) 1 1 := Elm.of (by kernel_rfl) rfl (by decide)
theorem sc_22 : Scal Tryd.prog 22 := Scal.of Tryd.underlying22 rfl
theorem sz_22 : Siz Tryd.prog 22 1 := Siz.of (by kernel_rfl)
theorem zr_22 : Zer Tryd.prog 22 [.slice none 0 0] := Zer.of (by kernel_rfl)
theorem el_22 : Elm Tryd.prog 22 (.slice none 0 0) 1 24 := Elm.of (by kernel_rfl) rfl (by decide)
theorem sc_24 : Scal Tryd.prog 24 := Scal.of Tryd.underlying24 rfl
theorem sz_24 : Siz Tryd.prog 24 1 := Siz.of (by kernel_rfl)
theorem zr_24 : Zer Tryd.prog 24 [.int .i64 (0)] := Zer.of (by kernel_rfl)
theorem sc_29 : Scal Tryd.prog 29 := Scal.of Tryd.underlying29 rfl
theorem sz_29 : Siz Tryd.prog 29 1 := Siz.of (by kernel_rfl)
theorem zr_29 : Zer Tryd.prog 29 [.slice none 0 0] := Zer.of (by kernel_rfl)
theorem sc_102 : Scal Tryd.prog 102 := Scal.of Tryd.underlying102 rfl
theorem en_8 : Ent Tryd.prog 8 := by unfold Ent; kernel_rfl
theorem en_9 : Ent Tryd.prog 9 := by unfold Ent; kernel_rfl
theorem en_10 : Ent Tryd.prog 10 := by unfold Ent; kernel_rfl
theorem en_11 : Ent Tryd.prog 11 := by unfold Ent; kernel_rfl
theorem en_12 : Ent Tryd.prog 12 := by unfold Ent; kernel_rfl
theorem en_45 : Ent Tryd.prog 45 := by unfold Ent; kernel_rfl
theorem en_46 : Ent Tryd.prog 46 := by unfold Ent; kernel_rfl
theorem en_68 : Ent Tryd.prog 68 := by unfold Ent; kernel_rfl
end Go.Proofs.YtadfopdjhbjekaaDoor.H
namespace Go.Proofs.YtadfopdjhbjekaaDoor
open Go.RowKit H
open Mk
set_option linter.unusedVariables false
namespace H
end H
end Go.Proofs.YtadfopdjhbjekaaDoor
namespace Go.Proofs.YtadfopdjhbjekaaDoor
open Go.RowKit
section
variable {X : Type} {f : X → List Value} {sz : Nat}
end
end Go.Proofs.YtadfopdjhbjekaaDoor
namespace Go.Proofs.YtadfopdjhbjekaaDoor
set_option maxRecDepth 100000
open Go.RowKit H
set_option linter.unusedVariables false
namespace H
section
variable {P : Program} {w : World} {d : Option Tmp} {ty t tx tz t1 t2 : TypeId} {pos : String} {aft : Array Edge} {g : Option (Nat × Bool)} {x y : Operand} {ρ : Operand → Value}
structure Two (P : Program) (t t1 t2 : TypeId) : Prop where
  ht : P.underlying t = some (.struct (P.fieldsOf t))
  hp : P.stoodInHeld t = false
  hm : P.eqGuardType P.depth t = false
  hf : (P.fieldsOf t).toList.map (fun f => (f.name != "_", f.type, f.offset)) = [(true, t1, 0), (true, t2, 1)]
end
end H
end Go.Proofs.YtadfopdjhbjekaaDoor
namespace Go.Proofs.YtadfopdjhbjekaaDoor
set_option maxRecDepth 100000
open Go.RowKit H
open Go.MapKept Go.ChangeMaps Go.WideMaps
set_option linter.unusedVariables false
namespace H
section
variable {P : Program} {k e t : TypeId} {w w' : World} {b n : Nat} {f : ByteArray → Option Int}
def MapSI (P : Program) (k e : TypeId) (w : World) (b n : Nat) (f : ByteArray → Option Int) : Prop :=
  ∃ D : DataW Unit, w.ownsMap P k (plainElem P e) b n D ∧ ∀ s : ByteArray, s.size ≤ maxLen → Maps.has D (.string s.data.toList) = (f s).isSome ∧ D.atKey (.string s.data.toList) (.lit (.int .i64 0)) = .lit (.int .i64 ((f s).getD 0))
theorem MapSI.kept {row : Option Nat} (h : MapSI P k e w b n f) (hg : w.grownBy w' row) (hne : some b ≠ row) : MapSI P k e w' b n f := by
  obtain ⟨D, h1, h2⟩ := h
  exact ⟨D, h1.kept hg hne, h2⟩
theorem MapSI.ext (h : MapSI P k e w b n f) (he : Ext w w') : MapSI P k e w' b n f :=
  h.kept (row := none) ⟨Below.os he, Below.tape he, Below.output he, Ext.le he, fun i hi _ => Below.block he i hi⟩ (by simp)
theorem MapSI.lt (h : MapSI P k e w b n f) : b < w.heap.size := by
  obtain ⟨D, h1, _⟩ := h
  exact h1.lt
theorem MapSI.put (h : MapSI P k e w b n f) (ht : P.underlying t = some (.map k e)) (hk : P.underlying k = some .string) (he : P.underlying e = some (.int .i64)) (hn : n < maxLen) {s : ByteArray} (hs : s.size ≤ maxLen) {v : Int} (hv : (Lit.int .i64 v).wf = true) :
    ∃ w', (Instr.mapUpdate t (.map (some b)) (.string s) (.int .i64 v)).run P w = .ok () w' ∧ MapSI P k e w' b (n + 1) (fun x => if x = s then some v else f x) ∧ w.grownBy w' (some b) := by
  obtain ⟨D, h1, h2⟩ := h
  have hkey := keyOf_string_mk (P := P) hk hs
  obtain ⟨w', hrun, r1, r2⟩ := h1.update (Maps.string_keyed hk) ht hn hkey (plainElem_int he hv)
  refine ⟨w', hrun, ⟨_, r1, fun x hx => ?_⟩, r2⟩
  by_cases hxs : x = s
  · subst hxs
    rw [Maps.has_put_same h1.isMap ((Maps.string_keyed hk).key hkey), Maps.atKey_put_same h1.isMap ((Maps.string_keyed hk).key hkey)]
    simp
  · have hne : Lit.string x.data.toList ≠ Lit.string s.data.toList := by
      intro hh
      injection hh with hh
      apply hxs
      cases x; cases s
      simp only at hh
      rw [Array.toList_inj.1 hh]
    rw [Maps.has_put_other hne, Maps.atKey_put_other hne]
    simp only [if_neg hxs]
    exact h2 x hx
variable {nn : Nat} {Q : Exit → Fr → World → Prop} {ops rest : List Oper} {fr : Fr} {ty : TypeId} {pos : String} {aft : Array Edge} {d : Option Tmp} {g : Option (Nat × Bool)}
end
end H
namespace H
end H
end Go.Proofs.YtadfopdjhbjekaaDoor
namespace Go.Proofs.YtadfopdjhbjekaaDoor
set_option maxRecDepth 100000
open Go.RowKit H
open Byts Fram
set_option linter.unusedVariables false
structure Bo where
  A : Option Addr
  c : Nat
  l : List Int
def Bo.v (b : Bo) : Value := .slice b.A b.l.length b.c
theorem own_low {w : World} {base base' e sz n : Nat} {v : Value} {xs : List Value} (h : w.ownsRow base e sz v n xs) (hb : base' ≤ base) : w.ownsRow base' e sz v n xs := by
  refine ⟨h.1, ?_⟩
  rcases h.2 with h1 | ⟨b, cap, cur, h1, h2, h3⟩
  · exact .inl h1
  · exact .inr ⟨b, cap, cur, h1, Nat.le_trans hb h2, h3⟩
theorem frames_ (A : Option Addr) (n c : Nat) (y : Nat) (w : World) : Calls Tryd.prog 46 #[.slice A n c, .pointer (some ⟨y, 0, none⟩)] w fun e w' =>
    ∃ b1 b2, e = .returned (.func (.func 68) #[] #[.pointer (some ⟨b1, 0, none⟩), .pointer (some ⟨b2, 0, none⟩)]) ∧ w.heap.size ≤ b1 ∧ w.heap.size ≤ b2 ∧ Blk w' b1 22 #[.slice A n c] ∧ Blk w' b2 102 #[.pointer (some ⟨y, 0, none⟩)] ∧ Ext w w' := by
  refine enter Tryd.func46 rfl (by kernel_rfl) ?_
  refine J.seq ?_
  refine J.region ?_
  refine L.box rfl (by conv => lhs; whnf) ?_
  intro b1 w1 hb1 hs1 hk1 he1
  refine L.box rfl (by conv => lhs; whnf) ?_
  intro b2 w2 hb2 hs2 hk2 he2
  refine L.va rfl (X.assign (by conv => lhs; whnf)) ?_
  refine L.nil ?_
  refine J.seq ?_
  refine J.region ?_
  refine L.va rfl (X.makeFn rfl) ?_
  refine L.va rfl (X.assign (by conv => lhs; whnf)) ?_
  refine L.nil ?_
  refine J.ret ?_
  refine fin1 ?_
  exact ⟨b1, b2, rfl, by omega, by omega, hk1.ext he2, hk2, he1.trans he2⟩
theorem frames1 (l b1 b2 y : Nat) (A : Option Addr) (n c N : Nat) (zs : List Int) (w0 : World) (Inv : Nat → List Bo → World → Prop) (Fin : Nat → List Bo → Int → World → Prop)
    (ht : Tab w0) (hN : N = w0.heap.size) (hr : Reads w0 N 1 A n (nums .u8 zs)) (hz : ∀ z ∈ zs, 0 ≤ z ∧ z < 256) (hnc : n ≤ c) (hc0 : c ≤ 9223372036854775807)
    (hI : ∀ p bs W, Inv p bs W → Below N w0 W ∧ Blk W b1 22 #[.slice A n c] ∧ Blk W b2 102 #[.pointer (some ⟨y, 0, none⟩)] ∧ Blk W y 24 #[.int .i64 0])
    (hE : ∀ p bs W W', Inv p bs W → Ext W W' → Inv p bs W')
    (hY : ∀ p bs W b, Inv p bs W → W.ownsRow N 5 1 b.v b.l.length (nums .u8 b.l) → p < n → gE smZ (zs.drop p) = 0 → b.l = gB smZ (zs.drop p) →
      ∃ fn tmps assign body, (Instr.yield l #[.int .i64 ((p + gStep (zs.drop p) : Nat) : Int), b.v]).run Tryd.prog W = .ok (.round l fn tmps assign body) W ∧ RoundIn Fence.wide (1 - 1) Tryd.prog l fn tmps assign body W fun e W' => e = .returned (.bool true) ∧ Inv (p + gStep (zs.drop p)) (bs ++ [b]) W')
    (hS : ∀ p bs W W' e, Inv p bs W → Blk W' y 24 #[.int .i64 e] → W.grownBy W' (some y) → p < n → gE smZ (zs.drop p) = e → e ≠ 0 → Fin p bs e W')
    (hF : ∀ p bs W, Inv p bs W → n ≤ p → Fin p bs 0 W)
    (w : World) (h0 : Inv 0 [] w) :
    Calls Tryd.prog 68 #[.func (.yield l) #[] #[], .pointer (some ⟨b1, 0, none⟩), .pointer (some ⟨b2, 0, none⟩)] w fun e w' => e = .returned (.tuple #[]) ∧ ∃ p bs e', Fin p bs e' w' := by
  have hl : zs.length = n := by have := hr.1; simpa [nums] using this
  refine enter Tryd.func68 rfl (by kernel_rfl) ?_
  refine J.seq ?_
  refine J.region ?_
  refine L.va rfl (X.assign (by conv => lhs; whnf)) ?_
  refine L.nil ?_
  refine J.block ?_
  refine J.loop (X := Nat × List Bo) [4, 5, 6, 7, 8, 9, 10, 11, 12, 13, 14, 15, 16, 17, 18, 19, 20, 21, 22, 23, 24, 25, 26, 27, 28, 29, 30, 31, 32] (fun (p, bs) => [(4, .int .i64 (p : Int))]) (fun (p, bs) w' => p ≤ n ∧ Inv p bs w') (fun (p, _) => n - p) ((0, [])) (At1 (by first | rfl | exact at_int rfl (by omega) | exact at_slice rfl (by omega) | exact at_int rfl (by simp))) ?_ ?_
  · exact ⟨Nat.zero_le _, h0⟩
  · rintro ⟨p, bs⟩ g w2 ⟨hp, hI2⟩
    obtain ⟨hB2, k1, k2, ky⟩ := hI p bs w2 hI2
    refine J.seq ?_
    refine J.seq ?_
    refine J.region ?_
    refine L.va rfl (X.move (by conv => lhs; whnf)) ?_
    refine L.va rfl (X.load rfl sc_22 (by first | exact Ld.blk k1 rfl | exact Ld.blk k2 rfl)) ?_
    refine L.va rfl (X.len rfl Tryd.underlying22) ?_
    refine L.va rfl (X.lss rfl rfl) ?_
    refine L.nil ?_
    refine J.dec rfl (fun hlt => ?_) (fun hlt => ?_)
    · have hlt : p < n := by omega
      have hr2 := hr.below hB2
      have ht2 := ht.below hB2 (by omega)
      have hsz := hB2.size
      have hr3 := part_nums hr2 (i := p) (j := n) (by omega) (Nat.le_refl _) hnc
      rw [List.take_of_length_le (by rw [List.length_drop]; omega)] at hr3
      refine J.skip ?_
      refine J.block ?_
      refine J.seq ?_
      refine J.region ?_
      refine L.va rfl (X.load rfl sc_22 (by first | exact Ld.blk k1 rfl | exact Ld.blk k2 rfl)) ?_
      refine L.va rfl (X.move (by conv => lhs; whnf)) ?_
      refine L.va rfl ((by first | exact X.sliceFromn rfl rfl Tryd.underlying22 sz_5 (by omega) | exact X.sliceFrom rfl rfl Tryd.underlying22 sz_5 (by omega))) ?_
      refine L.call rfl en_9 rfl (fgetO_any _ (n - p) (c - p) (zs.drop p) w2 ht2 (hr3.more (by omega)) (fun z h ↦ hz z (List.mem_of_mem_drop h)) (by omega) (by omega)) ?_
      rintro e w4 ⟨A4, c4, rfl, ho4, hb4⟩
      refine ⟨_, rfl, ?_⟩
      have hI4 := hE p bs w2 w4 hI2 hb4
      obtain ⟨hB4, k41, k42, ky4⟩ := hI p bs w4 hI4
      refine L.va rfl (X.move (by conv => lhs; whnf)) ?_
      refine L.va rfl (X.extract rfl rfl) ?_
      refine L.va rfl (X.extract rfl rfl) ?_
      refine L.va rfl (X.extract rfl rfl) ?_
      refine L.va rfl (X.assign (by conv => lhs; whnf)) ?_
      refine L.va rfl (X.assign (by conv => lhs; whnf)) ?_
      refine L.va rfl (X.assign (by conv => lhs; whnf)) ?_
      refine L.nil ?_
      refine J.seq ?_
      refine J.seq ?_
      refine J.region ?_
      refine L.va rfl (X.move (by conv => lhs; whnf)) ?_
      refine L.va rfl (X.neq rfl rfl) ?_
      refine L.nil ?_
      refine J.ndec rfl (fun hbad => ?_) (fun hbad => ?_)
      · skip
        refine J.seq ?_
        refine J.region ?_
        refine L.va rfl (X.load rfl sc_102 (by first | exact Ld.blk k41 rfl | exact Ld.blk k42 rfl | exact Ld.blk ky4 rfl)) ?_
        refine L.va rfl (X.move (by conv => lhs; whnf)) ?_
        refine L.va rfl (X.nilCheck rfl) ?_
        refine L.store rfl rfl (by conv => lhs; whnf) rfl sz_24 (ky4) (by first | decide | exact Nat.le_of_ble_eq_true rfl) ?_
        intro w5 hk5 hg5 hs5
        refine L.nil ?_
        refine J.ret ?_
        refine thn_ret <|  inB_ret <|  thn_ret <|  inB_ret <| ?_
        refine fin0 (.inl rfl) ?_
        exact ⟨rfl, p, bs, _, hS p bs w4 w5 _ hI4 hk5 hg5 hlt rfl hbad⟩
      · have hok : gE smZ (zs.drop p) = 0 := hbad
        obtain ⟨h8, hle, hst⟩ := gN_ok (fun z h => hz z (List.mem_of_mem_drop h)) hok
        rw [List.length_drop] at hle
        rw [← hst]
        obtain ⟨fn, tmps, asn, bdy, hy, hR⟩ := hY p bs w4 ⟨A4, c4, gB smZ (zs.drop p)⟩ hI4 (own_low ho4 (by omega)) hlt hok rfl
        refine J.skip ?_
        refine J.seq ?_
        refine J.region ?_
        refine L.va rfl (X.move (by conv => lhs; whnf)) ?_
        refine L.va rfl (X.move (by conv => lhs; whnf)) ?_
        refine L.va rfl (X.add rfl rfl (by omega)) ?_
        refine L.va rfl (X.assign (by conv => lhs; whnf)) ?_
        refine L.nil ?_
        refine J.seq ?_
        refine J.listIn (m := 1) ?_
        refine LI.va rfl (X.move (by conv => lhs; whnf)) ?_
        refine LI.va rfl (X.move (by conv => lhs; whnf)) ?_
        refine LI.va rfl (X.move (by conv => lhs; whnf)) ?_
        refine LI.yield rfl (X.yield rfl rfl (hy)) (hR) ?_
        rintro e w5 ⟨rfl, hI5⟩
        refine ⟨_, rfl, ?_⟩
        refine LI.va rfl (X.not rfl) ?_
        refine LI.nil ?_
        refine J.iteF rfl ?_
        refine J.skip ?_
        refine ⟨(p + gStep (zs.drop p), bs ++ [⟨A4, c4, gB smZ (zs.drop p)⟩]), At1 (by first | rfl | exact at_int rfl (by omega) | exact at_slice rfl (by omega) | exact at_int rfl (by simp)), (by (iterate 26 refine Agr.lk rfl ?_); exact Agr.lk rfl (Agr.hav rfl Agr.rfl')), ?_⟩
        exact ⟨⟨by omega, hI5⟩, by show n - (p + gStep (zs.drop p)) < n - p; omega⟩
    · refine J.exit ?_
      refine thn_exit <| thn_exit <| inB_eq ?_
      refine fin0 (.inr rfl) ?_
      exact ⟨rfl, p, bs, 0, hF p bs w2 hI2 (by omega)⟩
end Go.Proofs.YtadfopdjhbjekaaDoor
namespace Go.Proofs.YtadfopdjhbjekaaDoor
set_option maxRecDepth 100000
open Go.RowKit H
open Byts Fram
set_option linter.unusedVariables false
structure FrJ (N M l D b1 b2 y : Nat) (A : Option Addr) (n c : Nat) (rec : Loop) (w0 : World) (er : Int) (bs : List Bo) (W : World) : Prop where
  bel : Below N w0 W
  lp : W.heap[l]? = some (.loop rec)
  df : W.heap[D]? = some (.deferred (some []))
  k1 : Blk W b1 22 #[.slice A n c]
  k2 : Blk W b2 102 #[.pointer (some ⟨y, 0, none⟩)]
  ky : Blk W y 24 #[.int .i64 er]
  el : ∀ b ∈ bs, W.ownsRow N 5 1 b.v b.l.length (nums .u8 b.l)
  lt : b1 < M
theorem blk_put {W : World} {b l t : Nat} {cs : Array Value} {o : Loop} (h : Blk W b t cs) (hl : W.heap[l]? = some (.loop o)) (o' : Obj) : Blk (W.putObj l o') b t cs := by
  have hne : b ≠ l := fun e => by
    subst e
    have h2 : W.heap[b]? = some (.cells cs t (0, 0)) := h
    rw [hl] at h2
    cases h2
  exact (World.putObj_heap_other hne).trans h
theorem blk_one {W : World} {g t t' : Nat} {cs cs' : Array Value} (h : Blk W g t cs) (h' : Blk W g t' cs') : t = t' := by
  have h1 : W.heap[g]? = some (.cells cs t (0, 0)) := h
  have h2 : W.heap[g]? = some (.cells cs' t' (0, 0)) := h'
  rw [h1] at h2
  injection h2 with h2
  injection h2
theorem own_blk {w : World} {base e size n : Nat} {v : Value} {xs : List Value} (h : w.ownsRow base e size v n xs) {g : Nat} (hg : v.ownBlock = some g) : (∃ cs, Blk w g e cs) ∧ base ≤ g := by
  rcases h.2 with ⟨rfl, _⟩ | ⟨b, cap, cur, rfl, hb, hh, _⟩
  · cases hg
  · obtain rfl : b = g := by injection hg
    exact ⟨⟨cur, hh⟩, hb⟩
section
variable {N M l D b1 b2 y : Nat} {A : Option Addr} {n c : Nat} {rec : Loop} {w0 : World} {er : Int} {bs : List Bo} {W W' : World} {S : Nat → Prop}
theorem FrJ.chg (h : FrJ N M l D b1 b2 y A n c rec w0 er bs W) (hC : Chg S W W') (hN : N ≤ W.heap.size) (h1 : ∀ g, S g → N ≤ g)
    (h2 : ∀ g, S g → ∃ t cs, Blk W g t cs ∧ t ≠ 5 ∧ t ≠ 102 ∧ t ≠ 24 ∧ g ≠ b1) : FrJ N M l D b1 b2 y A n c rec w0 er bs W' := by
  have nl : ∀ g (o : Obj), W.heap[g]? = some o → (∀ cs t, o ≠ .cells cs t (0, 0)) → W'.heap[g]? = some o := fun g o hg ho => by
    refine (hC.block g (Array.getElem?_eq_some_iff.1 hg).1 fun hS => ?_).trans hg
    obtain ⟨t, cs, hb, _⟩ := h2 g hS
    have hb : W.heap[g]? = some (.cells cs t (0, 0)) := hb
    rw [hg] at hb
    exact ho cs t (Option.some.inj hb)
  refine ⟨h.bel.trans (hC.below hN h1), nl _ _ h.lp (fun _ _ e => by cases e), nl _ _ h.df (fun _ _ e => by cases e), hC.blk h.k1 fun hS => ?_, hC.blk h.k2 fun hS => ?_, hC.blk h.ky fun hS => ?_, fun b hb => hC.own (h.el b hb) fun g hg hS => ?_, h.lt⟩
  · obtain ⟨t, cs, _, _, _, _, hne⟩ := h2 _ hS
    exact hne rfl
  · obtain ⟨t, cs, hb, _, hne, _⟩ := h2 _ hS
    exact hne (blk_one hb h.k2)
  · obtain ⟨t, cs, hb, _, _, hne, _⟩ := h2 _ hS
    exact hne (blk_one hb h.ky)
  · obtain ⟨t, cs, hb', hne, _⟩ := h2 _ hS
    obtain ⟨⟨cs', h5⟩, _⟩ := own_blk (h.el b hb) hg
    exact hne (blk_one hb' h5)
theorem FrJ.ext (h : FrJ N M l D b1 b2 y A n c rec w0 er bs W) (he : Ext W W') (hN : N ≤ W.heap.size) : FrJ N M l D b1 b2 y A n c rec w0 er bs W' :=
  h.chg (S := fun _ => False) (Chg.of_ext he) hN (fun _ h => h.elim) (fun _ h => h.elim)
theorem FrJ.put (h : FrJ N M l D b1 b2 y A n c rec w0 er bs W) (hN : N ≤ l) (hD : D ≠ l) (rec' : Loop) : FrJ N M l D b1 b2 y A n c rec' w0 er bs (W.putObj l (.loop rec')) := by
  have hlt := (Array.getElem?_eq_some_iff.1 h.lp).1
  refine ⟨?_, World.putObj_heap_same hlt, (World.putObj_heap_other hD).trans h.df, blk_put h.k1 h.lp _, blk_put h.k2 h.lp _, blk_put h.ky h.lp _, fun b hb => ownsRow_putObj (h.el b hb) _ h.lp rfl, h.lt⟩
  exact h.bel.trans (Chg.below (S := fun g => g = l) (Chg.of_grown (grownBy_putObj' W l _) fun g e => by injection e with e; exact e.symm) (by omega) (fun g e => by omega))
theorem FrJ.snoc (h : FrJ N M l D b1 b2 y A n c rec w0 er bs W) {b : Bo} (hb : W.ownsRow N 5 1 b.v b.l.length (nums .u8 b.l)) : FrJ N M l D b1 b2 y A n c rec w0 er (bs ++ [b]) W :=
  ⟨h.bel, h.lp, h.df, h.k1, h.k2, h.ky, fun b' hb' => by
    rcases List.mem_append.1 hb' with h1 | h1
    · exact h.el b' h1
    · rw [List.mem_singleton] at h1
      rw [h1]
      exact hb, h.lt⟩
structure FrK (M bo bu p : Nat) (bs : List Bo) (W : World) : Prop where
  ku : Blk W bu 3 #[.int .i64 (p : Int)]
  ro : ∃ Ao co, Blk W bo 29 #[.slice Ao bs.length co] ∧ W.ownsRow M 22 1 (.slice Ao bs.length co) bs.length (bs.map Bo.v)
theorem FrK.chg {bo bu p : Nat} (h : FrK M bo bu p bs W) (hC : Chg S W W') (h2 : ∀ g, S g → ∀ t cs, Blk W g t cs → t ≠ 3 ∧ t ≠ 29 ∧ t ≠ 22) : FrK M bo bu p bs W' := by
  obtain ⟨Ao, co, r1, r2⟩ := h.ro
  refine ⟨hC.blk h.ku fun hS => (h2 _ hS _ _ h.ku).1 rfl, Ao, co, hC.blk r1 fun hS => (h2 _ hS _ _ r1).2.1 rfl, hC.own r2 fun g hg hS => ?_⟩
  obtain ⟨⟨cs, h5⟩, _⟩ := own_blk r2 hg
  exact (h2 _ hS _ _ h5).2.2 rfl
theorem FrK.ext {bo bu p : Nat} (h : FrK M bo bu p bs W) (he : Ext W W') : FrK M bo bu p bs W' := h.chg (S := fun _ => False) (Chg.of_ext he) (fun _ h => h.elim)
theorem FrK.put {bo bu p : Nat} (h : FrK M bo bu p bs W) (hl : W.heap[l]? = some (.loop rec)) (rec' : Loop) : FrK M bo bu p bs (W.putObj l (.loop rec')) := by
  obtain ⟨Ao, co, r1, r2⟩ := h.ro
  exact ⟨blk_put h.ku hl _, Ao, co, blk_put r1 hl _, ownsRow_putObj r2 _ hl rfl⟩
end
theorem fold2 (T : Array Value) (v u : Value) : ((#[12, 13] : Array Tmp).zip #[v, u]).foldl (fun tmps (t, a) => tmps.setIfInBounds t a) T = (T.setIfInBounds 12 v).setIfInBounds 13 u := by
  simp
theorem fall (A : Option Addr) (n c : Nat) (zs : List Int) (w : World) (ht : Tab w) (hr : Reads w w.heap.size 1 A n (nums .u8 zs)) (hz : ∀ z ∈ zs, 0 ≤ z ∧ z < 256) (hnc : n ≤ c) (hc0 : c ≤ 9223372036854775807) (hn : n ≤ 1000000) :
    Calls Tryd.prog 11 #[.slice A n c] w fun e w' => ∃ Ao co bs p er, e = .returned (.tuple #[.slice Ao (bs : List Bo).length co, .int .i64 ((p : Nat) : Int), .int .i64 er]) ∧ allF zs 0 = (bs.map Bo.l, p, er) ∧
      w'.ownsRow w.heap.size 22 1 (.slice Ao bs.length co) bs.length (bs.map Bo.v) ∧ (∀ b ∈ bs, w'.ownsRow w.heap.size 5 1 b.v b.l.length (nums .u8 b.l)) ∧ Below w.heap.size w w' := by
  have hl : zs.length = n := by have := hr.1; simpa [nums] using this
  refine enterM Tryd.func11 rfl (by kernel_rfl) ?_
  refine JX.seq rfl ?_
  refine J.region ?_
  refine L.va rfl (X.assign (by conv => lhs; whnf)) ?_
  refine L.va rfl (X.assign (by conv => lhs; whnf)) ?_
  refine L.va rfl (X.assign (by conv => lhs; whnf)) ?_
  refine L.nil ?_
  refine JX.seq rfl ?_
  refine J.region ?_
  refine L.alloc rfl zr_29 ?_
  intro bo w1 hbo hs1 kbo1 he1
  refine L.nil ?_
  refine JX.seq rfl ?_
  refine J.region ?_
  refine L.alloc rfl zr_3 ?_
  intro bu w2 hbu hs2 kbu2 he2
  refine L.alloc rfl zr_24 ?_
  intro y w3 hy hs3 ky3 he3
  have kbu3 := kbu2.ext he3
  refine L.store rfl rfl (by conv => lhs; whnf) rfl sz_3 (kbu3) (by first | decide | exact Nat.le_of_ble_eq_true rfl) ?_
  intro w4 kbu4 hg4 hs4
  have ky4 : Blk w4 y 24 #[.int .i64 0] := ky3.grown hg4 (by intro e; injection e with e; omega)
  refine L.store rfl rfl (by conv => lhs; whnf) rfl sz_24 (ky4) (by first | decide | exact Nat.le_of_ble_eq_true rfl) ?_
  intro w5 ky5 hg5 hs5
  refine L.nil ?_
  refine JX.seqX ?_
  refine JX.seq rfl ?_
  refine J.region ?_
  refine L.va rfl (X.move (by conv => lhs; whnf)) ?_
  refine L.call rfl en_46 rfl (frames_ A n c y w5) ?_
  rintro e w6 ⟨b1, b2, rfl, hb1, hb2, k1, k2, he6⟩
  refine ⟨_, rfl, ?_⟩
  refine L.nil ?_
  refine JX.block ?_
  refine JX.rangeF (cs := [.pointer (some ⟨b1, 0, none⟩), .pointer (some ⟨b2, 0, none⟩)]) rfl en_68 ?_
  intro fn a hra rec hrec
  have he03 : Ext w w3 := (he1.trans he2).trans he3
  have he04 : Ext w w4 := he03.grw hg4 (by intro g e; injection e with e; omega)
  have he05 : Ext w w5 := he04.grw hg5 (by intro g e; injection e with e; omega)
  have he06 : Ext w w6 := he05.trans he6
  have kbo5 : Blk w5 bo 29 #[.slice none 0 0] := ((kbo1.ext (he2.trans he3)).grown hg4 (by intro e; injection e with e; omega)).grown hg5 (by intro e; injection e with e; omega)
  have kbu5 : Blk w5 bu 3 #[.int .i64 0] := kbu4.grown hg5 (by intro e; injection e with e; omega)
  have z6 := he06.le
  obtain ⟨W1, hW1⟩ : ∃ W1, (w6.alloc (.deferred (some []))).alloc (.loop rec) = W1 := ⟨_, rfl⟩
  rw [hW1]
  have zW : W1.heap.size = w6.heap.size + 2 := by rw [← hW1]; simp
  have he7 : Ext w6 W1 := by rw [← hW1]; exact ((Below.refl _ w6).alloc (Nat.le_refl _) _).alloc (by simp) _
  have hL1 : W1.heap[w6.heap.size + 1]? = some (.loop rec) := by
    rw [← hW1]; have := World.alloc_heap_new (w6.alloc (.deferred (some []))) (.loop rec); rwa [World.size_alloc] at this
  have hK1 : W1.heap[w6.heap.size]? = some (.deferred (some [])) := by
    rw [← hW1]; exact (Below.heap_alloc _ _ _ (by simp)).trans (World.alloc_heap_new w6 _)
  have J0 : FrJ w.heap.size (w6.heap.size + 2) (w6.heap.size + 1) w6.heap.size b1 b2 y A n c rec w 0 [] W1 :=
    ⟨he06.trans he7, hL1, hK1, k1.ext he7, k2.ext he7, (ky5.ext he6).ext he7, fun b hb => by (cases hb), by have := k1.lt; omega⟩
  have K0 : FrK (w6.heap.size + 2) bo bu 0 [] W1 := ⟨(kbu5.ext he6).ext he7, none, 0, (kbo5.ext he6).ext he7, own_nil _ _ _ _⟩
  refine (frames1 (w6.heap.size + 1) b1 b2 y A n c w.heap.size zs w
    (fun p bs W => AllSt zs p (bs.map Bo.l) ∧ w6.heap.size + 2 ≤ W.heap.size ∧ FrJ w.heap.size (w6.heap.size + 2) (w6.heap.size + 1) w6.heap.size b1 b2 y A n c rec w 0 bs W ∧ FrK (w6.heap.size + 2) bo bu p bs W)
    (fun p bs e W => allF zs 0 = (bs.map Bo.l, p, e) ∧ FrJ w.heap.size (w6.heap.size + 2) (w6.heap.size + 1) w6.heap.size b1 b2 y A n c rec w e bs W ∧ FrK (w6.heap.size + 2) bo bu p bs W)
    ht rfl hr hz hnc hc0 (fun p bs W h => ⟨h.2.2.1.bel, h.2.2.1.k1, h.2.2.1.k2, h.2.2.1.ky⟩)
    (fun p bs W W' h he => ⟨h.1, Nat.le_trans h.2.1 he.le, h.2.2.1.ext he (by have := h.2.1; omega), h.2.2.2.ext he⟩) ?_ ?_
    (fun p bs W h hp => ⟨h.1.done (by omega), h.2.2⟩) W1 ⟨AllSt.start zs, by omega, J0, K0⟩).mono ?_
  · rintro p bs W b ⟨st, hsz, hJ, hK⟩ hb hp hge hbl
    have hrun := run_yield (P := Tryd.prog) (args := #[.int .i64 ((p + gStep (zs.drop p) : Nat) : Int), b.v]) hJ.lp (by rw [hrec]; rfl)
    refine ⟨rec.fn, _, rec.assign, rec.body, hrun, ?_⟩
    have hT : (rec.params.zip #[.int .i64 ((p + gStep (zs.drop p) : Nat) : Int), b.v]).foldl (fun tmps (t, a) => tmps.setIfInBounds t a) rec.tmps = ((a.put (some 12) (.int .i64 ((p + gStep (zs.drop p) : Nat) : Int))).put (some 13) b.v).tmps := by
      have hpar : rec.params = #[12, 13] := congrArg Loop.params hrec
      have htmp : rec.tmps = a.tmps := congrArg Loop.tmps hrec
      rw [hpar, htmp]
      exact fold2 _ _ _
    have hasn := congrArg Loop.assign hrec
    have hbdy := congrArg Loop.body hrec
    dsimp only at hasn hbdy
    rw [hT, hasn, hbdy]
    refine round_of ((hra.put (d := some 12) _ rfl).put (d := some 13) _ rfl) (by kernel_rfl) (by kernel_rfl) ?_
    refine JI.seq ?_
    refine JI.region (by rfl) (by intro _ _ h; cases (And.left h)) ?_
    refine L.va rfl (X.assign (by conv => lhs; whnf)) ?_
    refine L.nil ?_
    refine JI.region (by rfl) (by intro _ _ h; cases (And.left h)) ?_
    refine L.va rfl (X.assign (by conv => lhs; whnf)) ?_
    refine L.nil ?_
    refine ⟨rfl, _, run_beginRound hJ.lp (by rw [hrec]), ?_⟩
    have hN6 : w.heap.size ≤ w6.heap.size + 1 := by omega
    have J2 := hJ.put hN6 (by omega) { rec with state := .busy }
    have K2 := hK.put hJ.lp { rec with state := .busy }
    have hb2 : (W.putObj (w6.heap.size + 1) (.loop { rec with state := .busy })).ownsRow w.heap.size 5 1 b.v b.l.length (nums .u8 b.l) := ownsRow_putObj hb _ hJ.lp rfl
    have hz2 : w6.heap.size + 2 ≤ (W.putObj (w6.heap.size + 1) (.loop { rec with state := .busy })).heap.size := by simp; exact hsz
    generalize W.putObj (w6.heap.size + 1) (.loop { rec with state := .busy }) = W2 at J2 K2 hb2 hz2 ⊢
    have J2 := J2.snoc hb2
    obtain ⟨Ao, co, r1, r2⟩ := K2.ro
    have ku2 := K2.ku
    refine JI.block ?_
    refine JI.seq ?_
    refine JI.region (by rfl) (by intro _ _ h; cases (And.left h)) ?_
    refine L.va rfl (X.load rfl sc_29 (by first | exact Ld.blk r1 rfl)) ?_
    refine L.va rfl (X.move (by conv => lhs; whnf)) ?_
    refine L.bslice (vs := [_]) rfl (Evs.cons (by conv => lhs; whnf) Evs.nil) rfl rfl rfl rfl Tryd.underlying29 sz_22 zr_22 (by decide) ?_
    intro b6 W3 hb6 hs6 kb6 he6'
    have ho3 := r2.ext he6'
    have few := st.few
    have stl := st.le
    rw [List.length_map] at few
    refine L.appendV (q := bs.length + 1) (ys := bs.map Bo.v ++ [b.v]) rfl rfl rfl Tryd.underlying29 el_22 (ho3) ((blk_reads (q := 1) (l := [b.v]) kb6 kb6.lt rfl)) (by first | rfl | exact strs_ones _ | assumption) (by omega) (by simp) (by unfold maxLen; omega) (by omega) ?_
    intro A7 c7 W4 ho7 hg7 hb7 hor7
    have r3 := r1.ext he6'
    have ku3 := ku2.ext he6'
    have nb : ∀ {g : Nat} {t : Nat} {cs : Array Value}, Blk W3 g t cs → t ≠ 22 → some g ≠ Value.ownBlock (.slice Ao bs.length co) := fun hk ht e => by
      obtain ⟨⟨cs', h5⟩, _⟩ := own_blk ho3 e.symm
      exact ht (blk_one hk h5)
    have r4 := r3.grown hg7 (nb r3 (by decide))
    have ku4 := ku3.grown hg7 (nb ku3 (by decide))
    have hne : bo ≠ bu := by omega
    refine L.store rfl rfl (by conv => lhs; whnf) rfl sz_29 (r4) (by first | decide | exact Nat.le_of_ble_eq_true rfl) ?_
    intro W5 r5 hg8 hs8
    have ku5 := ku4.grown hg8 (by intro e; injection e with e; exact hne e.symm)
    refine L.nil ?_
    refine JI.region (by rfl) (by intro _ _ h; cases (And.left h)) ?_
    refine L.va rfl (X.move (by conv => lhs; whnf)) ?_
    refine L.store rfl rfl (by conv => lhs; whnf) rfl sz_3 (ku5) (by first | decide | exact Nat.le_of_ble_eq_true rfl) ?_
    intro W6 ku6 hg9 hs9
    have r6 := r5.grown hg9 (by intro e; injection e with e; exact hne e)
    refine L.nil ?_
    have hC : Chg (fun g => g = bo ∨ g = bu ∨ Value.ownBlock (.slice Ao bs.length co) = some g) W3 W6 :=
      ((Chg.of_grown hg7 fun g e => .inr (.inr e)).trans (Chg.of_grown hg8 fun g e => .inl (by injection e with e; exact e.symm)) (fun _ _ h => h)).trans (Chg.of_grown hg9 fun g e => .inr (.inl (by injection e with e; exact e.symm))) (fun _ _ h => h)
    have hC2 : Chg (fun g => g = bo ∨ g = bu) W4 W6 :=
      (Chg.of_grown hg8 fun g e => .inl (by injection e with e; exact e.symm)).trans (Chg.of_grown hg9 fun g e => .inr (by injection e with e; exact e.symm)) (fun _ _ h => h)
    have zW3 := he6'.le
    have zC := hC.size
    have J6 := (J2.ext he6' (by omega)).chg hC (by omega) (fun g hS => by
      rcases hS with rfl | rfl | e
      · omega
      · omega
      · have := (own_blk ho3 e).2
        omega) (fun g hS => by
      rcases hS with rfl | rfl | e
      · exact ⟨_, _, r3, by decide, by decide, by decide, by omega⟩
      · exact ⟨_, _, ku3, by decide, by decide, by decide, by omega⟩
      · obtain ⟨⟨cs', h5⟩, hM⟩ := own_blk ho3 e
        have := J2.lt
        exact ⟨_, _, h5, by decide, by decide, by decide, by omega⟩)
    have ho6 := hC2.own ho7 (fun g hg hS => by
      obtain ⟨⟨cs', h5⟩, _⟩ := own_blk ho7 hg
      rcases hS with rfl | rfl
      · exact absurd (blk_one h5 r4) (by decide)
      · exact absurd (blk_one h5 ku4) (by decide))
    have hend : (Instr.endRound (w6.heap.size + 1) none).run Tryd.prog W6 = .ok (.bool true) (W6.putObj (w6.heap.size + 1) (.loop rec)) := by
      have := run_endRound (P := Tryd.prog) none J6.lp
      rw [this, hrec]
      rfl
    have K6 : FrK (w6.heap.size + 2) bo bu (p + gStep (zs.drop p)) (bs ++ [b]) W6 := ⟨ku6, A7, c7, by rw [List.length_append]; exact r6, by rw [List.length_append, List.map_append]; exact ho6⟩
    have st6 := st.next hz (by omega) hge
    refine ⟨rfl, rfl, _, _, hend, rfl, ?_, by simp; omega, J6.put hN6 (by omega) rec, K6.put J6.lp rec⟩
    rw [List.map_append, List.map_cons, List.map_nil, hbl]
    exact st6
  · rintro p bs W W' er ⟨st, hsz, hJ, hK⟩ hy' hg hp hge he0
    have hC : Chg (fun g => g = y) W W' := Chg.of_grown hg fun g e => by injection e with e; exact e.symm
    have hky := hJ.ky
    refine ⟨by have := st.bad (by omega) (by rw [hge]; exact he0); rwa [hge] at this, ⟨hJ.bel.trans (hC.below (by omega) (fun g e => by rw [e, hy]; omega)), ?_, ?_, hC.blk hJ.k1 fun e => ?_, hC.blk hJ.k2 fun e => ?_, hy', fun b hb => hC.own (hJ.el b hb) fun g hg' e => ?_, hJ.lt⟩, hK.chg hC fun g e t cs hb => ?_⟩
    · refine (hC.block _ (Array.getElem?_eq_some_iff.1 hJ.lp).1 fun e => ?_).trans hJ.lp
      have h2 : W.heap[y]? = some (.cells #[.int .i64 0] 24 (0, 0)) := hky
      rw [← e, hJ.lp] at h2
      cases h2
    · refine (hC.block _ (Array.getElem?_eq_some_iff.1 hJ.df).1 fun e => ?_).trans hJ.df
      have h2 : W.heap[y]? = some (.cells #[.int .i64 0] 24 (0, 0)) := hky
      rw [← e, hJ.df] at h2
      cases h2
    · have := blk_one hJ.k1 (by rw [e]; exact hky)
      exact absurd this (by decide)
    · have := blk_one hJ.k2 (by rw [e]; exact hky)
      exact absurd this (by decide)
    · obtain ⟨⟨cs, h5⟩, _⟩ := own_blk (hJ.el b hb) hg'
      rw [e] at h5
      exact absurd (blk_one h5 hky) (by decide)
    · rw [e] at hb
      have := blk_one hb hky
      subst this
      exact ⟨by decide, by decide, by decide⟩
  · rintro e w3' ⟨rfl, p, bs, er, hfin, hJ, hK⟩
    refine ⟨⟨_, rfl⟩, hJ.lp, rfl, rfl, ?_⟩
    have hN6 : w.heap.size ≤ w6.heap.size + 1 := by omega
    have J2 := hJ.put hN6 (by omega) { rec with state := .exhausted }
    have K2 := hK.put hJ.lp { rec with state := .exhausted }
    generalize w3'.putObj (w6.heap.size + 1) (.loop { rec with state := .exhausted }) = W2 at J2 K2 ⊢
    obtain ⟨Ao, co, r1, r2⟩ := K2.ro
    refine tailM hra (by kernel_rfl) (by kernel_rfl) rfl J2.df ?_
    refine Qt.va rfl (fun w' hw => X.load rfl sc_29 (Ld.blk (r1.ext hw) rfl)) ?_
    refine Qt.va rfl (fun w' hw => X.load rfl sc_3 (Ld.blk (K2.ku.ext hw) rfl)) ?_
    refine Qt.va rfl (fun w' hw => X.load rfl sc_24 (Ld.blk (J2.ky.ext hw) rfl)) ?_
    refine Qt.va rfl (fun w' hw => X.assign (by conv => lhs; whnf)) ?_
    refine Qt.va rfl (fun w' hw => X.assign (by conv => lhs; whnf)) ?_
    refine Qt.va rfl (fun w' hw => X.assign (by conv => lhs; whnf)) ?_
    refine Qt.nil ?_
    intro w' hw
    refine fin3 ?_
    have hD' : w'.heap[w6.heap.size]? = some (.deferred (some [])) := (hw.block _ (Array.getElem?_eq_some_iff.1 J2.df).1).trans J2.df
    refine ⟨Ao, co, bs, p, er, rfl, hfin, own_low (ownsRow_putObj (r2.ext hw) _ hD' rfl) (by omega), fun b hb => ownsRow_putObj ((J2.el b hb).ext hw) _ hD' rfl, ?_⟩
    have hC : Chg (fun g => g = w6.heap.size) w' (w'.putObj w6.heap.size (.deferred none)) := Chg.of_grown (grownBy_putObj' w' _ _) fun g e => by injection e with e; exact e.symm
    have zz := J2.bel.size
    exact (J2.bel.trans (Below.mono hw (by omega))).trans (hC.below (by have := hw.le; omega) (fun g e => by omega))
end Go.Proofs.YtadfopdjhbjekaaDoor
namespace Go.Proofs.YtadfopdjhbjekaaDoor
set_option maxRecDepth 100000
open Go.RowKit H
open Byts Fram
set_option linter.unusedVariables false
theorem rget09 (A : Option Addr) (n c : Nat) (zs : List Int) (w : World) (hr : Reads w w.heap.size 1 A n (nums .u8 zs)) (hz : ∀ z ∈ zs, 0 ≤ z ∧ z < 256) (hnc : n ≤ c) (hc0 : c ≤ 9223372036854775807) (hn : n ≤ 1000000) :
    Calls Tryd.prog 10 #[.slice A n c] w (FGetO zs w) := by
  have hl : zs.length = n := by have := hr.1; simpa [nums] using this
  refine enter Tryd.func10 rfl (by kernel_rfl) ?_
  refine J.seq ?_
  refine J.region ?_
  refine L.va rfl (X.assign (by conv => lhs; whnf)) ?_
  refine L.va rfl (X.assign (by conv => lhs; whnf)) ?_
  refine L.va rfl (X.assign (by conv => lhs; whnf)) ?_
  refine L.nil ?_
  refine J.cut (X := Unit) [2, 3, 4, 8, 9, 10, 11, 12, 13, 14, 15, 16] (fun _ => []) (fun _ w' => (n = 0 ∨ zs.getD 0 0 = 181) ∧ w = w') ?_ ?_
  · refine J.seq ?_
    refine J.region ?_
    refine L.va rfl (X.move (by conv => lhs; whnf)) ?_
    refine L.va rfl (X.len rfl Tryd.underlying22) ?_
    refine L.va rfl (X.gtr rfl rfl) ?_
    refine L.va rfl (X.move (by conv => lhs; whnf)) ?_
    refine L.caseDec (k := 11) rfl (fun h0 => ?_) (fun h0 => ?_)
    · have hA := hr.some_ (by omega)
      refine L.va rfl (X.move (by conv => lhs; whnf)) ?_
      refine L.va rfl (X.index1n (j := 0) rfl rfl Tryd.underlying22 sz_5 (by first | exact Option.some_ne_none _ | exact hr.some_ (by omega) | exact hA) (by omega)) ?_
      refine L.va rfl (X.load rfl sc_5 (by first | exact Ld.num hr (by omega) | exact hA)) ?_
      refine L.va rfl (X.neq rfl rfl) ?_
      refine L.va rfl (X.pickT rfl (by conv => lhs; whnf)) ?_
      refine L.nil ?_
      refine J.ndec rfl (fun h1 => ?_) (fun h1 => ?_)
      · refine J.seq ?_
        refine J.region ?_
        refine L.va rfl (X.assign (by conv => lhs; whnf)) ?_
        refine L.va rfl (X.assign (by conv => lhs; whnf)) ?_
        refine L.va rfl (X.assign (by conv => lhs; whnf)) ?_
        refine L.nil ?_
        refine J.ret ?_
        refine thn_ret <| ?_
        refine fin3 ?_
        have he : gE smZ zs = 6 := by
          unfold gE
          rw [if_pos ⟨by omega, h1⟩]
        exact FGet_bad (c := 6) (by decide) he (Below.refl _ _)
      · skip
        refine J.skip ?_
        refine ⟨(), At0 , (by (iterate 10 refine Agr.lk rfl ?_); exact Agr.rfl'), ?_⟩
        exact ⟨.inr h1, rfl⟩
    · refine L.no rfl ?_
      refine L.no rfl ?_
      refine L.no rfl ?_
      refine L.no rfl ?_
      refine L.va rfl (X.pickF rfl (by conv => lhs; whnf)) ?_
      refine L.nil ?_
      refine J.iteF rfl ?_
      refine J.skip ?_
      refine ⟨(), At0 , (by (iterate 10 refine Agr.lk rfl ?_); exact Agr.rfl'), ?_⟩
      exact ⟨.inl (by omega), rfl⟩
  · rintro _ g w2 ⟨h1, rfl⟩
    have hne : ¬ (zs.length ≠ 0 ∧ zs.getD 0 0 ≠ 181) := fun h => by
      rcases h1 with h2 | h2
      · exact h.1 (by omega)
      · exact h.2 h2
    refine J.seq ?_
    refine J.region ?_
    refine L.va rfl (X.assign (by conv => lhs; whnf)) ?_
    refine L.nil ?_
    refine J.cut (X := Unit) [5, 6, 17, 18, 19, 20, 21, 22, 23, 24, 25, 26, 27, 28, 29, 30, 31, 32, 33] (fun _ => [(5, .int .i64 (nZ zs))]) (fun _ w' => w = w') ?_ ?_
    · refine J.seq ?_
      refine J.region ?_
      refine L.va rfl (X.assign (by conv => lhs; whnf)) ?_
      refine L.nil ?_
      refine J.block ?_
      refine J.loop (X := Nat) [5, 6, 17, 18, 19, 20, 21, 22, 23, 24, 25, 26, 27, 28, 29, 30, 31, 32, 33] (fun i => [(6, .int .i64 (i : Int)), (5, .int .i64 (pz zs i))]) (fun i w' => 1 ≤ i ∧ i ≤ 4 ∧ w = w') (fun i => 4 - i) (1) (At2 (by first | rfl | exact at_int rfl (by omega) | exact at_slice rfl (by omega) | exact at_int rfl (by simp)) (by first | rfl | exact at_int rfl (by omega) | exact at_slice rfl (by omega) | exact at_int rfl (by simp))) ?_ ?_
      · exact ⟨Nat.le_refl _, by omega, rfl⟩
      · rintro i g w3 ⟨hi1, hi4, rfl⟩
        refine J.seq ?_
        refine J.seq ?_
        refine J.region ?_
        refine L.va rfl (X.move (by conv => lhs; whnf)) ?_
        refine L.va rfl (X.lss rfl rfl) ?_
        refine L.nil ?_
        refine J.dec rfl (fun hlt => ?_) (fun hlt => ?_)
        · have hb := pz_bd zs hz i (by omega)
          have hg := getD_nn hz i
          have hs := pz_succ zs i hi1 (by omega)
          refine J.skip ?_
          refine J.seq ?_
          refine J.block ?_
          refine J.seq ?_
          refine J.region ?_
          refine L.va rfl (X.move (by conv => lhs; whnf)) ?_
          refine L.va rfl (X.mul rfl rfl (by omega)) ?_
          refine L.va rfl (X.assign (by conv => lhs; whnf)) ?_
          refine L.nil ?_
          refine J.seq ?_
          refine J.region ?_
          refine L.va rfl (X.move (by conv => lhs; whnf)) ?_
          refine L.va rfl (X.move (by conv => lhs; whnf)) ?_
          refine L.va rfl (X.len rfl Tryd.underlying22) ?_
          refine L.va rfl (X.lss rfl rfl) ?_
          refine L.nil ?_
          refine J.dec rfl (fun hin => ?_) (fun hin => ?_)
          · have hA := hr.some_ (by omega)
            refine J.region ?_
            refine L.va rfl (X.move (by conv => lhs; whnf)) ?_
            refine L.va rfl (X.move (by conv => lhs; whnf)) ?_
            refine L.va rfl (X.move (by conv => lhs; whnf)) ?_
            refine L.va rfl ((by first | exact X.index1n rfl rfl Tryd.underlying22 sz_5 (by first | exact Option.some_ne_none _ | exact hr.some_ (by omega) | exact hA) (by omega) | exact X.index1 rfl rfl Tryd.underlying22 sz_5 (by first | exact Option.some_ne_none _ | exact hr.some_ (by omega) | exact hA) (by omega))) ?_
            refine L.va rfl (X.load rfl sc_5 (by first | exact Ld.num hr (by omega) | exact hA)) ?_
            refine L.va rfl ((by first | exact X.convI rfl is_5 Tryd.underlying3 (by omega) | exact X.convw rfl is_5 Tryd.underlying3)) ?_
            refine L.va rfl (X.add rfl rfl (by omega)) ?_
            refine L.va rfl (X.assign (by conv => lhs; whnf)) ?_
            refine L.nil ?_
            refine J.region ?_
            refine L.va rfl (X.move (by conv => lhs; whnf)) ?_
            refine L.va rfl (X.add rfl rfl (by omega)) ?_
            refine L.va rfl (X.assign (by conv => lhs; whnf)) ?_
            refine L.nil ?_
            refine ⟨i + 1, At2 (rfl) (at_int rfl hs.symm), (by (iterate 20 refine Agr.lk rfl ?_); exact Agr.lk rfl (Agr.hav rfl Agr.rfl')), ?_⟩
            exact ⟨⟨by omega, by omega, rfl⟩, by omega⟩
          · have h0 : zs.getD i 0 = 0 := by rw [List.getD, List.getElem?_eq_none (by omega)]; rfl
            rw [h0] at hs
            refine J.skip ?_
            refine J.region ?_
            refine L.va rfl (X.move (by conv => lhs; whnf)) ?_
            refine L.va rfl (X.add rfl rfl (by omega)) ?_
            refine L.va rfl (X.assign (by conv => lhs; whnf)) ?_
            refine L.nil ?_
            refine ⟨i + 1, At2 (rfl) (at_int rfl (by omega)), (by (iterate 12 refine Agr.lk rfl ?_); exact Agr.lk rfl (Agr.hav rfl Agr.rfl')), ?_⟩
            exact ⟨⟨by omega, by omega, rfl⟩, by omega⟩
        · obtain rfl : i = 4 := by omega
          refine J.exit ?_
          refine ⟨(), At1 (by first | rfl | exact at_int rfl (by omega) | exact at_slice rfl (by omega) | exact at_int rfl (by simp)), (by (iterate 2 refine Agr.lk rfl ?_); refine Agr.lk rfl ?_; refine Agr.hav rfl ?_; (iterate 1 refine Agr.lk rfl ?_); exact Agr.rfl'), ?_⟩
          exact rfl
    · rintro _ g w3 rfl
      obtain ⟨x0, x1⟩ := nZ_nn hz
      obtain ⟨m, hm⟩ := Int.eq_ofNat_of_zero_le x0
      rw [hm] at x1 ⊢
      refine J.seq ?_
      refine J.seq ?_
      refine J.region ?_
      refine L.va rfl (X.move (by conv => lhs; whnf)) ?_
      refine L.va rfl (X.gtr rfl rfl) ?_
      refine L.nil ?_
      refine J.dec rfl (fun h2 => ?_) (fun h2 => ?_)
      · refine J.seq ?_
        refine J.region ?_
        refine L.va rfl (X.assign (by conv => lhs; whnf)) ?_
        refine L.va rfl (X.assign (by conv => lhs; whnf)) ?_
        refine L.va rfl (X.assign (by conv => lhs; whnf)) ?_
        refine L.nil ?_
        refine J.ret ?_
        refine thn_ret <| ?_
        refine fin3 ?_
        have he : gE smZ zs = 6 := by
          unfold gE
          rw [if_neg hne, if_pos (by omega)]
        exact FGet_bad (c := 6) (by decide) he (Below.refl _ _)
      · refine J.skip ?_
        refine J.seq ?_
        refine J.seq ?_
        refine J.region ?_
        refine L.va rfl (X.move (by conv => lhs; whnf)) ?_
        refine L.va rfl (X.len rfl Tryd.underlying22) ?_
        refine L.va rfl (X.move (by conv => lhs; whnf)) ?_
        refine L.va rfl (X.add rfl rfl (by omega)) ?_
        refine L.va rfl (X.lss rfl rfl) ?_
        refine L.nil ?_
        refine J.dec rfl (fun h3 => ?_) (fun h3 => ?_)
        · refine J.seq ?_
          refine J.region ?_
          refine L.va rfl (X.assign (by conv => lhs; whnf)) ?_
          refine L.va rfl (X.assign (by conv => lhs; whnf)) ?_
          refine L.va rfl (X.assign (by conv => lhs; whnf)) ?_
          refine L.nil ?_
          refine J.ret ?_
          refine thn_ret <| ?_
          refine fin3 ?_
          have he : gE smZ zs = 5 := by
            unfold gE
            rw [if_neg hne, if_neg (by omega), if_pos (by omega)]
          exact FGet_bad (c := 5) (by decide) he (Below.refl _ _)
        · have hE : gE smZ zs = if (zs.drop (4 + m)).take 4 ≠ smZ (zs.take (4 + m)) then 13 else 0 := by
            unfold gE
            rw [if_neg hne, if_neg (by omega), if_neg (by omega), hm, Int.toNat_natCast]
          have h181 : zs.getD 0 0 = 181 := by
            rcases h1 with h | h
            · omega
            · exact h
          have hfh := fhd_of zs hz h181 (by omega)
          rw [hm, Int.toNat_natCast] at hfh
          have hbl : ((zs.drop 4).take m).length = m := by rw [List.length_take, List.length_drop]; omega
          have hbz : ∀ z ∈ (zs.drop 4).take m, 0 ≤ z ∧ z < 256 := fun z h => hz z (List.mem_of_mem_drop (List.mem_of_mem_take h))
          have hr4 := part_nums hr (i := 4) (j := 4 + m) (by omega) (by omega) hnc
          rw [show 4 + m - 4 = m by omega] at hr4
          have hr8 : Reads w w.heap.size 1 A (8 + m) (nums .u8 (zs.take (8 + m))) := by have := hr.first (k := 8 + m) (by omega); simpa [nums] using this
          refine J.skip ?_
          refine J.seq ?_
          refine J.region ?_
          refine L.bslice (vs := []) rfl Evs.nil rfl rfl rfl rfl Tryd.underlying22 sz_5 zr_5 (by decide) ?_
          intro b1 w1 hb1 hs1 hk1 he1
          have ho1 : w1.ownsRow w.heap.size 5 1 (.slice (some ⟨b1, 0, none⟩) 0 0) 0 (nums .u8 []) := blk_own1 (q := 0) (l := []) hk1 (by omega) (Nat.zero_le _) rfl
          have z1 := he1.le
          refine L.va rfl (X.move (by conv => lhs; whnf)) ?_
          refine L.va rfl (X.move (by conv => lhs; whnf)) ?_
          refine L.va rfl (X.add rfl rfl (by omega)) ?_
          refine L.va rfl (X.slicen (i := 4) (j := 4 + m) rfl rfl rfl Tryd.underlying22 sz_5 (by omega)) ?_
          rw [show 4 + m - 4 = m by omega]
          refine L.appendQ (q := m) (ys := (zs.drop 4).take m) rfl rfl rfl Tryd.underlying22 el_5 (ho1) (hr4.ext he1) (by omega) (by simp) (by unfold maxLen; omega) (by omega) ?_
          intro A2 c2 w2 ho2 hg2 hb2 hor2
          have he2 : Ext w w2 := he1.grw hg2 (fun g hg => (ho1.lt g hg).1)
          refine L.va rfl (X.assign (by conv => lhs; whnf)) ?_
          refine L.nil ?_
          refine J.seq ?_
          refine J.seq ?_
          refine J.draw (ℓ := 1000000) (S := (fun w' => Ext w w')) mixed (fun wa hSE hS_h => ?_)
          have hS : ((fun w' => Ext w w')) wa := (he2.trans hSE)
          refine D.va 0 rfl (by kernel_rfl) (fun _ _ _ h => h) rfl (fun w' hw => X.move (by conv => lhs; whnf)) hS ?_
          refine D.va 3 rfl (by kernel_rfl) (fun _ _ _ h => h) rfl (fun w' hw => X.move (by conv => lhs; whnf)) hS ?_
          refine D.va 4 rfl (by kernel_rfl) (fun _ _ _ h => h) rfl (fun w' hw => X.move (by conv => lhs; whnf)) hS ?_
          refine D.va 5 rfl (by kernel_rfl) (fun _ _ _ h => h) rfl (fun w' hw => X.add rfl rfl (by omega)) hS ?_
          refine D.va 6 rfl (by kernel_rfl) (fun _ _ _ h => h) rfl (fun w' hw => (by first | exact X.sliceTon rfl rfl Tryd.underlying22 sz_5 (by omega) | exact X.sliceTo rfl rfl Tryd.underlying22 sz_5 (by omega))) hS ?_
          refine D.va 7 rfl (by kernel_rfl) (fun _ _ _ h => h) rfl (fun w' hw => X.conv rfl ((hr8.ext hw).conv Tryd.underlying22 Tryd.underlying5 Tryd.underlying9)) hS ?_
          refine D.one 1 (by kernel_rfl) rfl ?_
          refine L.call rfl en_45 rfl (frefput_any A2 m c2 ((zs.drop 4).take m) wa (by omega) (Reads.of_own (ho2.ext hSE)) hbz) ?_
          rintro e wb ⟨Ab, cb, rfl, hob, heb⟩
          refine ⟨_, rfl, ?_⟩
          have hS1 := Ext.trans hS heb
          refine L.nil ?_
          refine ⟨fun _ => hS1, ?_⟩
          refine D.one 2 (by kernel_rfl) rfl ?_
          refine L.va rfl (X.conv rfl ((own_reads hob).conv Tryd.underlying22 Tryd.underlying5 Tryd.underlying9)) ?_
          refine L.nil ?_
          refine ⟨fun _ => hS1, ?_⟩
          refine D.va 8 rfl (by kernel_rfl) (fun _ _ _ h => h) rfl (fun w' hw => X.neqS rfl rfl) hS1 ?_
          refine D.done (by kernel_rfl) ?_
          have key : frm smZ ((zs.drop 4).take m) = zs.take (8 + m) ↔ (zs.drop (4 + m)).take 4 = smZ (zs.take (4 + m)) := by
            have e8 : zs.take (8 + m) = zs.take (4 + m) ++ (zs.drop (4 + m)).take 4 := by rw [show 8 + m = (4 + m) + 4 by omega, List.take_add]
            unfold frm
            rw [hfh, e8, List.append_cancel_left_eq]
            exact ⟨fun h => h.symm, fun h => h.symm⟩
          refine J.ndec rfl (fun hn => ?_) (fun hn => ?_)
          · refine J.seq ?_
            refine J.region ?_
            refine L.va rfl (X.assign (by conv => lhs; whnf)) ?_
            refine L.va rfl (X.assign (by conv => lhs; whnf)) ?_
            refine L.va rfl (X.assign (by conv => lhs; whnf)) ?_
            refine L.nil ?_
            refine J.ret ?_
            refine thn_ret <| ?_
            refine fin3 ?_
            have he : gE smZ zs = 13 := by
              rw [hE, if_pos]
              intro h
              exact hn (by rw [key.2 h])
            exact FGet_bad (c := 13) (by decide) he (Ext.trans hS heb)
          · have he : gE smZ zs = 0 := by
              rw [hE, if_neg]
              exact fun h => h (key.1 (strOfNums_inj (frm_bytes _ hbz) (fun z h => hz z (List.mem_of_mem_take h)) (by rw [hn])))
            have eB : gB smZ zs = (zs.drop 4).take m := by unfold gB; rw [if_pos he, hm, Int.toNat_natCast]
            have eN : gN smZ zs = 8 + (m : Int) := by unfold gN; rw [if_pos he, hm]
            refine J.skip ?_
            refine J.seq ?_
            refine J.region ?_
            refine L.va rfl (X.move (by conv => lhs; whnf)) ?_
            refine L.va rfl (X.move (by conv => lhs; whnf)) ?_
            refine L.va rfl (X.add rfl rfl (by omega)) ?_
            refine L.va rfl (X.assign (by conv => lhs; whnf)) ?_
            refine L.va rfl (X.assign (by conv => lhs; whnf)) ?_
            refine L.va rfl (X.assign (by conv => lhs; whnf)) ?_
            refine L.nil ?_
            refine J.ret ?_
            refine fin3 ?_
            refine ⟨A2, c2, ?_, ?_, Ext.trans hS heb⟩
            · rw [eB, eN, he, hbl]
              rfl
            · rw [eB, hbl]
              exact (ho2.ext hSE).ext heb
theorem rall09 (A : Option Addr) (n c : Nat) (zs : List Int) (w : World) (hr : Reads w w.heap.size 1 A n (nums .u8 zs)) (hz : ∀ z ∈ zs, 0 ≤ z ∧ z < 256) (hnc : n ≤ c) (hc0 : c ≤ 9223372036854775807) (hn : n ≤ 1000000) :
    Calls Tryd.prog 12 #[.slice A n c] w fun e w' => ∃ Ao co bs p er, e = .returned (.tuple #[.slice Ao (bs : List Bo).length co, .int .i64 ((p : Nat) : Int), .int .i64 er]) ∧ allF zs 0 = (bs.map Bo.l, p, er) ∧
      w'.ownsRow w.heap.size 22 1 (.slice Ao bs.length co) bs.length (bs.map Bo.v) ∧ (∀ b ∈ bs, w'.ownsRow w.heap.size 5 1 b.v b.l.length (nums .u8 b.l)) ∧ Below w.heap.size w w' := by
  have hl : zs.length = n := by have := hr.1; simpa [nums] using this
  refine enter Tryd.func12 rfl (by kernel_rfl) ?_
  refine J.seq ?_
  refine J.region ?_
  refine L.va rfl (X.assign (by conv => lhs; whnf)) ?_
  refine L.va rfl (X.assign (by conv => lhs; whnf)) ?_
  refine L.va rfl (X.assign (by conv => lhs; whnf)) ?_
  refine L.nil ?_
  refine J.seq ?_
  refine J.region ?_
  refine L.va rfl (X.assign (by conv => lhs; whnf)) ?_
  refine L.nil ?_
  refine J.seq ?_
  refine J.region ?_
  refine L.va rfl (X.assign (by conv => lhs; whnf)) ?_
  refine L.nil ?_
  refine J.seq ?_
  refine J.block ?_
  refine J.loop (X := Nat × List Bo × Option Addr × Nat × Nat) [2, 3, 4, 5, 6, 7, 8, 9, 10, 11, 12, 13, 14, 15, 16, 17, 18, 19, 20, 21, 22, 23, 24, 25, 26, 27, 28, 29, 30, 31, 32, 33] (fun (p, bs, Ao, co, m) => [(6, .int .i64 (p : Int)), (5, .slice Ao m co)]) (fun (p, bs, Ao, co, m) w' => m = bs.length ∧ AllSt zs p (bs.map Bo.l) ∧ w'.ownsRow w.heap.size 22 1 (.slice Ao bs.length co) bs.length (bs.map Bo.v) ∧ (∀ b ∈ bs, w'.ownsRow w.heap.size 5 1 b.v b.l.length (nums .u8 b.l)) ∧ Ext w w') (fun (p, _) => n - p) ((0, [], none, 0, 0)) (At2 (by first | rfl | exact at_int rfl (by omega) | exact at_slice rfl (by omega) | exact at_int rfl (by simp)) (by first | rfl | exact at_int rfl (by omega) | exact at_slice rfl (by omega) | exact at_int rfl (by simp))) ?_ ?_
  · exact ⟨rfl, AllSt.start zs, own_nil _ _ _ _, fun b hb => by (cases hb), Ext.refl _⟩
  · rintro ⟨p, bs, Ao, co, m⟩ g w2 ⟨rfl, st, ho, hel, he2⟩
    have few := st.few
    have stl := st.le
    rw [List.length_map] at few
    refine J.seq ?_
    refine J.seq ?_
    refine J.region ?_
    refine L.va rfl (X.move (by conv => lhs; whnf)) ?_
    refine L.va rfl (X.move (by conv => lhs; whnf)) ?_
    refine L.va rfl (X.len rfl Tryd.underlying22) ?_
    refine L.va rfl (X.lss rfl rfl) ?_
    refine L.nil ?_
    refine J.dec rfl (fun hlt => ?_) (fun hlt => ?_)
    · have hlt : p < n := by omega
      have hr2 := (hr.ext he2)
      have z2 := he2.le
      have hr3 := part_nums hr2 (i := p) (j := n) (by omega) (Nat.le_refl _) hnc
      rw [List.take_of_length_le (by rw [List.length_drop]; omega)] at hr3
      refine J.skip ?_
      refine J.block ?_
      refine J.seq ?_
      refine J.region ?_
      refine L.va rfl (X.move (by conv => lhs; whnf)) ?_
      refine L.va rfl (X.move (by conv => lhs; whnf)) ?_
      refine L.va rfl ((by first | exact X.sliceFromn rfl rfl Tryd.underlying22 sz_5 (by omega) | exact X.sliceFrom rfl rfl Tryd.underlying22 sz_5 (by omega))) ?_
      refine L.call rfl en_10 rfl (rget09 _ (n - p) (c - p) (zs.drop p) w2 (hr3.more (by omega)) (fun z h ↦ hz z (List.mem_of_mem_drop h)) (by omega) (by omega) (by omega)) ?_
      rintro e w4 ⟨A4, c4, rfl, ho4, hb4⟩
      refine ⟨_, rfl, ?_⟩
      have he4 : Ext w w4 := he2.trans hb4
      have z4 := Ext.le hb4
      have ho' := ho.ext hb4
      refine L.va rfl (X.move (by conv => lhs; whnf)) ?_
      refine L.va rfl (X.extract rfl rfl) ?_
      refine L.va rfl (X.extract rfl rfl) ?_
      refine L.va rfl (X.extract rfl rfl) ?_
      refine L.va rfl (X.assign (by conv => lhs; whnf)) ?_
      refine L.va rfl (X.assign (by conv => lhs; whnf)) ?_
      refine L.va rfl (X.assign (by conv => lhs; whnf)) ?_
      refine L.nil ?_
      refine J.seq ?_
      refine J.seq ?_
      refine J.region ?_
      refine L.va rfl (X.move (by conv => lhs; whnf)) ?_
      refine L.va rfl (X.neq rfl rfl) ?_
      refine L.nil ?_
      refine J.ndec rfl (fun hbad => ?_) (fun hbad => ?_)
      · refine J.seq ?_
        refine J.region ?_
        refine L.va rfl (X.move (by conv => lhs; whnf)) ?_
        refine L.va rfl (X.move (by conv => lhs; whnf)) ?_
        refine L.va rfl (X.move (by conv => lhs; whnf)) ?_
        refine L.va rfl (X.assign (by conv => lhs; whnf)) ?_
        refine L.va rfl (X.assign (by conv => lhs; whnf)) ?_
        refine L.va rfl (X.assign (by conv => lhs; whnf)) ?_
        refine L.nil ?_
        refine J.ret ?_
        refine thn_ret <|  inB_ret <|  thn_ret <|  inB_ret <|  thn_ret <| ?_
        refine fin3 ?_
        exact ⟨Ao, co, bs, p, _, rfl, st.bad (by omega) hbad, ho', fun b hb => (hel b hb).ext hb4, he4⟩
      · obtain ⟨h8, hle, hst⟩ := gN_ok (fun z h => hz z (List.mem_of_mem_drop h)) hbad
        rw [List.length_drop] at hle
        rw [← hst]
        refine J.skip ?_
        refine J.seq ?_
        refine J.region ?_
        refine L.va rfl (X.move (by conv => lhs; whnf)) ?_
        refine L.va rfl (X.move (by conv => lhs; whnf)) ?_
        refine L.bslice (vs := [_]) rfl (Evs.cons (by conv => lhs; whnf) Evs.nil) rfl rfl rfl rfl Tryd.underlying29 sz_22 zr_22 (by decide) ?_
        intro b6 w6 hb6 hs6 kb6 he6
        have ho6 := ho'.ext he6
        have z6 := he6.le
        refine L.appendV (q := bs.length + 1) (ys := bs.map Bo.v ++ [.slice A4 (gB smZ (zs.drop p)).length c4]) rfl rfl rfl Tryd.underlying29 el_22 (ho6) ((blk_reads (q := 1) (l := [.slice A4 (gB smZ (zs.drop p)).length c4]) kb6 kb6.lt rfl)) (by first | rfl | exact strs_ones _ | assumption) (by omega) (by simp) (by unfold maxLen; omega) (by omega) ?_
        intro A7 c7 w7 ho7 hg7 hb7 hor7
        refine L.va rfl (X.assign (by conv => lhs; whnf)) ?_
        refine L.nil ?_
        refine J.region ?_
        refine L.va rfl (X.move (by conv => lhs; whnf)) ?_
        refine L.va rfl (X.move (by conv => lhs; whnf)) ?_
        refine L.va rfl (X.add rfl rfl (by omega)) ?_
        refine L.va rfl (X.assign (by conv => lhs; whnf)) ?_
        refine L.nil ?_
        refine ⟨(p + gStep (zs.drop p), bs ++ [⟨A4, c4, gB smZ (zs.drop p)⟩], A7, c7, bs.length + 1), At2 (by first | rfl | exact at_int rfl (by omega) | exact at_slice rfl (by omega) | exact at_int rfl (by simp)) (by first | rfl | exact at_int rfl (by omega) | exact at_slice rfl (by omega) | exact at_int rfl (by simp)), (by (iterate 26 refine Agr.lk rfl ?_); exact Agr.lk rfl (Agr.hav rfl Agr.rfl')), ?_⟩
        have hC : Chg (fun g => Value.ownBlock (.slice Ao bs.length co) = some g) w6 w7 := Chg.of_grown hg7 fun g e => e
        have hkeep : ∀ b : Bo, w6.ownsRow w.heap.size 5 1 b.v b.l.length (nums .u8 b.l) → w7.ownsRow w.heap.size 5 1 b.v b.l.length (nums .u8 b.l) := fun b hb => hC.own hb fun g hg hS => by
          obtain ⟨⟨cs, h5⟩, _⟩ := own_blk hb hg
          obtain ⟨⟨cs', h6⟩, _⟩ := own_blk ho6 hS
          exact absurd (blk_one h5 h6) (by decide)
        refine ⟨⟨by simp, ?_, ?_, fun b hb => ?_, (he4.trans he6).grw hg7 (fun g hg => (ho6.lt g hg).1)⟩, by show n - (p + gStep (zs.drop p)) < n - p; omega⟩
        · rw [List.map_append, List.map_cons, List.map_nil]
          exact st.next hz (by omega) hbad
        · rw [List.length_append, List.map_append]
          exact ho7
        · rcases List.mem_append.1 hb with h | h
          · exact hkeep b (((hel b h).ext hb4).ext he6)
          · rw [List.mem_singleton] at h
            rw [h]
            exact hkeep ⟨A4, c4, gB smZ (zs.drop p)⟩ ((own_low ho4 (by omega)).ext he6)
    · refine J.exit ?_
      refine J.seq ?_
      refine J.region ?_
      refine L.va rfl (X.move (by conv => lhs; whnf)) ?_
      refine L.va rfl (X.move (by conv => lhs; whnf)) ?_
      refine L.va rfl (X.assign (by conv => lhs; whnf)) ?_
      refine L.va rfl (X.assign (by conv => lhs; whnf)) ?_
      refine L.va rfl (X.assign (by conv => lhs; whnf)) ?_
      refine L.nil ?_
      refine J.ret ?_
      refine fin3 ?_
      exact ⟨Ao, co, bs, p, 0, rfl, st.done (by omega), ho, hel, he2⟩
end Go.Proofs.YtadfopdjhbjekaaDoor
namespace Go.Proofs.YtadfopdjhbjekaaDoor
set_option maxRecDepth 100000
open Go.RowKit
open Byts Fram
set_option linter.unusedVariables false
theorem awake09 (w : World) (ht : Tab w) : Calls Tryd.prog 8 #[] w fun e w' => e = .returned (.bool true) ∧ Below w.heap.size w w' := by
  have c1 := fput_ok none 0 0 [] w ht (by omega) Reads.none_ (by intro z h; cases h)
  have c2 := fun w' => size_in 0 w' (by omega) (by omega)
  have hpre : ∃ l, frm smZ [] = [181, 0, 0, 0] ++ l := ⟨smZ (fhd []), rfl⟩
  obtain ⟨l, hl⟩ := hpre
  have HL := Lib.hid hl
  have C2 := Lib.hid c2
  clear hl c2
  go_enter Tryd.func8, Tryd.ntmps8
  go_wp2_with fail
  refine c1.mono ?_
  rintro e w1 ⟨A, c, rfl, hr, hb, hcap, _⟩
  simp only [List.length_nil, Nat.add_zero] at hcap
  have hf := hr.first (k := 4) (by simp)
  rw [HL.out] at hf
  have ef : (nums .u8 ([181, 0, 0, 0] ++ l)).take (4 * 1) = nums .u8 [181, 0, 0, 0] := rfl
  rw [ef] at hf
  have kc := hf.conv (P := Tryd.prog) (c := c) (src := 22) (dst := 9) Tryd.underlying22 Tryd.underlying5 Tryd.underlying9
  have HB := Lib.hid hb
  have hstr : (strOfNums [181, 0, 0, 0]).toList = [181, 0, 0, 0] := by rw [Lib.toList_data]; rfl
  clear hb hf hr ef
  go_wp2_with fail
  refine (C2.out _).mono ?_
  rintro e w' ⟨rfl, rfl⟩
  go_wp2
  go_ret
  exact ⟨rfl, HB.out⟩
open H
theorem law_FrameGets (w : World) (ht : Tab w) (A0 : Option Addr) (n0 c0 : Nat) (xs0 : List (Nm .u8)) (hn0 : n0 ≤ c0) (hc0 : c0 ≤ maxLen) (hA0 : A0 = none → c0 = 0) (hl0 : LiesSlice w w.heap.size A0 n0 xs0) :
    Calls Tryd.prog 3 #[.slice A0 n0 c0] w fun e w' => e = .returned (.bool true) ∧ Below w.heap.size w w' := by
  have hr := hl0.reads
  have hz := zsOf_u8 xs0
  have hcm := hc0
  unfold maxLen at hcm
  generalize zsOf xs0 = zs at hr hz
  have hl : zs.length = n0 := by have := hr.1; simpa [nums] using this
  refine enter Tryd.func3 rfl (by kernel_rfl) ?_
  refine J.seq ?_
  refine J.region ?_
  refine L.va rfl (X.assign (by conv => lhs; whnf)) ?_
  refine L.nil ?_
  refine J.seq ?_
  refine J.seq ?_
  refine J.region ?_
  refine L.va rfl (X.move (by conv => lhs; whnf)) ?_
  refine L.va rfl (X.len rfl Tryd.underlying22) ?_
  refine L.va rfl (X.gtr rfl rfl) ?_
  refine L.nil ?_
  refine J.dec rfl (fun hgt => ?_) (fun hgt => ?_)
  · refine J.seq ?_
    refine J.region ?_
    refine L.call rfl en_8 rfl (awake09 w ht) ?_
    rintro e w1 ⟨rfl, he1⟩
    refine ⟨_, rfl, ?_⟩
    refine L.va rfl (X.assign (by conv => lhs; whnf)) ?_
    refine L.nil ?_
    refine J.ret ?_
    refine thn_ret <| ?_
    refine fin1 ?_
    exact ⟨rfl, he1⟩
  · refine J.skip ?_
    refine J.seq ?_
    refine J.region ?_
    refine L.va rfl (X.move (by conv => lhs; whnf)) ?_
    refine L.call rfl en_9 rfl (fgetO_any A0 n0 c0 zs w ht hr hz hn0 (by omega)) ?_
    rintro e w1 ⟨A1, c1, rfl, ho1, hb1⟩
    refine ⟨_, rfl, ?_⟩
    refine L.va rfl (X.move (by conv => lhs; whnf)) ?_
    refine L.va rfl (X.extract rfl rfl) ?_
    refine L.va rfl (X.extract rfl rfl) ?_
    refine L.va rfl (X.extract rfl rfl) ?_
    refine L.va rfl (X.assign (by conv => lhs; whnf)) ?_
    refine L.va rfl (X.assign (by conv => lhs; whnf)) ?_
    refine L.va rfl (X.assign (by conv => lhs; whnf)) ?_
    refine L.nil ?_
    refine J.seq ?_
    refine J.region ?_
    refine L.va rfl (X.move (by conv => lhs; whnf)) ?_
    have z1 := Ext.le hb1
    refine L.call rfl en_10 rfl (rget09 A0 n0 c0 zs w1 ((hr.ext hb1).more z1) hz hn0 (by omega) (by omega)) ?_
    rintro e w2 ⟨A2, c2, rfl, ho2, hb2⟩
    refine ⟨_, rfl, ?_⟩
    have hb12 : Ext w w2 := Ext.trans hb1 hb2
    have z2 := Ext.le hb12
    refine L.va rfl (X.move (by conv => lhs; whnf)) ?_
    refine L.va rfl (X.extract rfl rfl) ?_
    refine L.va rfl (X.extract rfl rfl) ?_
    refine L.va rfl (X.extract rfl rfl) ?_
    refine L.va rfl (X.assign (by conv => lhs; whnf)) ?_
    refine L.va rfl (X.assign (by conv => lhs; whnf)) ?_
    refine L.va rfl (X.assign (by conv => lhs; whnf)) ?_
    refine L.nil ?_
    refine J.seq ?_
    refine J.seq ?_
    refine J.region ?_
    refine L.va rfl (X.move (by conv => lhs; whnf)) ?_
    refine L.va rfl (X.conv rfl ((own_reads (ho1.ext hb2)).conv Tryd.underlying22 Tryd.underlying5 Tryd.underlying9)) ?_
    refine L.va rfl (X.move (by conv => lhs; whnf)) ?_
    refine L.va rfl (X.conv rfl ((own_reads ho2).conv Tryd.underlying22 Tryd.underlying5 Tryd.underlying9)) ?_
    refine L.va rfl (X.neqS rfl rfl) ?_
    refine L.va rfl (X.move (by conv => lhs; whnf)) ?_
    refine L.caseNdecF (k := 33) rfl (by simp) ?_
    refine L.va rfl (X.move (by conv => lhs; whnf)) ?_
    refine L.va rfl (X.move (by conv => lhs; whnf)) ?_
    refine L.va rfl (X.neq rfl rfl) ?_
    refine L.va rfl (X.pickF rfl (by conv => lhs; whnf)) ?_
    refine L.va rfl (X.move (by conv => lhs; whnf)) ?_
    refine L.caseNdecF (k := 38) rfl (by simp) ?_
    refine L.va rfl (X.move (by conv => lhs; whnf)) ?_
    refine L.va rfl (X.move (by conv => lhs; whnf)) ?_
    refine L.va rfl (X.neq rfl rfl) ?_
    refine L.va rfl (X.pickF rfl (by conv => lhs; whnf)) ?_
    refine L.nil ?_
    refine J.ndecF rfl (by simp) ?_
    refine J.skip ?_
    refine J.seq ?_
    refine J.region ?_
    refine L.va rfl (X.move (by conv => lhs; whnf)) ?_
    have ht2 := ht.below hb12 (Nat.le_refl _)
    refine L.call rfl en_11 rfl (fall A0 n0 c0 zs w2 ht2 ((hr.ext hb12).more z2) hz hn0 (by omega) (by omega)) ?_
    rintro e w3 ⟨A3, c3, bs, p, er, rfl, hf3, ho3, hel3, hb3⟩
    refine ⟨_, rfl, ?_⟩
    have hb13 : Ext w w3 := Ext.trans hb12 hb3
    have z3 := Ext.le hb13
    refine L.va rfl (X.move (by conv => lhs; whnf)) ?_
    refine L.va rfl (X.extract rfl rfl) ?_
    refine L.va rfl (X.extract rfl rfl) ?_
    refine L.va rfl (X.extract rfl rfl) ?_
    refine L.va rfl (X.assign (by conv => lhs; whnf)) ?_
    refine L.va rfl (X.assign (by conv => lhs; whnf)) ?_
    refine L.va rfl (X.assign (by conv => lhs; whnf)) ?_
    refine L.nil ?_
    refine J.seq ?_
    refine J.region ?_
    refine L.va rfl (X.move (by conv => lhs; whnf)) ?_
    refine L.call rfl en_12 rfl (rall09 A0 n0 c0 zs w3 ((hr.ext hb13).more z3) hz hn0 (by omega) (by omega)) ?_
    rintro e w4 ⟨A4, c4, bs', p', er', rfl, hf4, ho4, hel4, hb4⟩
    refine ⟨_, rfl, ?_⟩
    rw [hf3] at hf4
    injection hf4 with e1 e2
    injection e2 with e2 e3
    subst e2 e3
    have hb14 : Ext w w4 := Ext.trans hb13 hb4
    have el : bs.length = bs'.length := by have := congrArg List.length e1; simpa using this
    rw [← el]
    refine L.va rfl (X.move (by conv => lhs; whnf)) ?_
    refine L.va rfl (X.extract rfl rfl) ?_
    refine L.va rfl (X.extract rfl rfl) ?_
    refine L.va rfl (X.extract rfl rfl) ?_
    refine L.va rfl (X.assign (by conv => lhs; whnf)) ?_
    refine L.va rfl (X.assign (by conv => lhs; whnf)) ?_
    refine L.va rfl (X.assign (by conv => lhs; whnf)) ?_
    refine L.nil ?_
    refine J.seq ?_
    refine J.seq ?_
    refine J.region ?_
    refine L.va rfl (X.move (by conv => lhs; whnf)) ?_
    refine L.va rfl (X.len rfl Tryd.underlying29) ?_
    refine L.va rfl (X.move (by conv => lhs; whnf)) ?_
    refine L.va rfl (X.len rfl Tryd.underlying29) ?_
    refine L.va rfl (X.neq rfl rfl) ?_
    refine L.va rfl (X.move (by conv => lhs; whnf)) ?_
    refine L.caseNdecF (k := 60) rfl (by simp) ?_
    refine L.va rfl (X.move (by conv => lhs; whnf)) ?_
    refine L.va rfl (X.move (by conv => lhs; whnf)) ?_
    refine L.va rfl (X.neq rfl rfl) ?_
    refine L.va rfl (X.pickF rfl (by conv => lhs; whnf)) ?_
    refine L.va rfl (X.move (by conv => lhs; whnf)) ?_
    refine L.caseNdecF (k := 65) rfl (by simp) ?_
    refine L.va rfl (X.move (by conv => lhs; whnf)) ?_
    refine L.va rfl (X.move (by conv => lhs; whnf)) ?_
    refine L.va rfl (X.neq rfl rfl) ?_
    refine L.va rfl (X.pickF rfl (by conv => lhs; whnf)) ?_
    refine L.nil ?_
    refine J.ndecF rfl (by simp) ?_
    refine J.skip ?_
    refine J.cut (X := Unit) [2, 11, 70, 71, 72, 73, 74, 75, 76, 77, 78, 79, 80, 81, 82, 83, 84, 85, 86] (fun _ => []) (fun _ w' => Ext w4 w') ?_ ?_
    · refine J.seq ?_
      refine J.region ?_
      refine L.va rfl (X.assign (by conv => lhs; whnf)) ?_
      refine L.nil ?_
      refine J.block ?_
      refine J.loop (X := Nat) [2, 11, 70, 71, 72, 73, 74, 75, 76, 77, 78, 79, 80, 81, 82, 83, 84, 85, 86] (fun i => [(11, .int .i64 (i : Int))]) (fun i w' => i ≤ bs.length ∧ Ext w4 w') (fun i => bs.length - i) (0) (At1 (by first | rfl | exact at_int rfl (by omega) | exact at_slice rfl (by omega) | exact at_int rfl (by simp))) ?_ ?_
      · exact ⟨Nat.zero_le _, Ext.refl _⟩
      · rintro i g w5 ⟨hi, he5⟩
        have hlim := own_bd ho3
        have hlim2 : bs.length ≤ 9223372036854775807 := by have := hlim.1; have := hlim.2; unfold maxLen at this; omega
        have hr3 := (Reads.of_own ((ho3.ext hb4).ext he5))
        have hr4 := (Reads.of_own (ho4.ext he5))
        rw [← el] at hr4
        refine J.seq ?_
        refine J.seq ?_
        refine J.region ?_
        refine L.va rfl (X.move (by conv => lhs; whnf)) ?_
        refine L.va rfl (X.move (by conv => lhs; whnf)) ?_
        refine L.va rfl (X.len rfl Tryd.underlying29) ?_
        refine L.va rfl (X.lss rfl rfl) ?_
        refine L.nil ?_
        refine J.dec rfl (fun hlt => ?_) (fun hlt => ?_)
        · have hil : i < bs.length := by omega
          have hA3 := hr3.some_ (by omega)
          have hA4 := hr4.some_ (by omega)
          have l1 : bs[i]? = some (bs[i]'hil) := List.getElem?_eq_getElem hil
          have l2 : bs'[i]? = some (bs'[i]'(by omega)) := List.getElem?_eq_getElem (by omega)
          have m1 : bs[i]'hil ∈ bs := List.getElem_mem _
          have m2 : bs'[i]'(by omega) ∈ bs' := List.getElem_mem _
          have e5 : (bs[i]'hil).l = (bs'[i]'(by omega)).l := by
            have := congrArg (fun l => l[i]?) e1
            simp only [List.getElem?_map, l1, l2, Option.map_some] at this
            exact Option.some.inj this
          generalize bs[i]'hil = x1 at l1 m1 e5
          generalize bs'[i]'(by omega) = x2 at l2 m2 e5
          have d1 : (bs.map Bo.v).getD i undef = x1.v := by rw [List.getD, List.getElem?_map, l1]; rfl
          have d2 : (bs'.map Bo.v).getD i undef = x2.v := by rw [List.getD, List.getElem?_map, l2]; rfl
          have L1 : ∀ w', Ext w5 w' → Ld w' (pA A3 i) x1.v := fun w' hw => by have := Ld.rd (hr3.ext hw) (j := i) (by omega); rwa [d1] at this
          have L2 : ∀ w', Ext w5 w' → Ld w' (pA A4 i) x2.v := fun w' hw => by have := Ld.rd (hr4.ext hw) (j := i) (by omega); rwa [d2] at this
          have o1 : w5.ownsRow w2.heap.size 5 1 (.slice x1.A x1.l.length x1.c) x1.l.length (nums .u8 x1.l) := ((hel3 x1 m1).ext hb4).ext he5
          have o2 : w5.ownsRow w3.heap.size 5 1 (.slice x2.A x2.l.length x2.c) x2.l.length (nums .u8 x2.l) := (hel4 x2 m2).ext he5
          refine J.skip ?_
          refine J.seq ?_
          refine J.block ?_
          refine J.seq ?_
          refine J.quiet mixed (by kernel_rfl) ?_
          refine Qt.va rfl (fun w' hw => X.move (by conv => lhs; whnf)) ?_
          refine Qt.va rfl (fun w' hw => X.move (by conv => lhs; whnf)) ?_
          refine Qt.va rfl (fun w' hw => (by first | exact X.index1n rfl rfl Tryd.underlying29 sz_22 (by first | exact Option.some_ne_none _ | exact hA3 | exact hA4) (by omega) | exact X.index1 rfl rfl Tryd.underlying29 sz_22 (by first | exact Option.some_ne_none _ | exact hA3 | exact hA4) (by omega))) ?_
          refine Qt.va rfl (fun w' hw => X.load rfl sc_22 (L1 w' hw)) ?_
          refine Qt.va rfl (fun w' hw => X.conv rfl ((own_reads (o1.ext hw)).conv Tryd.underlying22 Tryd.underlying5 Tryd.underlying9)) ?_
          refine Qt.va rfl (fun w' hw => X.move (by conv => lhs; whnf)) ?_
          refine Qt.va rfl (fun w' hw => X.move (by conv => lhs; whnf)) ?_
          refine Qt.va rfl (fun w' hw => (by first | exact X.index1n rfl rfl Tryd.underlying29 sz_22 (by first | exact Option.some_ne_none _ | exact hA3 | exact hA4) (by omega) | exact X.index1 rfl rfl Tryd.underlying29 sz_22 (by first | exact Option.some_ne_none _ | exact hA3 | exact hA4) (by omega))) ?_
          refine Qt.va rfl (fun w' hw => X.load rfl sc_22 (L2 w' hw)) ?_
          refine Qt.va rfl (fun w' hw => X.conv rfl ((own_reads (o2.ext hw)).conv Tryd.underlying22 Tryd.underlying5 Tryd.underlying9)) ?_
          refine Qt.va rfl (fun w' hw => X.neqS rfl rfl) ?_
          refine Qt.nil (fun w6 hq => ?_)
          rw [e5]
          refine J.ndecF rfl (by simp) ?_
          refine J.skip ?_
          refine J.region ?_
          refine L.va rfl (X.move (by conv => lhs; whnf)) ?_
          refine L.va rfl (X.add rfl rfl (by omega)) ?_
          refine L.va rfl (X.assign (by conv => lhs; whnf)) ?_
          refine L.nil ?_
          refine ⟨i + 1, At1 (by first | rfl | exact at_int rfl (by omega) | exact at_slice rfl (by omega) | exact at_int rfl (by simp)), (by (iterate 18 refine Agr.lk rfl ?_); exact Agr.lk rfl (Agr.hav rfl Agr.rfl')), ?_⟩
          exact ⟨⟨by omega, he5.trans hq⟩, by omega⟩
        · refine J.exit ?_
          refine ⟨(), At0 , (by (iterate 4 refine Agr.lk rfl ?_); refine Agr.lk rfl ?_; refine Agr.hav rfl ?_; (iterate 1 refine Agr.lk rfl ?_); exact Agr.rfl'), ?_⟩
          exact he5
    · rintro _ g w5 he5
      have ht5 := ht.below (hb14.trans he5) (Nat.le_refl _)
      refine J.seq ?_
      refine J.region ?_
      refine L.call rfl en_8 rfl (awake09 w5 ht5) ?_
      rintro e w6 ⟨rfl, he6⟩
      refine ⟨_, rfl, ?_⟩
      refine L.va rfl (X.assign (by conv => lhs; whnf)) ?_
      refine L.nil ?_
      refine J.ret ?_
      refine fin1 ?_
      exact ⟨rfl, (hb14.trans he5).trans he6⟩
end Go.Proofs.YtadfopdjhbjekaaDoor
