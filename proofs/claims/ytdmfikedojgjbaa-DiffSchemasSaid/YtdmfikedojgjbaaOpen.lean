/-
  How data lie in memory, by their Lean type: numbers, texts, slices, structs, arrays, one within the other; and that what an argument reads as lies so.
-/
import Derived.Test.YtdmfikedojgjbaaKit
import Derived.ProofKit
import Derived.OpenShut
namespace Go.Proofs.Ytdmfikedojgjbaa
open Go.RowKit Go.ChangeShapes Go.WideShapes

/-- a number of a kind -/
structure Nm (k : IntKind) where
  z : Int
  ok : (Lit.int k z).wf = true
/-- a text -/
structure Str where
  s : ByteArray
  ok : s.size ≤ maxLen
/-- a float of 64 bits -/
structure Fl where
  b : Nat
  ok : (Lit.float .f64 b).wf = true
/-- an array of n -/
structure Vec (n : Nat) (α : Type) where
  l : List α
  len : l.length = n

class Lay (α : Type) where
  size : Nat
  lies : World → Nat → List Value → α → Prop
  length : ∀ {w : World} {B : Nat} {vs : List Value} {a : α}, lies w B vs a → vs.length = size
  keep : ∀ {w w' : World} {B : Nat} {vs : List Value} {a : α}, lies w B vs a → (∀ p : Addr, p.block < B → w'.cell? p = w.cell? p) → lies w' B vs a
  more : ∀ {w : World} {B B' : Nat} {vs : List Value} {a : α}, lies w B vs a → B ≤ B' → lies w B' vs a

instance (k : IntKind) : Lay (Nm k) where
  size := 1
  lies _ _ vs a := vs = [.int k a.z]
  length h := by rw [h]; rfl
  keep h _ := h
  more h _ := h
instance : Lay Bool where
  size := 1
  lies _ _ vs a := vs = [.bool a]
  length h := by rw [h]; rfl
  keep h _ := h
  more h _ := h
instance : Lay Str where
  size := 1
  lies _ _ vs a := vs = [.string a.s]
  length h := by rw [h]; rfl
  keep h _ := h
  more h _ := h
instance : Lay Fl where
  size := 1
  lies _ _ vs a := vs = [.float .f64 a.b]
  length h := by rw [h]; rfl
  keep h _ := h
  more h _ := h
instance {α β : Type} [Lay α] [Lay β] : Lay (α × β) where
  size := Lay.size α + Lay.size β
  lies w B vs a := ∃ us ws, vs = us ++ ws ∧ Lay.lies w B us a.1 ∧ Lay.lies w B ws a.2
  length := by rintro w B vs a ⟨us, ws, rfl, h1, h2⟩; rw [List.length_append, Lay.length h1, Lay.length h2]
  keep := by rintro w w' B vs a ⟨us, ws, rfl, h1, h2⟩ hk; exact ⟨us, ws, rfl, Lay.keep h1 hk, Lay.keep h2 hk⟩
  more := by rintro w B B' vs a ⟨us, ws, rfl, h1, h2⟩ hk; exact ⟨us, ws, rfl, Lay.more h1 hk, Lay.more h2 hk⟩
/-- the i-th of a row of elements lies at its place -/
def LiesAt {α : Type} [Lay α] (w : World) (B : Nat) (ad : Addr) (i : Nat) (a : α) : Prop :=
  ∃ us : List Value, (∀ j, j < Lay.size α → w.cell? (ad.add (i * Lay.size α + j)) = us[j]?) ∧ Lay.lies w B us a
theorem LiesAt.keep {α : Type} [Lay α] {w w' : World} {B : Nat} {ad : Addr} {i : Nat} {a : α} (h : LiesAt w B ad i a) (hb : ad.block < B) (hk : ∀ p : Addr, p.block < B → w'.cell? p = w.cell? p) : LiesAt w' B ad i a := by
  obtain ⟨us, hc, hl⟩ := h
  exact ⟨us, fun j hj => (hk _ (by rw [block_of_add]; exact hb)).trans (hc j hj), Lay.keep hl hk⟩
theorem LiesAt.more {α : Type} [Lay α] {w : World} {B B' : Nat} {ad : Addr} {i : Nat} {a : α} (h : LiesAt w B ad i a) (hB : B ≤ B') : LiesAt w B' ad i a := by
  obtain ⟨us, hc, hl⟩ := h
  exact ⟨us, hc, Lay.more hl hB⟩
/-- a slice -/
def LiesSlice {α : Type} [Lay α] (w : World) (B : Nat) (A : Option Addr) (n : Nat) (xs : List α) : Prop :=
  xs.length = n ∧ (0 < n → ∃ ad, A = some ad ∧ ad.block < B ∧ ∀ i a, xs[i]? = some a → LiesAt w B ad i a)
theorem LiesSlice.keep {α : Type} [Lay α] {w w' : World} {B n : Nat} {A : Option Addr} {xs : List α} (h : LiesSlice w B A n xs) (hk : ∀ p : Addr, p.block < B → w'.cell? p = w.cell? p) : LiesSlice w' B A n xs :=
  ⟨h.1, fun hn => by
    obtain ⟨ad, e, hb, hc⟩ := h.2 hn
    exact ⟨ad, e, hb, fun i a hi => (hc i a hi).keep hb hk⟩⟩
theorem LiesSlice.more {α : Type} [Lay α] {w : World} {B B' n : Nat} {A : Option Addr} {xs : List α} (h : LiesSlice w B A n xs) (hB : B ≤ B') : LiesSlice w B' A n xs :=
  ⟨h.1, fun hn => by
    obtain ⟨ad, e, hb, hc⟩ := h.2 hn
    exact ⟨ad, e, by omega, fun i a hi => (hc i a hi).more hB⟩⟩
instance {α : Type} [Lay α] : Lay (List α) where
  size := 1
  lies w B vs a := ∃ A n c, vs = [.slice A n c] ∧ n ≤ c ∧ c ≤ maxLen ∧ (A = none → c = 0) ∧ LiesSlice w B A n a
  length := by rintro w B vs a ⟨A, n, c, rfl, _⟩; rfl
  keep := by rintro w w' B vs a ⟨A, n, c, rfl, h1, h2, h3, h4⟩ hk; exact ⟨A, n, c, rfl, h1, h2, h3, h4.keep hk⟩
  more := by rintro w B B' vs a ⟨A, n, c, rfl, h1, h2, h3, h4⟩ hB; exact ⟨A, n, c, rfl, h1, h2, h3, h4.more hB⟩
instance {α : Type} [Lay α] {n : Nat} : Lay (Vec n α) where
  size := n * Lay.size α
  lies w B vs a := vs.length = n * Lay.size α ∧ ∀ i x, a.l[i]? = some x → Lay.lies w B ((vs.drop (i * Lay.size α)).take (Lay.size α)) x
  length h := h.1
  keep h hk := ⟨h.1, fun i x hx => Lay.keep (h.2 i x hx) hk⟩
  more h hB := ⟨h.1, fun i x hx => Lay.more (h.2 i x hx) hB⟩

/-! ### what can be read lies so -/
/-- a value of type t that can be read is one of the Lean type -/
def Opens (P : Program) (t : TypeId) (α : Type) [Lay α] : Prop :=
  ∀ {H : Type} {enc : TypeId × Value → H} {w : World} {fuel : Nat} {cs : List Value} {x : DataW H × List MemPlace},
    DataW.trod enc P w 0 (fun _ => true) true fuel t cs = some x → ∃ a : α, ∀ B, (∀ p ∈ x.2, p.block < B) → Lay.lies w B cs a
section
variable {P : Program} {t e : TypeId}
theorem opens_int {k : IntKind} (ht : P.underlying t = some (.int k)) : Opens P t (Nm k) := by
  intro H enc w fuel cs x h
  obtain ⟨n, rfl, _, hw⟩ := DataW.trod_int ht h
  exact ⟨⟨n, hw⟩, fun _ _ => rfl⟩
theorem opens_bool (ht : P.underlying t = some .bool) : Opens P t Bool := by
  intro H enc w fuel cs x h
  obtain ⟨b, rfl, _⟩ := DataW.trod_bool ht h
  exact ⟨b, fun _ _ => rfl⟩
theorem opens_string (ht : P.underlying t = some .string) : Opens P t Str := by
  intro H enc w fuel cs x h
  obtain ⟨s, rfl, _, hs⟩ := DataW.trod_string ht h
  exact ⟨⟨s, hs⟩, fun _ _ => rfl⟩
theorem opens_float (ht : P.underlying t = some (.float .f64)) : Opens P t Fl := by
  intro H enc w fuel cs x h
  cases fuel with
  | zero => simp [DataW.trod] at h
  | succ n =>
    unfold DataW.trod at h
    rw [ht] at h
    split at h <;> simp_all
    rename_i k' b hk
    subst hk
    exact ⟨⟨b, h.1.2⟩, fun _ _ => rfl⟩
theorem opens_slice {α : Type} [Lay α] (ht : P.underlying t = some (.slice e)) (he : Opens P e α) (hc : P.cellsOf e = Lay.size α) (hp : 0 < Lay.size α) : Opens P t (List α) := by
  intro H enc w fuel cs x h
  rcases DataW.trod_slice ht h with ⟨rfl, rfl⟩ | ⟨a, len, cap, elems, rest, n, _, rfl, rfl, _, hl, hm, hlen, hel, _, _⟩
  · exact ⟨[], fun _ _ => ⟨none, 0, 0, rfl, Nat.le_refl _, Nat.zero_le _, fun _ => rfl, rfl, fun h0 => absurd h0 (Nat.lt_irrefl 0)⟩⟩
  · have each : ∀ i : Nat, i < len → ∃ v : α, ∀ B, (∀ y, elems[i]? = some y → ∀ p ∈ y.2, p.block < B) → LiesAt w B a i v := by
      intro i hi
      have hy : elems[i]? = some (elems[i]'(by omega)) := List.getElem?_eq_getElem (by omega)
      have h1 := hel i hi
      rw [hy] at h1
      obtain ⟨us, hu, ht'⟩ := Option.bind_eq_some_iff.1 h1
      obtain ⟨_, hul, hcell⟩ := World.cells?_some hu
      obtain ⟨v, hv⟩ := he ht'
      refine ⟨v, fun B hB => ⟨us, fun j hj => ?_, hv B (fun p hp' => hB _ hy p hp')⟩⟩
      rw [← hcell j (by omega), hc, add_of_add]
    have hch : ∃ f : Nat → Option α, ∀ i, i < len → ∃ v, f i = some v ∧ ∀ B, (∀ y, elems[i]? = some y → ∀ p ∈ y.2, p.block < B) → LiesAt w B a i v := by
      refine ⟨fun i => if hi : i < len then some (Classical.choose (each i hi)) else none, fun i hi => ⟨_, by simp only [hi, dif_pos], Classical.choose_spec (each i hi)⟩⟩
    obtain ⟨f, hf⟩ := hch
    have hx : ∃ xs : List α, xs.length = len ∧ ∀ i v, xs[i]? = some v → ∀ B, (∀ y, elems[i]? = some y → ∀ p ∈ y.2, p.block < B) → LiesAt w B a i v := by
      have key : ∀ m, m ≤ len → ∃ xs : List α, xs.length = m ∧ ∀ i v, xs[i]? = some v → ∀ B, (∀ y, elems[i]? = some y → ∀ p ∈ y.2, p.block < B) → LiesAt w B a i v := by
        intro m
        induction m with
        | zero => intro _; exact ⟨[], rfl, fun i v h0 => by simp at h0⟩
        | succ m ih =>
          intro hm'
          obtain ⟨xs, hxl, hxs⟩ := ih (by omega)
          obtain ⟨v, _, hv⟩ := hf m (by omega)
          refine ⟨xs ++ [v], by simp [hxl], fun i u hu => ?_⟩
          rw [List.getElem?_append] at hu
          split at hu
          · exact hxs i u hu
          · rename_i hi
            have : i - xs.length = 0 := by
              rcases Nat.eq_zero_or_pos (i - xs.length) with h0 | h0
              · exact h0
              · rw [List.getElem?_eq_none (by simp; omega)] at hu; cases hu
            rw [this] at hu
            obtain rfl : i = m := by omega
            injection hu with hu
            subst hu
            exact hv
      exact key len (Nat.le_refl _)
    obtain ⟨xs, hxl, hxs⟩ := hx
    refine ⟨xs, fun B hB => ⟨some a, len, cap, rfl, hl, hm, (fun h0 => by cases h0), hxl, fun hn => ⟨a, rfl, ?_, fun i v hv => hxs i v hv B ?_⟩⟩⟩
    · refine hB (.cell a.block (a.off + 0)) ?_
      simp only [MemPlace.row, List.mem_append, List.mem_map, List.mem_range]
      left
      refine ⟨0, ?_, rfl⟩
      rw [hc, hlen]
      exact Nat.mul_pos (by omega) hp
    · intro y hy p hp'
      refine hB p ?_
      simp only [List.mem_append, List.mem_flatMap]
      exact Or.inr ⟨y, Or.inl (List.mem_of_getElem? hy), hp'⟩
/-- the fields of a struct from a place on -/
def OpensF (P : Program) (fs : List Field) (off : Nat) (α : Type) [Lay α] : Prop :=
  ∀ {H : Type} {enc : TypeId × Value → H} {w : World} {n : Nat} {cs : List Value} {xs : List (DataW H × List MemPlace)}, xs.length = fs.length → cs.length = off + Lay.size α →
    (∀ (i : Nat) (f : Field), fs[i]? = some f → DataW.trod enc P w 0 (fun _ => true) true n f.type ((cs.drop f.offset).take (P.cellsOf f.type)) = xs[i]?) → ∃ a : α, ∀ B, (∀ x ∈ xs, ∀ p ∈ x.2, p.block < B) → Lay.lies w B (cs.drop off) a
theorem opensF_one {α : Type} [Lay α] {f : Field} {off : Nat} (ho : f.offset = off) (h : Opens P f.type α) (hc : P.cellsOf f.type = Lay.size α) : OpensF P [f] off α := by
  intro H enc w n cs xs hl hcs hi
  match xs, hl with
  | [x], _ =>
    have h0 := hi 0 f rfl
    rw [hc, ho, List.take_of_length_le (by simp; omega)] at h0
    obtain ⟨a, ha⟩ := h (show _ = some x from h0)
    exact ⟨a, fun B hB => ha B (hB x (by simp))⟩
theorem opensF_cons {α β : Type} [Lay α] [Lay β] {f : Field} {fs : List Field} {off off' : Nat} (ho : f.offset = off) (h : Opens P f.type α) (hc : P.cellsOf f.type = Lay.size α) (hs : OpensF P fs off' β) (ho' : off' = off + Lay.size α) : OpensF P (f :: fs) off (α × β) := by
  intro H enc w n cs xs hl hcs hi
  have hsz : Lay.size (α × β) = Lay.size α + Lay.size β := rfl
  match xs, hl with
  | x :: xs, hl =>
    have h0 := hi 0 f rfl
    rw [hc, ho] at h0
    obtain ⟨a, ha⟩ := h (show _ = some x from h0)
    obtain ⟨b, hb⟩ := hs (cs := cs) (xs := xs) (by simpa using hl) (by rw [hcs, hsz, ho']; omega) (fun i g hg => hi (i + 1) g hg)
    refine ⟨(a, b), fun B hB => ⟨(cs.drop off).take (Lay.size α), cs.drop off', ?_, ha B (hB x (by simp)), hb B (fun y hy => hB y (by simp [hy]))⟩⟩
    rw [ho', ← List.drop_drop, List.take_append_drop]
theorem opens_struct {α : Type} [Lay α] {fs : Array Field} (ht : P.underlying t = some (.struct fs)) (hf : OpensF P fs.toList 0 α) (hc : P.cellsOf t = Lay.size α) : Opens P t α := by
  intro H enc w fuel cs x h
  obtain ⟨xs, n, _, rfl, hcl, hxl, hi⟩ := DataW.trod_struct ht h
  obtain ⟨a, ha⟩ := hf (cs := cs) (xs := xs) (by simpa using hxl) (by rw [hcl, hc]; omega) (fun i f hf' => hi i f (by simpa using hf'))
  refine ⟨a, fun B hB => ?_⟩
  have := ha B (fun y hy p hp => hB p (by simp only [List.mem_flatMap]; exact ⟨y, hy, hp⟩))
  simpa using this
theorem opens_array {α : Type} [Lay α] {n : Nat} (ht : P.underlying t = some (.array n e)) (he : Opens P e α) (hc : P.cellsOf e = Lay.size α) (hct : P.cellsOf t = n * Lay.size α) : Opens P t (Vec n α) := by
  intro H enc w fuel cs x h
  obtain ⟨xs, m, _, rfl, hcl, hxl, hi⟩ := DataW.trod_array ht h
  have key : ∀ m', m' ≤ n → ∃ l : List α, l.length = m' ∧ ∀ i v, l[i]? = some v → ∀ B, (∀ y ∈ xs, ∀ p ∈ y.2, p.block < B) → Lay.lies w B ((cs.drop (i * Lay.size α)).take (Lay.size α)) v := by
    intro m'
    induction m' with
    | zero => intro _; exact ⟨[], rfl, fun i v h0 => by simp at h0⟩
    | succ m' ih =>
      intro hm'
      obtain ⟨l, hl, hls⟩ := ih (by omega)
      have h1 := hi m' (by omega)
      have hy : xs[m']? = some (xs[m']'(by omega)) := List.getElem?_eq_getElem (by omega)
      rw [hy, hc] at h1
      obtain ⟨v, hv⟩ := he h1
      refine ⟨l ++ [v], by simp [hl], fun i u hu => ?_⟩
      rw [List.getElem?_append] at hu
      split at hu
      · exact hls i u hu
      · have : i - l.length = 0 := by
          rcases Nat.eq_zero_or_pos (i - l.length) with h0 | h0
          · exact h0
          · rw [List.getElem?_eq_none (by simp; omega)] at hu; cases hu
        rw [this] at hu
        obtain rfl : i = m' := by omega
        injection hu with hu
        subst hu
        exact fun B hB => hv B (hB _ (List.mem_of_getElem? hy))
  obtain ⟨l, hl, hls⟩ := key n (Nat.le_refl _)
  refine ⟨⟨l, hl⟩, fun B hB => ⟨by rw [hcl, hct], fun i v hv => hls i v hv B (fun y hy p hp => hB p (by simp only [List.mem_flatMap]; exact ⟨y, hy, hp⟩))⟩⟩
end

/-! ### arguments -/
section
variable {H : Type} {enc : TypeId × Value → H} {P : Program} {w : World} {r : Reach} {b0 : Nat} {t e : TypeId} {v : Value} {d : DataW H} {ps : List MemPlace}
theorem arg_slice {α : Type} [Lay α] (ho : Opens P t (List α)) (ht : P.underlying t = some (.slice e)) (hv : Value.okWide P w r b0 t v) (h : DataW.Trod enc P w 0 (fun _ => true) true t v d ps) (hb : ∀ p ∈ ps, p.block < w.heap.size) :
    ∃ A n c, ∃ xs : List α, v = .slice A n c ∧ n ≤ c ∧ c ≤ maxLen ∧ (A = none → c = 0) ∧ LiesSlice w w.heap.size A n xs := by
  obtain ⟨A0, n0, c0, rfl⟩ := okWide_slice ht hv
  obtain ⟨fuel, hf⟩ := h
  obtain ⟨a, ha⟩ := ho hf
  obtain ⟨A, n, c, he, h1, h2, h3, h4⟩ := ha w.heap.size hb
  simp [Value.cells] at he
  obtain ⟨rfl, rfl, rfl⟩ := he
  exact ⟨_, _, _, a, rfl, h1, h2, h3, h4⟩
theorem arg_struct {α : Type} [Lay α] {fs : Array Field} (ho : Opens P t α) (ht : P.underlying t = some (.struct fs)) (hv : Value.okWide P w r b0 t v) (h : DataW.Trod enc P w 0 (fun _ => true) true t v d ps) (hb : ∀ p ∈ ps, p.block < w.heap.size) :
    ∃ vs : List Value, ∃ a : α, v = .agg vs.toArray ∧ Lay.lies w w.heap.size vs a := by
  obtain ⟨cs, rfl, _⟩ := okWide_struct ht hv
  obtain ⟨fuel, hf⟩ := h
  obtain ⟨a, ha⟩ := ho hf
  exact ⟨cs.toList, a, rfl, ha _ hb⟩
theorem okWide_array' {n : Nat} (ht : P.underlying t = some (.array n e)) (h : Value.okWide P w r b0 t v) : ∃ cs, v = .agg cs ∧ cs.size = P.cellsOf t := by
  simp only [Value.okWide, ht] at h
  obtain ⟨cs, h1, h2, _⟩ := h
  exact ⟨cs, h1, h2⟩
theorem arg_array {α : Type} [Lay α] {n : Nat} (ho : Opens P t α) (ht : P.underlying t = some (.array n e)) (hv : Value.okWide P w r b0 t v) (h : DataW.Trod enc P w 0 (fun _ => true) true t v d ps) (hb : ∀ p ∈ ps, p.block < w.heap.size) :
    ∃ vs : List Value, ∃ a : α, v = .agg vs.toArray ∧ Lay.lies w w.heap.size vs a := by
  obtain ⟨cs, rfl, _⟩ := okWide_array' ht hv
  obtain ⟨fuel, hf⟩ := h
  obtain ⟨a, ha⟩ := ho hf
  exact ⟨cs.toList, a, rfl, ha _ hb⟩
end

/-! ### bytes and other numbers, as the walks want them -/
def zsOf {k : IntKind} (xs : List (Nm k)) : List Int := xs.map (·.z)
theorem LiesSlice.reads {k : IntKind} {w : World} {B n : Nat} {A : Option Addr} {xs : List (Nm k)} (h : LiesSlice w B A n xs) : Reads w B 1 A n (nums k (zsOf xs)) := by
  refine ⟨by simp [nums, zsOf, h.1], fun hn => ?_⟩
  obtain ⟨ad, e, hb, hc⟩ := h.2 hn
  refine ⟨ad, e, hb, fun j u hu => ?_⟩
  simp only [nums, zsOf, List.getElem?_map, Option.map_eq_some_iff] at hu
  obtain ⟨z, ⟨x, hx, rfl⟩, rfl⟩ := hu
  obtain ⟨us, hus, hl⟩ := hc j x hx
  obtain rfl : us = [.int k x.z] := hl
  have := hus 0 (show 0 < 1 by decide)
  simpa [show Lay.size (Nm k) = 1 from rfl] using this
theorem zsOf_u8 (xs : List (Nm .u8)) : ∀ z ∈ zsOf xs, 0 ≤ z ∧ z < 256 := by
  intro z hz
  simp only [zsOf, List.mem_map] at hz
  obtain ⟨x, _, rfl⟩ := hz
  have := x.ok
  simp [Lit.wf, IntKind.min, IntKind.max, IntKind.signed, IntKind.bits] at this
  omega
theorem Nm.u32 (x : Nm .u32) : 0 ≤ x.z ∧ x.z < 4294967296 := by
  have := x.ok
  simp [Lit.wf, IntKind.min, IntKind.max, IntKind.signed, IntKind.bits] at this
  omega
theorem Nm.u8 (x : Nm .u8) : 0 ≤ x.z ∧ x.z < 256 := by
  have := x.ok
  simp [Lit.wf, IntKind.min, IntKind.max, IntKind.signed, IntKind.bits] at this
  omega
theorem Nm.u64 (x : Nm .u64) : 0 ≤ x.z ∧ x.z ≤ 18446744073709551615 := by
  have := x.ok
  simp [Lit.wf, IntKind.min, IntKind.max, IntKind.signed, IntKind.bits] at this
  omega
theorem Nm.i64 (x : Nm .i64) : -9223372036854775808 ≤ x.z ∧ x.z ≤ 9223372036854775807 := by
  have := x.ok
  simp [Lit.wf, IntKind.min, IntKind.max, IntKind.signed, IntKind.bits] at this
  omega
end Go.Proofs.Ytdmfikedojgjbaa
