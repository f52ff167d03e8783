import Derived.Test.YtlipeplfjkgamaaTyps
import Derived.Test.YtlipeplfjkgamaaBase
import Derived.Laws.BitsAllLaws
import Derived.Test.YtlipeplfjkgamaaLogic
import Derived.Laws.StructEq
import Derived.Maps.OwnSet
import Derived.StringKeys
import Derived.DeepKeys5
/-
  Small things for walks: rows of the call's own that came later, sets as whole numbers, min.
-/
namespace Go.Proofs.Ytlipeplfjkgamaa
open Go.RowKit H
open Mk
set_option linter.unusedVariables false
/-- numbers as whole numbers -/
def zl (l : List Nat) : List Int := l.map fun n : Nat => (n : Int)
theorem zl_length (l : List Nat) : (zl l).length = l.length := by simp [zl]
theorem zl_snoc (l : List Nat) (a : Nat) : zl (l ++ [a]) = zl l ++ [(a : Int)] := by simp [zl]
theorem zl_getD (l : List Nat) (i : Nat) : (zl l).getD i 0 = ((l.getD i 0 : Nat) : Int) := by
  simp only [zl, List.getD, List.getElem?_map]
  cases l[i]? <;> rfl
theorem own_later {w w' : World} {b1 e1 s1 n1 e2 s2 n2 : Nat} {v1 v2 : Value} {x1 x2 : List Value} (h1 : w.ownsRow b1 e1 s1 v1 n1 x1) (h2 : w'.ownsRow w.heap.size e2 s2 v2 n2 x2) : v2.ownBlock = none ∨ v2.ownBlock ≠ v1.ownBlock := by
  cases hv : v2.ownBlock with
  | none => exact .inl rfl
  | some g =>
    refine .inr fun he => ?_
    have k1 := (h2.lt g hv).1
    have k2 := (h1.lt g he.symm).2
    omega
theorem grb_trans {a b c : World} {r : Option Nat} (h : a.grownBy b r) (k : b.grownBy c r) : a.grownBy c r :=
  ⟨k.os.trans h.os, k.tape.trans h.tape, k.output.trans h.output, Nat.le_trans h.size k.size, fun i hi hne => (k.block i (Nat.lt_of_lt_of_le hi h.size) hne).trans (h.block i hi hne)⟩
theorem own_nilN (w : World) (base : Nat) (e : TypeId) (k : IntKind) : w.ownsRow base e 1 (.slice none 0 0) 0 (nums k []) := own_nil w base e 1
theorem grown_ext {a b : World} {r : Option Nat} (h : Ext a b) : a.grownBy b r := ⟨Below.os h, Below.tape h, Below.output h, Ext.le h, fun i hi _ => Below.block h i hi⟩
theorem made_nums (k : IntKind) (q : Nat) : madeCells (Value.int k 0).cells (q * 1) = (nums k (List.replicate q 0)).toArray := by
  rw [Nat.mul_one]
  apply Array.ext'
  rw [show (Value.int k 0).cells = #[.int k 0] from rfl, toList_madeCells_one]
  simp [nums]
/-- whole numbers that are not less than nothing -/
theorem zl_of : ∀ (zs : List Int), (∀ z ∈ zs, 0 ≤ z) → zl (zs.map Int.toNat) = zs
  | [], _ => rfl
  | z :: zs, h => by
    have h1 := h z (by simp)
    have h2 := zl_of zs (fun u hu => h u (by simp [hu]))
    simp only [zl, List.map_cons] at h2 ⊢
    rw [h2, Int.toNat_of_nonneg h1]
theorem u32_list (xs : List (Nm .u32)) : ∃ vs : List Nat, zsOf xs = zl vs ∧ ∀ v ∈ vs, v < 4294967296 := by
  refine ⟨(zsOf xs).map Int.toNat, (zl_of _ ?_).symm, ?_⟩
  · intro z hz
    simp only [zsOf, List.mem_map] at hz
    obtain ⟨x, _, rfl⟩ := hz
    exact x.u32.1
  · intro v hv
    simp only [zsOf, List.mem_map] at hv
    obtain ⟨z, ⟨x, _, rfl⟩, rfl⟩ := hv
    have := x.u32
    omega
theorem vec3u {w : World} {B : Nat} {vs : List Value} {a : Vec 3 (Nm .u32)} (h : Lay.lies w B vs a) : ∃ y0 y1 y2 : Nat, (∀ v ∈ [y0, y1, y2], v < 4294967296) ∧ vs = nums .u32 (zl [y0, y1, y2]) := by
  obtain ⟨l, hl⟩ := a
  obtain ⟨h1, h2⟩ := h
  match l, hl with
  | [y0, y1, y2], _ =>
    have hs : vs.length = 3 := h1
    match vs, hs with
    | [v0, v1, v2], _ =>
      have g0 : [v0] = [.int .u32 y0.z] := h2 0 y0 rfl
      have g1 : [v1] = [.int .u32 y1.z] := h2 1 y1 rfl
      have g2 : [v2] = [.int .u32 y2.z] := h2 2 y2 rfl
      injection g0 with g0
      injection g1 with g1
      injection g2 with g2
      subst g0 g1 g2
      have b0 := y0.u32
      have b1 := y1.u32
      have b2 := y2.u32
      refine ⟨y0.z.toNat, y1.z.toNat, y2.z.toNat, ?_, ?_⟩
      · intro v hv
        simp only [List.mem_cons, List.not_mem_nil, or_false] at hv
        rcases hv with rfl | rfl | rfl <;> omega
      · simp only [zl, nums, List.map_cons, List.map_nil, Int.toNat_of_nonneg b0.1, Int.toNat_of_nonneg b1.1, Int.toNat_of_nonneg b2.1]
theorem blk_readsN {w : World} {t b q sz B : Nat} {l : List Value} (h : Blk w b t l.toArray) (hb : b < B) (hl : l.length = q * sz) : Reads w B sz (some ⟨b, 0, none⟩) q l := by
  refine ⟨hl, fun _ => ⟨⟨b, 0, none⟩, rfl, hb, fun j u hu => ?_⟩⟩
  have := h.cell j
  rw [Addr.add_mid, Nat.zero_add, this]
  simpa using hu
namespace H
/-- min of two numbers -/
theorem X.min2 {P : Program} {w : World} {f : Operand → Value} {x y : Operand} {k : IntKind} {m n : Int} {d : Option Tmp} {t ty : TypeId} {pos : String} {aft : Array Edge} {g : Option (Nat × Bool)} (hx : f x = .int k m) (hy : f y = .int k n) :
    (execOp f ⟨d, .call { callee := .builtin .min, args := #[x, y], argTypes := #[t, t] }, ty, pos, aft, g⟩).run P w = .ok (.value (.int k (min m n))) w := by
  have h : (min m n : Int) = if n < m then n else m := by rw [Int.min_def]; split <;> split <;> omega
  rw [h]
  simp [hx, hy, go_sem, Builtin.min_, Builtin.min2]
theorem X.loadRow {P : Program} {w : World} {f : Operand → Value} {x : Operand} {d : Option Tmp} {t ty : TypeId} {pos : String} {aft : Array Edge} {g : Option (Nat × Bool)} {A : Option Addr} {B size n j : Nat} {xs cs : List Value} {ds : TypeDesc} (hx : f x = pA A j) (hr : Reads w B size A n xs) (hcs : ∀ r v, cs[r]? = some v → xs[j + r]? = some v) (hp : 0 < cs.length) (hu : P.underlying t = some ds) (hd : ds.isRow = true) (hi : (P.info? t).map (·.size) = some cs.length) :
    (execOp f ⟨d, .load t x, ty, pos, aft, g⟩).run P w = .ok (.value (.agg cs.toArray)) w := by
  have h00 := hcs 0 _ (List.getElem?_eq_getElem hp)
  have hlt := (List.getElem?_eq_some_iff.1 h00).1
  have hn : 0 < n := Nat.pos_of_ne_zero (fun h0 => by have := hr.1; rw [h0, Nat.zero_mul] at this; omega)
  obtain ⟨⟨b, off, spot⟩, rfl, hb, hc⟩ := hr.2 hn
  have hs0 := hc 0 _ (List.getElem?_eq_getElem (by omega : 0 < xs.length))
  have hs : spot = none := by simpa [Addr.add] using World.cell?_spot hs0
  subst hs
  have hx' : f x = .pointer (some ⟨b, off + j, none⟩) := by rw [hx]; simp [pA, Addr.add_mid]
  refine X.loadAgg hx' (fun r v hv => ?_) hu hd hi
  have := hc _ _ (hcs r v hv)
  rw [Addr.add_mid] at this
  rw [Nat.add_assoc]
  exact this
end H
end Go.Proofs.Ytlipeplfjkgamaa
/-
  A slice of structs as a list of one's own data: what its cells are, one behind the other.
-/
namespace Go.Proofs.Ytlipeplfjkgamaa
open Go.RowKit
section
variable {X : Type} {f : X → List Value} {sz : Nat}
theorem flat_length (h : ∀ x, (f x).length = sz) (l : List X) : (l.flatMap f).length = l.length * sz := by
  induction l with
  | nil => simp
  | cons a l ih => rw [List.flatMap_cons, List.length_append, ih, h, List.length_cons, Nat.add_mul, Nat.one_mul, Nat.add_comm]
theorem flat_at (h : ∀ x, (f x).length = sz) : ∀ (l : List X) (i r : Nat), r < sz → (l.flatMap f)[i * sz + r]? = (l[i]?).bind fun x => (f x)[r]?
  | [], i, r, _ => by simp
  | a :: l, 0, r, hr => by
    rw [List.flatMap_cons, Nat.zero_mul, Nat.zero_add, List.getElem?_append_left (by rw [h]; exact hr)]
    rfl
  | a :: l, i + 1, r, hr => by
    rw [List.flatMap_cons, List.getElem?_append_right (by rw [h, Nat.add_mul]; omega), h, show (i + 1) * sz + r - sz = i * sz + r by rw [Nat.add_mul]; omega, flat_at h l i r hr]
    rfl
theorem flat_row (h : ∀ x, (f x).length = sz) {l : List X} {i : Nat} {x : X} (hi : l[i]? = some x) : ∀ (r : Nat) (u : Value), (f x)[r]? = some u → (l.flatMap f)[i * sz + r]? = some u := by
  intro r u hu
  have hr : r < sz := by rw [← h x]; exact (List.getElem?_eq_some_iff.1 hu).1
  rw [flat_at h l i r hr, hi]
  exact hu
theorem LiesSlice.rows {α : Type} [Lay α] {w : World} {B n : Nat} {A : Option Addr} {xs : List α} (hl : LiesSlice w B A n xs) {g : X → Prop} (h : ∀ x, (f x).length = Lay.size α) (hx : ∀ (us : List Value) (a : α), Lay.lies w B us a → ∃ x, us = f x ∧ g x) :
    ∃ l : List X, l.length = n ∧ Reads w B (Lay.size α) A n (l.flatMap f) ∧ ∀ x ∈ l, g x := by
  rcases Nat.eq_zero_or_pos n with h0 | hn
  · subst h0
    exact ⟨[], rfl, ⟨by simp, fun h0 => absurd h0 (Nat.lt_irrefl 0)⟩, fun x hx => by cases hx⟩
  obtain ⟨ad, rfl, hb, hc⟩ := hl.2 hn
  have key : ∀ m, m ≤ n → ∃ l : List X, l.length = m ∧ (∀ i x, l[i]? = some x → g x ∧ ∀ j, j < Lay.size α → w.cell? (ad.add (i * Lay.size α + j)) = (f x)[j]?) := by
    intro m
    induction m with
    | zero => intro _; exact ⟨[], rfl, fun i x hi => by simp at hi⟩
    | succ m ih =>
      intro hm
      obtain ⟨l, hll, hls⟩ := ih (by omega)
      have hmx : m < xs.length := by rw [hl.1]; omega
      obtain ⟨us, hus, hlies⟩ := hc m _ (List.getElem?_eq_getElem hmx)
      obtain ⟨x, rfl, hgx⟩ := hx us _ hlies
      refine ⟨l ++ [x], by simp [hll], fun i y hi => ?_⟩
      rcases Nat.lt_or_ge i l.length with hlt | hge
      · rw [List.getElem?_append_left hlt] at hi
        exact hls i y hi
      · have hi2 : i < (l ++ [x]).length := (List.getElem?_eq_some_iff.1 hi).1
        obtain rfl : i = m := by simp at hi2; omega
        rw [List.getElem?_append_right (by omega), hll, Nat.sub_self] at hi
        injection hi with hi
        subst hi
        exact ⟨hgx, hus⟩
  obtain ⟨l, hll, hls⟩ := key n (Nat.le_refl _)
  refine ⟨l, hll, ⟨by rw [flat_length h, hll], fun _ => ⟨ad, rfl, hb, fun j u hu => ?_⟩⟩, fun x hx => ?_⟩
  · have hj : j < n * Lay.size α := by rw [← hll, ← flat_length h l]; exact (List.getElem?_eq_some_iff.1 hu).1
    have hs : 0 < Lay.size α := Nat.pos_of_ne_zero (fun h0 => by rw [h0] at hj; omega)
    have hr := Nat.mod_lt j hs
    have e : j / Lay.size α * Lay.size α + j % Lay.size α = j := by rw [Nat.mul_comm]; exact Nat.div_add_mod j _
    have hu2 := hu
    rw [← e, flat_at h l _ _ hr] at hu2
    obtain ⟨x, hx1, hx2⟩ := Option.bind_eq_some_iff.1 hu2
    rw [← e, (hls _ x hx1).2 _ hr, hx2]
  · obtain ⟨i, hi, rfl⟩ := List.getElem_of_mem hx
    exact (hls i _ (List.getElem?_eq_getElem hi)).1
end
theorem LiesSlice.bools {w : World} {B n : Nat} {A : Option Addr} {xs : List Bool} (h : LiesSlice w B A n xs) : Reads w B 1 A n (xs.map Value.bool) := by
  refine ⟨by simp [h.1], fun hn => ?_⟩
  obtain ⟨ad, e, hb, hc⟩ := h.2 hn
  refine ⟨ad, e, hb, fun j u hu => ?_⟩
  simp only [List.getElem?_map, Option.map_eq_some_iff] at hu
  obtain ⟨x, hx, rfl⟩ := hu
  obtain ⟨us, hus, hl⟩ := hc j x hx
  obtain rfl : us = [.bool x] := hl
  have := hus 0 (show 0 < 1 by decide)
  simpa [show Lay.size Bool = 1 from rfl] using this
end Go.Proofs.Ytlipeplfjkgamaa
/-
  Structs of two fields compared.
-/
namespace Go.Proofs.Ytlipeplfjkgamaa
set_option maxRecDepth 100000
open Go.RowKit H
set_option linter.unusedVariables false
namespace H
section
variable {P : Program} {w : World} {d : Option Tmp} {ty t tx tz t1 t2 : TypeId} {pos : String} {aft : Array Edge} {g : Option (Nat × Bool)} {x y : Operand} {ρ : Operand → Value}
/-- a struct of two fields of one cell each -/
structure Two (P : Program) (t t1 t2 : TypeId) : Prop where
  ht : P.underlying t = some (.struct (P.fieldsOf t))
  hp : P.stoodInHeld t = false
  hm : P.eqGuardType P.depth t = false
  hf : (P.fieldsOf t).toList.map (fun f => (f.name != "_", f.type, f.offset)) = [(true, t1, 0), (true, t2, 1)]
theorem Two.eq (h : Two P t t1 t2) {a1 a2 b1 b2 : Value} {r1 r2 : Bool} (h1 : ∀ w : World, (Op.equalIn 9999 t1 a1 b1).run P w = .ok r1 w) (h2 : ∀ w : World, (Op.equalIn 9999 t2 a2 b2).run P w = .ok r2 w) (s1 : Scal P t1) (s2 : Scal P t2) :
    (Op.equalIn 10000 t (.agg #[a1, a2]) (.agg #[b1, b2])).run P w = .ok (r1 && r2) w := by
  rw [run_equalIn_agg w 9999 t _ _ h.ht h.hp]
  have hf := h.hf
  generalize (P.fieldsOf t).toList = fs at hf
  obtain ⟨f1, f2, rfl⟩ : ∃ f1 f2, fs = [f1, f2] := by
    rcases fs with _ | ⟨f1, _ | ⟨f2, _ | ⟨f3, fs⟩⟩⟩
    · cases hf
    · simp at hf
    · exact ⟨f1, f2, rfl⟩
    · simp at hf
  · simp only [List.map_cons, List.map_nil, List.cons.injEq, Prod.mk.injEq, and_true] at hf
    obtain ⟨⟨n1, rfl, o1⟩, n2, rfl, o2⟩ := hf
    have n1' : f1.name ≠ "_" := by simpa using n1
    have n2' : f2.name ≠ "_" := by simpa using n2
    have p1 : ∀ (u v : Value) (w : World), (part f1.type #[u, v] f1.offset).run P w = .ok u w := fun u v w => by
      rw [o1]
      simp [part, s1 w, Result.andThen]
    have p2 : ∀ (u v : Value) (w : World), (part f2.type #[u, v] f2.offset).run P w = .ok v w := fun u v w => by
      rw [o2]
      simp [part, s2 w, Result.andThen]
    cases r1 <;> cases r2 <;> simp [Op.eqFields, n1', n2', p1, p2, h1, h2, Result.andThen]
theorem X.eqlTwo {a1 a2 b1 b2 : Value} {r1 r2 : Bool} (h : Two P tx t1 t2) (hx : ρ x = .agg #[a1, a2]) (hy : ρ y = .agg #[b1, b2]) (s1 : Scal P t1) (s2 : Scal P t2) (h1 : ∀ w : World, (Op.equalIn 9999 t1 a1 b1).run P w = .ok r1 w) (h2 : ∀ w : World, (Op.equalIn 9999 t2 a2 b2).run P w = .ok r2 w) :
    (execOp ρ ⟨d, .binOp .eql tx x y tz, ty, pos, aft, g⟩).run P w = .ok (.value (.bool (r1 && r2))) w := by
  simp only [execOp, hx, hy, Sem.run_bind, run_eqGuard_agg w .eql tx x y _ _ h.hm, Result.andThen_ok, run_eql_struct, h.eq h1 h2 s1 s2, Sem.run_pure]
theorem X.neqTwo {a1 a2 b1 b2 : Value} {r1 r2 : Bool} (h : Two P tx t1 t2) (hx : ρ x = .agg #[a1, a2]) (hy : ρ y = .agg #[b1, b2]) (s1 : Scal P t1) (s2 : Scal P t2) (h1 : ∀ w : World, (Op.equalIn 9999 t1 a1 b1).run P w = .ok r1 w) (h2 : ∀ w : World, (Op.equalIn 9999 t2 a2 b2).run P w = .ok r2 w) :
    (execOp ρ ⟨d, .binOp .neq tx x y tz, ty, pos, aft, g⟩).run P w = .ok (.value (.bool (!(r1 && r2)))) w := by
  simp only [execOp, hx, hy, Sem.run_bind, run_eqGuard_agg w .neq tx x y _ _ h.hm, Result.andThen_ok, run_neq_struct, h.eq h1 h2 s1 s2, Sem.run_pure]
theorem eq_int {k : IntKind} {a b : Int} (h : P.underlying t = some (.int k)) : ∀ w : World, (Op.equalIn 9999 t (.int k a) (.int k b)).run P w = .ok (a == b) w := fun w => run_equalIn_int w 9998 t k k a b h
theorem eq_str {a b : ByteArray} (h : P.underlying t = some .string) : ∀ w : World, (Op.equalIn 9999 t (.string a) (.string b)).run P w = .ok (decide (a = b)) w := fun w => by
  rw [run_equalIn_string w 9998 t a b h, str_dec]
/-- one text behind another -/
theorem X.addS {a b : ByteArray} (hx : ρ x = .string a) (hy : ρ y = .string b) (h : a.size + b.size ≤ 9223372036854775807) : (execOp ρ ⟨d, .binOp .add tx x y tz, ty, pos, aft, g⟩).run P w = .ok (.value (.string (a ++ b))) w := by
  refine X.bin hx hy (by simp [go_sem]) ?_
  simp only [binOp, Op.stringOp]
  rw [if_neg (by simp [IntKind.max, IntKind.signed, IntKind.bits]; omega)]
  rfl
end
end H
end Go.Proofs.Ytlipeplfjkgamaa
/-
  Maps of the call's own, from texts to whole numbers, as functions.
-/
namespace Go.Proofs.Ytlipeplfjkgamaa
set_option maxRecDepth 100000
open Go.RowKit H
open Go.MapKept Go.ChangeMaps Go.WideMaps
set_option linter.unusedVariables false
namespace H
section
variable {P : Program} {k e t : TypeId} {w w' : World} {b n : Nat} {f : ByteArray → Option Int}
/-- block b is a map that answers as f -/
def MapSI (P : Program) (k e : TypeId) (w : World) (b n : Nat) (f : ByteArray → Option Int) : Prop :=
  ∃ D : DataW Unit, w.ownsMap P k (plainElem P e) b n D ∧ ∀ s : ByteArray, s.size ≤ maxLen → Maps.has D (.string s.data.toList) = (f s).isSome ∧ D.atKey (.string s.data.toList) (.lit (.int .i64 0)) = .lit (.int .i64 ((f s).getD 0))
theorem MapSI.made (P : Program) (k e : TypeId) (w : World) : MapSI P k e (w.alloc (.map #[] 0)) w.heap.size 0 (fun _ => none) :=
  ⟨.map [], World.ownsMap_made w P k _, fun s _ => ⟨rfl, rfl⟩⟩
theorem MapSI.kept {row : Option Nat} (h : MapSI P k e w b n f) (hg : w.grownBy w' row) (hne : some b ≠ row) : MapSI P k e w' b n f := by
  obtain ⟨D, h1, h2⟩ := h
  exact ⟨D, h1.kept hg hne, h2⟩
theorem MapSI.ext (h : MapSI P k e w b n f) (he : Ext w w') : MapSI P k e w' b n f :=
  h.kept (row := none) ⟨Below.os he, Below.tape he, Below.output he, Ext.le he, fun i hi _ => Below.block he i hi⟩ (by simp)
theorem MapSI.lt (h : MapSI P k e w b n f) : b < w.heap.size := by
  obtain ⟨D, h1, _⟩ := h
  exact h1.lt
theorem MapSI.look (h : MapSI P k e w b n f) (ht : P.underlying t = some (.map k e)) (hk : P.underlying k = some .string) (he : P.underlying e = some (.int .i64)) (hz : (zeroValue e).run P w = .ok (.int .i64 0) w) {s : ByteArray} (hs : s.size ≤ maxLen) :
    (Instr.lookup t (.map (some b)) (.string s) true).run P w = .ok (.tuple #[.int .i64 ((f s).getD 0), .bool (f s).isSome]) w := by
  obtain ⟨D, h1, h2⟩ := h
  obtain ⟨v, ps, hrun, hv⟩ := h1.look_ok (Maps.string_keyed hk) ht hz (plainElem_int he (by decide)) (keyOf_string_mk hk hs)
  obtain ⟨a, rfl, ha, _⟩ := plainElem_int_inv he hv
  obtain ⟨g1, g2⟩ := h2 s hs
  rw [hrun, g1]
  have := congrArg Prod.fst ha
  simp only [g2] at this
  injection this with this
  injection this with _ this
  rw [this]
theorem MapSI.put (h : MapSI P k e w b n f) (ht : P.underlying t = some (.map k e)) (hk : P.underlying k = some .string) (he : P.underlying e = some (.int .i64)) (hn : n < maxLen) {s : ByteArray} (hs : s.size ≤ maxLen) {v : Int} (hv : (Lit.int .i64 v).wf = true) :
    ∃ w', (Instr.mapUpdate t (.map (some b)) (.string s) (.int .i64 v)).run P w = .ok () w' ∧ MapSI P k e w' b (n + 1) (fun x => if x = s then some v else f x) ∧ w.grownBy w' (some b) := by
  obtain ⟨D, h1, h2⟩ := h
  have hkey := keyOf_string_mk (P := P) hk hs
  obtain ⟨w', hrun, r1, r2⟩ := h1.update (Maps.string_keyed hk) ht hn hkey (plainElem_int he hv)
  refine ⟨w', hrun, ⟨_, r1, fun x hx => ?_⟩, r2⟩
  by_cases hxs : x = s
  · subst hxs
    rw [Maps.has_put_same h1.isMap ((Maps.string_keyed hk).key hkey), Maps.atKey_put_same h1.isMap ((Maps.string_keyed hk).key hkey)]
    simp
  · have hne : Lit.string x.data.toList ≠ Lit.string s.data.toList := by
      intro hh
      injection hh with hh
      apply hxs
      cases x; cases s
      simp only at hh
      rw [Array.toList_inj.1 hh]
    rw [Maps.has_put_other hne, Maps.atKey_put_other hne]
    simp only [if_neg hxs]
    exact h2 x hx
theorem wf64 {v : Int} (h : -9223372036854775808 ≤ v ∧ v ≤ 9223372036854775807) : (Lit.int .i64 v).wf = true := by
  simp [Lit.wf, IntKind.min, IntKind.max, IntKind.signed, IntKind.bits]; omega
/-! the operations -/
variable {nn : Nat} {Q : Exit → Fr → World → Prop} {ops rest : List Oper} {fr : Fr} {ty : TypeId} {pos : String} {aft : Array Edge} {d : Option Tmp} {g : Option (Nat × Bool)}
theorem L.makeMap {z : Operand} {kz : IntKind} {m : Int} (hg : wn ops fr g = true) (hz : ev fr z = .int kz m) (ht : P.underlying t = some (.map k e))
    (h : ∀ b w', b = w.heap.size → w'.heap.size = w.heap.size + 1 → MapSI P k e w' b 0 (fun _ => none) → Ext w w' → L P nn ops Q rest (putO fr d (.map (some b))) w') :
    L P nn ops Q (⟨d, .makeMap t (some z), ty, pos, aft, g⟩ :: rest) fr w := by
  refine L.val (w' := w.alloc (.map #[] 0)) (v := .map (some w.heap.size)) hg ?_ (h w.heap.size _ rfl (by simp) (MapSI.made P k e w) (Ext.alloc _ _))
  simp [execOp, hz, Instr.makeMap, run_underlying ht, asInt, asIntOf, Result.andThen]
theorem X.look {f : Operand → Value} {x y : Operand} {F : ByteArray → Option Int} {b n : Nat} {s : ByteArray} (hx : f x = .map (some b)) (hy : f y = .string s) (h : MapSI P k e w b n F) (ht : P.underlying t = some (.map k e)) (hk : P.underlying k = some .string) (he : P.underlying e = some (.int .i64)) (hz : (zeroValue e).run P w = .ok (.int .i64 0) w) (hs : s.size ≤ maxLen) :
    (execOp f ⟨d, .lookup t x y true, ty, pos, aft, g⟩).run P w = .ok (.value (.tuple #[.int .i64 ((F s).getD 0), .bool (F s).isSome])) w := by
  simp [execOp, hx, hy, h.look ht hk he hz hs, Result.andThen]
theorem L.mapPut {x y z : Operand} {F : ByteArray → Option Int} {b n : Nat} {s : ByteArray} {v : Int} (hg : wn ops fr g = true) (hx : ev fr x = .map (some b)) (hy : ev fr y = .string s) (hv : ev fr z = .int .i64 v) (h : MapSI P k e w b n F) (ht : P.underlying t = some (.map k e)) (hk : P.underlying k = some .string) (he : P.underlying e = some (.int .i64)) (hn : n < maxLen) (hs : s.size ≤ maxLen) (hw : (Lit.int .i64 v).wf = true)
    (hK : ∀ w', MapSI P k e w' b (n + 1) (fun x => if x = s then some v else F x) → w.grownBy w' (some b) → L P nn ops Q rest (putO fr d undef) w') :
    L P nn ops Q (⟨d, .mapUpdate t x y z, ty, pos, aft, g⟩ :: rest) fr w := by
  obtain ⟨w', hrun, r1, r2⟩ := h.put ht hk he hn hs hw
  refine L.skip hg ?_ (hK w' r1 r2)
  simp [execOp, hx, hy, hv, hrun, Result.andThen]
end
end H
namespace H
theorem Ld.flat2 {X : Type} {f : X → List Value} {sz B n : Nat} {A : Option Addr} {w : World} {l : List X} (hf : ∀ x, (f x).length = sz) (h : Reads w B sz A n (l.flatMap f)) {i : Nat} {x : X} (hi : l[i]? = some x) {r : Nat} {u : Value} (hu : (f x)[r]? = some u) : Ld w (pA A (i * sz + r)) u := by
  have h2 := flat_row hf hi r u hu
  have hj : i * sz + r < n * sz := by rw [← h.1]; exact (List.getElem?_eq_some_iff.1 h2).1
  have h1 := Ld.rd h hj
  rw [List.getD, h2] at h1
  exact h1
end H
theorem own_apart {w : World} {b1 b2 e1 e2 s1 s2 n1 n2 g : Nat} {v1 v2 : Value} {x1 x2 : List Value} (h1 : w.ownsRow b1 e1 s1 v1 n1 x1) (h2 : w.ownsRow b2 e2 s2 v2 n2 x2) (hne : e1 ≠ e2) (hg : v1.ownBlock = some g) : v2.ownBlock ≠ some g := by
  intro hg2
  rcases h1.2 with ⟨rfl, _⟩ | ⟨b, cap, cur, rfl, _, hh, _⟩
  · cases hg
  · rcases h2.2 with ⟨rfl, _⟩ | ⟨b', cap', cur', rfl, _, hh', _⟩
    · cases hg2
    · have a1 : b = g := by injection hg
      have a2 : b' = g := by injection hg2
      subst a1
      subst a2
      have e := hh.symm.trans hh'
      injection e with e
      injection e with _ e _
      exact hne e
theorem own_or {w : World} {b1 b2 e1 e2 s1 s2 n1 n2 : Nat} {v1 v2 : Value} {x1 x2 : List Value} (h1 : w.ownsRow b1 e1 s1 v1 n1 x1) (h2 : w.ownsRow b2 e2 s2 v2 n2 x2) (hne : e1 ≠ e2) : v1.ownBlock = none ∨ v1.ownBlock ≠ v2.ownBlock := by
  cases h : v1.ownBlock with
  | none => exact .inl rfl
  | some g => exact .inr (fun e => own_apart h1 h2 hne h e.symm)
end Go.Proofs.Ytlipeplfjkgamaa
