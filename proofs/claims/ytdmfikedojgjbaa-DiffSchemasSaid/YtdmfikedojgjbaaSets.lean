/-
  Small things for walks: rows of the call's own that came later, sets as whole numbers, min.
-/
import Derived.Test.YtdmfikedojgjbaaTyps
import Derived.Test.YtdmfikedojgjbaaMask
import Derived.Test.YtdmfikedojgjbaaOpen
import Derived.Laws.BitsAllLaws
namespace Go.Proofs.Ytdmfikedojgjbaa
open Go.RowKit H
open Mk
set_option linter.unusedVariables false
/-- numbers as whole numbers -/
def zl (l : List Nat) : List Int := l.map fun n : Nat => (n : Int)
theorem zl_length (l : List Nat) : (zl l).length = l.length := by simp [zl]
theorem zl_snoc (l : List Nat) (a : Nat) : zl (l ++ [a]) = zl l ++ [(a : Int)] := by simp [zl]
theorem zl_getD (l : List Nat) (i : Nat) : (zl l).getD i 0 = ((l.getD i 0 : Nat) : Int) := by
  simp only [zl, List.getD, List.getElem?_map]
  cases l[i]? <;> rfl
theorem own_later {w w' : World} {b1 e1 s1 n1 e2 s2 n2 : Nat} {v1 v2 : Value} {x1 x2 : List Value} (h1 : w.ownsRow b1 e1 s1 v1 n1 x1) (h2 : w'.ownsRow w.heap.size e2 s2 v2 n2 x2) : v2.ownBlock = none ∨ v2.ownBlock ≠ v1.ownBlock := by
  cases hv : v2.ownBlock with
  | none => exact .inl rfl
  | some g =>
    refine .inr fun he => ?_
    have k1 := (h2.lt g hv).1
    have k2 := (h1.lt g he.symm).2
    omega
theorem grb_trans {a b c : World} {r : Option Nat} (h : a.grownBy b r) (k : b.grownBy c r) : a.grownBy c r :=
  ⟨k.os.trans h.os, k.tape.trans h.tape, k.output.trans h.output, Nat.le_trans h.size k.size, fun i hi hne => (k.block i (Nat.lt_of_lt_of_le hi h.size) hne).trans (h.block i hi hne)⟩
theorem own_nilN (w : World) (base : Nat) (e : TypeId) (k : IntKind) : w.ownsRow base e 1 (.slice none 0 0) 0 (nums k []) := own_nil w base e 1
theorem grown_ext {a b : World} {r : Option Nat} (h : Ext a b) : a.grownBy b r := ⟨Below.os h, Below.tape h, Below.output h, Ext.le h, fun i hi _ => Below.block h i hi⟩
theorem made_nums (k : IntKind) (q : Nat) : madeCells (Value.int k 0).cells (q * 1) = (nums k (List.replicate q 0)).toArray := by
  rw [Nat.mul_one]
  apply Array.ext'
  rw [show (Value.int k 0).cells = #[.int k 0] from rfl, toList_madeCells_one]
  simp [nums]
/-- whole numbers that are not less than nothing -/
theorem zl_of : ∀ (zs : List Int), (∀ z ∈ zs, 0 ≤ z) → zl (zs.map Int.toNat) = zs
  | [], _ => rfl
  | z :: zs, h => by
    have h1 := h z (by simp)
    have h2 := zl_of zs (fun u hu => h u (by simp [hu]))
    simp only [zl, List.map_cons] at h2 ⊢
    rw [h2, Int.toNat_of_nonneg h1]
theorem u32_list (xs : List (Nm .u32)) : ∃ vs : List Nat, zsOf xs = zl vs ∧ ∀ v ∈ vs, v < 4294967296 := by
  refine ⟨(zsOf xs).map Int.toNat, (zl_of _ ?_).symm, ?_⟩
  · intro z hz
    simp only [zsOf, List.mem_map] at hz
    obtain ⟨x, _, rfl⟩ := hz
    exact x.u32.1
  · intro v hv
    simp only [zsOf, List.mem_map] at hv
    obtain ⟨z, ⟨x, _, rfl⟩, rfl⟩ := hv
    have := x.u32
    omega
theorem vec3u {w : World} {B : Nat} {vs : List Value} {a : Vec 3 (Nm .u32)} (h : Lay.lies w B vs a) : ∃ y0 y1 y2 : Nat, (∀ v ∈ [y0, y1, y2], v < 4294967296) ∧ vs = nums .u32 (zl [y0, y1, y2]) := by
  obtain ⟨l, hl⟩ := a
  obtain ⟨h1, h2⟩ := h
  match l, hl with
  | [y0, y1, y2], _ =>
    have hs : vs.length = 3 := h1
    match vs, hs with
    | [v0, v1, v2], _ =>
      have g0 : [v0] = [.int .u32 y0.z] := h2 0 y0 rfl
      have g1 : [v1] = [.int .u32 y1.z] := h2 1 y1 rfl
      have g2 : [v2] = [.int .u32 y2.z] := h2 2 y2 rfl
      injection g0 with g0
      injection g1 with g1
      injection g2 with g2
      subst g0 g1 g2
      have b0 := y0.u32
      have b1 := y1.u32
      have b2 := y2.u32
      refine ⟨y0.z.toNat, y1.z.toNat, y2.z.toNat, ?_, ?_⟩
      · intro v hv
        simp only [List.mem_cons, List.not_mem_nil, or_false] at hv
        rcases hv with rfl | rfl | rfl <;> omega
      · simp only [zl, nums, List.map_cons, List.map_nil, Int.toNat_of_nonneg b0.1, Int.toNat_of_nonneg b1.1, Int.toNat_of_nonneg b2.1]
theorem blk_readsN {w : World} {t b q sz B : Nat} {l : List Value} (h : Blk w b t l.toArray) (hb : b < B) (hl : l.length = q * sz) : Reads w B sz (some ⟨b, 0, none⟩) q l := by
  refine ⟨hl, fun _ => ⟨⟨b, 0, none⟩, rfl, hb, fun j u hu => ?_⟩⟩
  have := h.cell j
  rw [Addr.add_mid, Nat.zero_add, this]
  simpa using hu
namespace H
/-- min of two numbers -/
theorem X.min2 {P : Program} {w : World} {f : Operand → Value} {x y : Operand} {k : IntKind} {m n : Int} {d : Option Tmp} {t ty : TypeId} {pos : String} {aft : Array Edge} {g : Option (Nat × Bool)} (hx : f x = .int k m) (hy : f y = .int k n) :
    (execOp f ⟨d, .call { callee := .builtin .min, args := #[x, y], argTypes := #[t, t] }, ty, pos, aft, g⟩).run P w = .ok (.value (.int k (min m n))) w := by
  have h : (min m n : Int) = if n < m then n else m := by rw [Int.min_def]; split <;> split <;> omega
  rw [h]
  simp [hx, hy, go_sem, Builtin.min_, Builtin.min2]
theorem X.loadRow {P : Program} {w : World} {f : Operand → Value} {x : Operand} {d : Option Tmp} {t ty : TypeId} {pos : String} {aft : Array Edge} {g : Option (Nat × Bool)} {A : Option Addr} {B size n j : Nat} {xs cs : List Value} {ds : TypeDesc} (hx : f x = pA A j) (hr : Reads w B size A n xs) (hcs : ∀ r v, cs[r]? = some v → xs[j + r]? = some v) (hp : 0 < cs.length) (hu : P.underlying t = some ds) (hd : ds.isRow = true) (hi : (P.info? t).map (·.size) = some cs.length) :
    (execOp f ⟨d, .load t x, ty, pos, aft, g⟩).run P w = .ok (.value (.agg cs.toArray)) w := by
  have h00 := hcs 0 _ (List.getElem?_eq_getElem hp)
  have hlt := (List.getElem?_eq_some_iff.1 h00).1
  have hn : 0 < n := Nat.pos_of_ne_zero (fun h0 => by have := hr.1; rw [h0, Nat.zero_mul] at this; omega)
  obtain ⟨⟨b, off, spot⟩, rfl, hb, hc⟩ := hr.2 hn
  have hs0 := hc 0 _ (List.getElem?_eq_getElem (by omega : 0 < xs.length))
  have hs : spot = none := by simpa [Addr.add] using World.cell?_spot hs0
  subst hs
  have hx' : f x = .pointer (some ⟨b, off + j, none⟩) := by rw [hx]; simp [pA, Addr.add_mid]
  refine X.loadAgg hx' (fun r v hv => ?_) hu hd hi
  have := hc _ _ (hcs r v hv)
  rw [Addr.add_mid] at this
  rw [Nat.add_assoc]
  exact this
end H
end Go.Proofs.Ytdmfikedojgjbaa
