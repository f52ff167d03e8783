/-
  A disk in memory: its own block, the sectors that are kept, the writes that are pending; what may change.
-/
import Derived.Test.YtdmfikedojgjbaaSets
import Derived.Test.YtdmfikedojgjbaaHoaG
namespace Go.Proofs.Ytdmfikedojgjbaa
set_option maxRecDepth 100000
open Go.RowKit H
set_option linter.unusedVariables false
theorem grown_none {a b : World} (h : a.grownBy b none) : Ext a b := ⟨h.os, h.tape, h.output, h.size, fun k hk => h.block k hk (by simp)⟩
/-- a block of such a type -/
def IsT (w : World) (g : Nat) (t : TypeId) : Prop := ∃ cs, w.heap[g]? = some (.cells cs t (0, 0))
theorem IsT.fun_ {w : World} {g : Nat} {t t' : TypeId} (h : IsT w g t) (h' : IsT w g t') : t = t' := by
  obtain ⟨cs, h⟩ := h
  obtain ⟨cs', h'⟩ := h'
  rw [h] at h'
  injection h' with h'
  injection h'
theorem Blk.isT {w : World} {g : Nat} {t : TypeId} {cs : Array Value} (h : Blk w g t cs) : IsT w g t := ⟨cs, h⟩
theorem own_isT {w : World} {base : Nat} {e : TypeId} {size n : Nat} {v : Value} {xs : List Value} (h : w.ownsRow base e size v n xs) {g : Nat} (hg : v.ownBlock = some g) : IsT w g e ∧ base ≤ g := by
  rcases h.2 with ⟨rfl, _⟩ | ⟨b, cap, cur, rfl, hb, hh, _⟩
  · cases hg
  · obtain rfl : b = g := by injection hg
    exact ⟨⟨cur, hh⟩, hb⟩
/-- bytes that lie somewhere, one sector of them -/
def Dat (w : World) (x : Value) (zs : List Int) : Prop :=
  ∃ g off c cs, x = .slice (some ⟨g, off, none⟩) 1024 c ∧ zs.length = 1024 ∧ Blk w g 5 cs ∧ ∀ j, j < 1024 → cs[off + j]? = some (.int .u8 (zs.getD j 0))
theorem Dat.slice {w : World} {x : Value} {zs : List Int} (h : Dat w x zs) : ∃ A c, x = .slice A 1024 c ∧ Reads w w.heap.size 1 A 1024 (nums .u8 zs) := by
  obtain ⟨g, off, c, cs, rfl, hl, hb, hc⟩ := h
  refine ⟨_, c, rfl, by simp [nums, hl], fun _ => ⟨_, rfl, hb.lt, fun j u hu => ?_⟩⟩
  rw [Addr.add_mid, hb.cell]
  simp only [nums, List.getElem?_map] at hu
  cases hz : zs[j]? with
  | none => rw [hz] at hu; cases hu
  | some z =>
    rw [hz] at hu
    have hj : j < 1024 := by rw [← hl]; exact (List.getElem?_eq_some_iff.1 hz).1
    rw [hc j hj, List.getD, hz]
    exact hu
theorem Dat.len {w : World} {x : Value} {zs : List Int} (h : Dat w x zs) : zs.length = 1024 := by
  obtain ⟨g, off, c, cs, _, hl, _⟩ := h
  exact hl
theorem Dat.one {w : World} {x : Value} {zs : List Int} (h : Dat w x zs) : x.oneCell' = true := by
  obtain ⟨g, off, c, cs, rfl, _⟩ := h
  rfl
theorem Dat.of_own {w : World} {base c : Nat} {A : Option Addr} {zs : List Int} (h : w.ownsRow base 5 1 (.slice A 1024 c) 1024 (nums .u8 zs)) : Dat w (.slice A 1024 c) zs := by
  have hl : zs.length = 1024 := by have := h.1; simpa [nums] using this
  rcases h.2 with ⟨_, h0⟩ | ⟨g, cap, cur, hv, _, hh, _, _, hs, ht⟩
  · cases h0
  · injection hv with h1 _ h3
    subst h1 h3
    refine ⟨g, 0, c, cur, rfl, hl, hh, fun j hj => ?_⟩
    rw [Nat.zero_add]
    have h2 : (nums .u8 zs)[j]? = some (.int .u8 (zs.getD j 0)) := by
      have : j < zs.length := by omega
      simp [nums, List.getD, this]
    rw [← ht, List.getElem?_take] at h2
    rw [if_pos (by omega)] at h2
    simpa using h2
/-- what a disk's methods leave as it is -/
structure Kq (kb d : Nat) (C : Nat → Prop) (w w' : World) : Prop where
  os : w'.os = w.os
  tape : w'.tape = w.tape
  output : w'.output = w.output
  size : w.heap.size ≤ w'.heap.size
  block : ∀ g, g < w.heap.size → g ≠ kb → g ≠ d → (IsT w g 123 → C g) → w'.heap[g]? = w.heap[g]?
theorem Kq.refl (kb d : Nat) (C : Nat → Prop) (w : World) : Kq kb d C w w := ⟨rfl, rfl, rfl, Nat.le_refl _, fun _ _ _ _ _ => rfl⟩
theorem IsT.same {w w' : World} {g : Nat} {t : TypeId} (e : w'.heap[g]? = w.heap[g]?) (h : IsT w' g t) : IsT w g t := by
  obtain ⟨cs, h⟩ := h
  exact ⟨cs, e ▸ h⟩
theorem Kq.trans {kb d : Nat} {C : Nat → Prop} {a b c : World} (h : Kq kb d C a b) (k : Kq kb d C b c) : Kq kb d C a c :=
  ⟨k.os.trans h.os, k.tape.trans h.tape, k.output.trans h.output, Nat.le_trans h.size k.size, fun g hg h1 h2 h3 => by
    have e := h.block g hg h1 h2 h3
    exact (k.block g (Nat.lt_of_lt_of_le hg h.size) h1 h2 (fun ht => h3 (ht.same e))).trans e⟩
theorem Kq.of_ext {kb d : Nat} {C : Nat → Prop} {w w' : World} (h : Ext w w') : Kq kb d C w w' := ⟨Below.os h, Below.tape h, Below.output h, Ext.le h, fun g hg _ _ _ => Below.block h g hg⟩
theorem Kq.of_grown {kb d : Nat} {C : Nat → Prop} {w w' : World} {r : Option Nat} (h : w.grownBy w' r) (hr : ∀ g, r = some g → g < w.heap.size → g = kb ∨ g = d ∨ (IsT w g 123 ∧ ¬ C g)) : Kq kb d C w w' :=
  ⟨h.os, h.tape, h.output, h.size, fun g hg h1 h2 h3 => h.block g hg (fun he => by
    rcases hr g he.symm hg with h | h | h
    · exact h1 h
    · exact h2 h
    · exact h.2 (h3 h.1))⟩
theorem Kq.below {kb d N : Nat} {C : Nat → Prop} {w w' : World} (h : Kq kb d C w w') (hk : N ≤ kb) (hd : N ≤ d) (hC : ∀ g, g < N → C g) (hN : N ≤ w.heap.size) : Below N w w' :=
  ⟨h.os, h.tape, h.output, h.size, fun g hg => h.block g (by omega) (by omega) (by omega) (fun _ => hC g hg)⟩
theorem Kq.same {kb d : Nat} {C : Nat → Prop} {w w' : World} (h : Kq kb d C w w') {g : Nat} {t : TypeId} {o : Obj} (hg : w.heap[g]? = some o) (h1 : g ≠ kb) (h2 : g ≠ d) (h3 : IsT w g 123 → C g) : w'.heap[g]? = some o := by
  have : g < w.heap.size := by
    apply Decidable.byContradiction
    intro hn
    rw [Array.getElem?_eq_none (by omega)] at hg
    cases hg
  rw [h.block g this h1 h2 h3, hg]
abbrev Cell := Value × List Int
/-- pending writes, as cells -/
def pcs (l : List (Nat × Cell)) : List Value := l.flatMap fun p => [.int .i64 (p.1 : Int), p.2.1]
theorem pcs_length (l : List (Nat × Cell)) : (pcs l).length = l.length * 2 := by
  induction l with
  | nil => rfl
  | cons a l ih => simp only [pcs, List.flatMap_cons, List.length_append, List.length_cons, List.length_nil] at ih ⊢; omega
theorem pcs_at : ∀ (l : List (Nat × Cell)) (i : Nat), (pcs l)[i * 2]? = (l[i]?).map (fun p => Value.int .i64 (p.1 : Int)) ∧ (pcs l)[i * 2 + 1]? = (l[i]?).map (fun p => p.2.1)
  | [], i => by simp [pcs]
  | a :: l, 0 => by simp [pcs]
  | a :: l, i + 1 => by
    obtain ⟨h1, h2⟩ := pcs_at l i
    have e : pcs (a :: l) = .int .i64 (a.1 : Int) :: a.2.1 :: pcs l := rfl
    rw [e, show (i + 1) * 2 = i * 2 + 1 + 1 by omega]
    simp only [List.getElem?_cons_succ]
    exact ⟨h1, h2⟩
theorem pcs_append (a b : List (Nat × Cell)) : pcs a ++ pcs b = pcs (a ++ b) := by simp [pcs]
def c0 : Cell := (.slice none 0 0, [])
def p0 : Nat × Cell := (0, c0)
/-- a disk -/
structure Dk where
  (d kb kc : Nat) (pA : Option Addr) (pc : Nat) (kp : List Cell) (pp : List (Nat × Cell)) (off : Bool) (left rd wr fl : Int)
namespace Dk
abbrev kept (v : Dk) : Value := .slice (some ⟨v.kb, 0, none⟩) v.kp.length v.kc
abbrev pend (v : Dk) : Value := .slice v.pA v.pp.length v.pc
abbrev cs (v : Dk) : Array Value := #[.bool v.off, .int .i64 v.left, .bool true, v.kept, v.pend, .int .i64 v.rd, .int .i64 v.wr, .int .i64 v.fl]
abbrev ptr (v : Dk) : Value := .pointer (some ⟨v.d, 0, none⟩)
structure At (v : Dk) (N : Nat) (C : Nat → Prop) (w : World) : Prop where
  hb : Blk w v.d 58 v.cs
  hk : w.ownsRow N 30 1 v.kept v.kp.length (v.kp.map (·.1))
  hp : w.ownsRow N 123 2 v.pend v.pp.length (pcs v.pp)
  hC : ∀ g, v.pend.ownBlock = some g → ¬ C g
  hL : ∀ g, C g → g < w.heap.size
  hCN : ∀ g, g < N → C g
  kd : ∀ x ∈ v.kp, Dat w x.1 x.2
  pd : ∀ x ∈ v.pp, x.1 < v.kp.length ∧ Dat w x.2.1 x.2.2
  hN : N ≤ v.d
  h1 : 1 ≤ v.kp.length ∧ v.kp.length ≤ 8192
  hl : -1 ≤ v.left ∧ v.left ≤ 9223372036854775807
section
variable {v : Dk} {N : Nat} {C : Nat → Prop} {w w' : World}
theorem At.kT (h : v.At N C w) : IsT w v.kb 30 ∧ N ≤ v.kb := own_isT h.hk rfl
theorem At.dT (h : v.At N C w) : IsT w v.d 58 := h.hb.isT
theorem _root_.Go.Proofs.Ytdmfikedojgjbaa.Dat.kq {x : Value} {zs : List Int} (hd : Dat w x zs) (h : v.At N C w) (k : Kq v.kb v.d C w w') : Dat w' x zs := by
  obtain ⟨g, off, c, cs, rfl, hl, hb, hc⟩ := hd
  refine ⟨g, off, c, cs, rfl, hl, k.same (t := 0) hb ?_ ?_ ?_, hc⟩
  · intro e; subst e; exact absurd (hb.isT.fun_ h.kT.1) (by decide)
  · intro e; subst e; exact absurd (hb.isT.fun_ h.dT) (by decide)
  · intro ht; exact absurd (hb.isT.fun_ ht) (by decide)
theorem At.ext (h : v.At N C w) (he : Ext w w') : v.At N C w' :=
  have k : Kq v.kb v.d C w w' := .of_ext he
  ⟨h.hb.ext he, h.hk.ext he, h.hp.ext he, h.hC, fun g hg => Nat.lt_of_lt_of_le (h.hL g hg) k.size, h.hCN, fun x hx => (h.kd x hx).kq h k, fun x hx => ⟨(h.pd x hx).1, (h.pd x hx).2.kq h k⟩, h.hN, h.h1, h.hl⟩
theorem At.klen (h : v.At N C w) : v.kp.length < 9223372036854775807 := by have := h.h1; omega
theorem At.kRd (h : v.At N C w) : Reads w w.heap.size 1 (some ⟨v.kb, 0, none⟩) v.kp.length (v.kp.map (·.1)) := Reads.of_own h.hk
theorem At.kLd (h : v.At N C w) {i : Nat} (hi : i < v.kp.length) : Ld w (H.pA (some ⟨v.kb, 0, none⟩) i) (v.kp.getD i c0).1 := by
  have h1 := Ld.rd h.kRd (j := i) (by omega)
  have : (v.kp.map (·.1)).getD i undef = (v.kp.getD i c0).1 := by simp [List.getD, hi]
  rwa [this] at h1
theorem At.kDat (h : v.At N C w) {i : Nat} (hi : i < v.kp.length) : Dat w (v.kp.getD i c0).1 (v.kp.getD i c0).2 := by
  have : v.kp.getD i c0 = v.kp[i] := by simp [List.getD, hi]
  rw [this]
  exact h.kd _ (List.getElem_mem hi)
theorem At.pDat (h : v.At N C w) {i : Nat} (hi : i < v.pp.length) : (v.pp.getD i p0).1 < v.kp.length ∧ Dat w (v.pp.getD i p0).2.1 (v.pp.getD i p0).2.2 := by
  have : v.pp.getD i p0 = v.pp[i] := by simp [List.getD, hi]
  rw [this]
  exact h.pd _ (List.getElem_mem hi)
theorem At.pRd (h : v.At N C w) : Reads w w.heap.size 2 v.pA v.pp.length (pcs v.pp) := Reads.of_own h.hp
theorem pcs_row {l : List (Nat × Cell)} {i : Nat} (hi : i < l.length) : ∀ (r : Nat) (u : Value), [Value.int .i64 ((l.getD i p0).1 : Int), (l.getD i p0).2.1][r]? = some u → (pcs l)[i * 2 + r]? = some u := by
  have e : l.getD i p0 = l[i] := by simp [List.getD, hi]
  obtain ⟨h1, h2⟩ := pcs_at l i
  rw [List.getElem?_eq_getElem hi] at h1 h2
  rw [e]
  intro r u hu
  match r, hu with
  | 0, hu => rw [Nat.add_zero, h1]; exact hu
  | 1, hu => rw [h2]; exact hu
theorem At.pLdA (h : v.At N C w) {i : Nat} (hi : i < v.pp.length) : Ld w (H.pA v.pA (i * 2)) (.int .i64 ((v.pp.getD i p0).1 : Int)) := by
  have h1 := Ld.rd h.pRd (j := i * 2) (by omega)
  have h2 := pcs_row hi 0 _ rfl
  rw [Nat.add_zero] at h2
  rw [List.getD, h2] at h1
  exact h1
theorem At.pLdB (h : v.At N C w) {i : Nat} (hi : i < v.pp.length) : Ld w (H.pA v.pA (i * 2 + 1)) (v.pp.getD i p0).2.1 := by
  have h1 := Ld.rd h.pRd (j := i * 2 + 1) (by omega)
  have h2 := pcs_row hi 1 _ rfl
  rw [List.getD, h2] at h1
  exact h1
/-- the disk's own block alone is changed -/
theorem At.blk {v' : Dk} (h : v.At N C w) (hg : w.grownBy w' (some v.d)) (hb : Blk w' v.d 58 v'.cs)
    (e : v'.d = v.d ∧ v'.kb = v.kb ∧ v'.kc = v.kc ∧ v'.pA = v.pA ∧ v'.pc = v.pc ∧ v'.kp = v.kp ∧ v'.pp = v.pp) (hl : -1 ≤ v'.left ∧ v'.left ≤ 9223372036854775807) : v'.At N C w' ∧ Kq v.kb v.d C w w' := by
  have k : Kq v.kb v.d C w w' := .of_grown hg (fun g hg _ => .inr (.inl (by injection hg with hg; exact hg.symm)))
  obtain ⟨d, kb, kc, pA, pc, kp, pp, off, left, rd, wr, fl⟩ := v
  obtain ⟨d', kb', kc', pA', pc', kp', pp', off', left', rd', wr', fl'⟩ := v'
  obtain ⟨e1, e2, e3, e4, e5, e6, e7⟩ := e
  dsimp only at e1 e2 e3 e4 e5 e6 e7
  subst e1 e2 e3 e4 e5 e6 e7
  refine ⟨⟨hb, h.hk.kept hg (.inr (own_blk_ne h.hk h.hb (by decide))), h.hp.kept hg ?_, h.hC, fun g hg => Nat.lt_of_lt_of_le (h.hL g hg) k.size, h.hCN, fun x hx => (h.kd x hx).kq h k, fun x hx => ⟨(h.pd x hx).1, (h.pd x hx).2.kq h k⟩, h.hN, h.h1, hl⟩, k⟩
  exact .inr (own_blk_ne h.hp h.hb (by decide))
theorem At.nsz (h : v.At N C w) : N ≤ w.heap.size := Nat.le_of_lt (Nat.lt_of_le_of_lt h.hN h.hb.lt)
theorem At.below (h : v.At N C w) (k : Kq v.kb v.d C w w') : Below N w w' := k.below h.kT.2 h.hN h.hCN h.nsz
theorem own_own_ne {b1 b2 e1 e2 s1 s2 n1 n2 : Nat} {v1 v2 : Value} {x1 x2 : List Value} (h1 : w.ownsRow b1 e1 s1 v1 n1 x1) (h2 : w.ownsRow b2 e2 s2 v2 n2 x2) (hne : e1 ≠ e2) : v1.ownBlock = none ∨ v1.ownBlock ≠ v2.ownBlock := by
  cases hv : v1.ownBlock with
  | none => exact .inl rfl
  | some g => exact .inr (fun he => hne ((own_isT h1 hv).1.fun_ (own_isT h2 he.symm).1))
theorem At.kqPend (h : v.At N C w) (hg : w.grownBy w' v.pend.ownBlock) : Kq v.kb v.d C w w' :=
  .of_grown hg (fun g hg _ => .inr (.inr ⟨(own_isT h.hp hg.symm.symm).1, h.hC g hg⟩))
theorem At.kqD (h : v.At N C w) (hg : w.grownBy w' (some v.d)) : Kq v.kb v.d C w w' :=
  .of_grown hg (fun g hg _ => .inr (.inl (by injection hg with hg; exact hg.symm)))
/-- one more write is pending -/
theorem At.push {w1 : World} (h : v.At N C w) {A' : Option Addr} {c' i : Nat} {x : Cell} (hi : i < v.kp.length) (hx : Dat w x.1 x.2)
    (ho : w1.ownsRow N 123 2 (.slice A' (v.pp.length + 1) c') (v.pp.length + 1) (pcs (v.pp ++ [(i, x)]))) (hg : w.grownBy w1 v.pend.ownBlock)
    (hor : Value.ownBlock (.slice A' (v.pp.length + 1) c') = v.pend.ownBlock ∨ Value.ownBlock (.slice A' (v.pp.length + 1) c') = some w.heap.size)
    (hg2 : w1.grownBy w' (some v.d)) (hb2 : Blk w' v.d 58 #[.bool v.off, .int .i64 v.left, .bool true, v.kept, .slice A' (v.pp.length + 1) c', .int .i64 v.rd, .int .i64 v.wr, .int .i64 v.fl]) :
    At { v with pA := A', pc := c', pp := v.pp ++ [(i, x)] } N C w' ∧ Kq v.kb v.d C w w' := by
  have k1 := h.kqPend hg
  have hb1 : Blk w1 v.d 58 v.cs := h.hb.grown hg (fun e => own_blk_ne h.hp h.hb (by decide) e.symm)
  have k2 : Kq v.kb v.d C w1 w' := .of_grown hg2 (fun g hg _ => .inr (.inl (by injection hg with hg; exact hg.symm)))
  have k := k1.trans k2
  have hk1 := h.hk.kept hg (own_own_ne h.hk h.hp (by decide))
  have hl : (v.pp ++ [(i, x)]).length = v.pp.length + 1 := by simp
  refine ⟨⟨?_, hk1.kept hg2 (.inr (own_blk_ne hk1 hb1 (by decide))), ?_, ?_, fun g hg => Nat.lt_of_lt_of_le (h.hL g hg) k.size, h.hCN, fun x hx => (h.kd x hx).kq h k, fun y hy => ?_, h.hN, h.h1, h.hl⟩, k⟩
  · show Blk w' v.d 58 #[.bool v.off, .int .i64 v.left, .bool true, v.kept, .slice A' (v.pp ++ [(i, x)]).length c', .int .i64 v.rd, .int .i64 v.wr, .int .i64 v.fl]
    rw [hl]; exact hb2
  · show w'.ownsRow N 123 2 (.slice A' (v.pp ++ [(i, x)]).length c') (v.pp ++ [(i, x)]).length (pcs (v.pp ++ [(i, x)]))
    rw [hl]; exact ho.kept hg2 (.inr (own_blk_ne ho hb1 (by decide)))
  · show ∀ g, Value.ownBlock (.slice A' (v.pp ++ [(i, x)]).length c') = some g → ¬ C g
    rw [hl]
    intro g hg3 hC
    rcases hor with e | e
    · rw [e] at hg3; exact h.hC g hg3 hC
    · rw [e] at hg3
      injection hg3 with hg3
      have := h.hL g hC
      omega
  · rcases List.mem_append.1 hy with hm | hm
    · exact ⟨(h.pd y hm).1, (h.pd y hm).2.kq h k⟩
    · obtain rfl : y = (i, x) := by simpa using hm
      exact ⟨hi, hx.kq h k⟩
/-- a sector is kept otherwise -/
theorem At.setk (h : v.At N C w) {i : Nat} {x : Cell} (hx : Dat w x.1 x.2) (ho : w'.ownsRow N 30 1 v.kept v.kp.length ((v.kp.map (·.1)).set i x.1)) (hg : w.grownBy w' v.kept.ownBlock) :
    At { v with kp := v.kp.set i x } N C w' ∧ Kq v.kb v.d C w w' := by
  have k : Kq v.kb v.d C w w' := .of_grown hg (fun g hg _ => .inl (by injection hg with hg; exact hg.symm))
  have hl : (v.kp.set i x).length = v.kp.length := List.length_set
  refine ⟨⟨?_, ?_, h.hp.kept hg (own_own_ne h.hp h.hk (by decide)), h.hC, fun g hg => Nat.lt_of_lt_of_le (h.hL g hg) k.size, h.hCN, ?_, ?_, h.hN, ?_, h.hl⟩, k⟩
  · show Blk w' v.d 58 #[.bool v.off, .int .i64 v.left, .bool true, .slice (some ⟨v.kb, 0, none⟩) (v.kp.set i x).length v.kc, v.pend, .int .i64 v.rd, .int .i64 v.wr, .int .i64 v.fl]
    rw [hl]; exact h.hb.grown hg (fun e => own_blk_ne h.hk h.hb (by decide) e.symm)
  · show w'.ownsRow N 30 1 (.slice (some ⟨v.kb, 0, none⟩) (v.kp.set i x).length v.kc) (v.kp.set i x).length ((v.kp.set i x).map (·.1))
    rw [hl, List.map_set]; exact ho
  · intro y hy
    rcases List.mem_or_eq_of_mem_set hy with hm | hm
    · exact (h.kd y hm).kq h k
    · rw [hm]; exact hx.kq h k
  · intro y hy
    show y.1 < (v.kp.set i x).length ∧ _
    rw [hl]
    exact ⟨(h.pd y hy).1, (h.pd y hy).2.kq h k⟩
  · show 1 ≤ (v.kp.set i x).length ∧ (v.kp.set i x).length ≤ 8192
    rw [hl]; exact h.h1
/-- nothing is pending any more -/
theorem At.clr {off' : Bool} {left' : Int} (h : v.At N C w) (hg : w.grownBy w' (some v.d)) (hb : Blk w' v.d 58 #[.bool off', .int .i64 left', .bool true, v.kept, .slice none 0 0, .int .i64 v.rd, .int .i64 v.wr, .int .i64 v.fl]) (hl : -1 ≤ left' ∧ left' ≤ 9223372036854775807) :
    At { v with pA := none, pc := 0, pp := [], off := off', left := left' } N C w' ∧ Kq v.kb v.d C w w' := by
  have k := h.kqD hg
  exact ⟨⟨hb, h.hk.kept hg (.inr (own_blk_ne h.hk h.hb (by decide))), own_nil _ _ _ _, (fun g hg => by cases hg), fun g hg => Nat.lt_of_lt_of_le (h.hL g hg) k.size, h.hCN, fun x hx => (h.kd x hx).kq h k, (fun x hx => by cases hx), h.hN, h.h1, hl⟩, k⟩
end
end Dk
end Go.Proofs.Ytdmfikedojgjbaa
