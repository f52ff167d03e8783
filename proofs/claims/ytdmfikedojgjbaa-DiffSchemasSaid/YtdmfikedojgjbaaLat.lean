/-
  Regions that draw their order and whose operations read, or call what makes new memory alone: one walk in the order of the text, in every later world. Bytes as a text.
-/
import Derived.Test.YtdmfikedojgjbaaApp
import Derived.BigQuiet
import Derived.Laws.BytesArg
import Derived.Lib.Strings
namespace Go.Proofs.Ytdmfikedojgjbaa
set_option maxRecDepth 100000
open Go.RowKit

/-- the worlds that have at most new blocks -/
def Lat (w : World) : Type := {u : World // Below w.heap.size w u}
instance (w : World) : Nonempty (Lat w) := ⟨⟨w, Below.refl _ _⟩⟩
section
variable {w : World}
theorem Lat.cell (u : Lat w) {p : Addr} (hp : p.block < w.heap.size) : u.1.cell? p = w.cell? p := u.2.cell hp
theorem Lat.frozen (u : Lat w) {p : Addr} (hp : p.block < w.heap.size) : u.1.frozen? p = w.frozen? p := u.2.frozen hp
theorem Lat.size (u : Lat w) : w.heap.size ≤ u.1.heap.size := u.2.size
theorem Lat.reads (u : Lat w) {B size n : Nat} {A : Option Addr} {xs : List Value} (h : Reads w B size A n xs) (hB : B ≤ w.heap.size) : Reads u.1 u.1.heap.size size A n xs :=
  ((h.more hB).below u.2).more u.2.size
theorem Lat.call {P : Program} {f : FuncId} {args : Array Value} (u : Lat w) {v : Value} (h : Calls P f args u.1 fun e w' => e = .returned v ∧ Below u.1.heap.size u.1 w') :
    Calls P f args u.1 fun e w'' => e = .returned v ∧ ∃ u' : Lat w, w'' = u'.1 :=
  h.mono fun _ _ ⟨he, hb⟩ => ⟨he, ⟨_, u.2.trans (hb.mono u.2.size)⟩, rfl⟩
theorem Lat.call_same {P : Program} {f : FuncId} {args : Array Value} (u : Lat w) {v : Value} (h : Calls P f args u.1 fun e w' => e = .returned v ∧ u.1 = w') :
    Calls P f args u.1 fun e w'' => e = .returned v ∧ ∃ u' : Lat w, w'' = u'.1 :=
  h.mono fun _ _ ⟨he, hb⟩ => ⟨he, u, hb.symm⟩
theorem wpQuiet_mono {P : Program} {ops : Array Oper} {C : World → Prop} {Q Q' : Act → Prop} (h : ∀ a, Q a → Q' a) : ∀ {l : List Oper} {a : Act}, wpQuiet P ops C Q l a → wpQuiet P ops C Q' l a
  | [], a, hh => h a hh
  | o :: l, a, hh => by
    unfold wpQuiet at hh ⊢
    split
    · rename_i hw
      rw [if_pos hw] at hh
      exact Oper.quiet_mono (fun _ hk => wpQuiet_mono h hk) hh
    · rename_i hw
      rw [if_neg hw] at hh
      exact wpQuiet_mono h hh
theorem wp_region_lat {P : Program} {id : Nat} {Q : Exit → Act → World → Prop} {a : Act} {l : List Oper} (hm : P.follows .mixedOrders = true) (hB : Region.lexB .any l.toArray = true)
    (h : wpQuiet P l.toArray (fun w' => ∃ u : Lat w, w' = u.1) (fun a' => ∀ w', Below w.heap.size w w' → Q .normal a' w') l a) : (Code.region id l.toArray true).wp P Q a w :=
  wp_region_quiet (C := fun w' => ∃ u : Lat w, w' = u.1) hm hB ⟨⟨w.drew, (Below.refl _ _).drew⟩, rfl⟩ (by
    have := wpQuiet_mono (Q' := fun a' => ∀ w', (∃ u : Lat w, w' = u.1) → Q .normal a' w') (fun a' hh w' ⟨u, e⟩ => hh w' (by rw [e]; exact u.2)) h
    simpa using this)
end

/-! ### bytes as a text -/
theorem Reads.conv {P : Program} {W : World} {B n c : Nat} {A : Option Addr} {zs : List Int} (h : Reads W B 1 A n (nums .u8 zs)) {src dst e : TypeId} (hs : P.underlying src = some (.slice e)) (he : P.underlying e = some (.int .u8)) (hd : P.underlying dst = some .string) :
    (convert src dst (.slice A n c)).run P W = .ok (.string (strOfNums zs)) W := by
  have hl : zs.length = n := by have := h.1; simpa [nums] using this
  rcases Nat.eq_zero_or_pos n with h0 | hpos
  · subst h0
    have hz : zs = [] := List.eq_nil_of_length_eq_zero hl
    subst hz
    rcases A with _ | ⟨b, off, sp⟩
    · exact run_convert_bytes_nil W src e hs he 0 c dst hd
    · rw [run_convert_bytes_string W src dst e _ 0 c hs he hd]
      simp [Conv.bytesToString, loadCells, loadCellsFrom]
      rfl
  · obtain ⟨b, off, u, rfl, _, _, _⟩ := h.at_ hpos
    refine run_convert_bytes_arg W src e hs he b off n c zs hl (fun i hi => ?_) dst hd
    obtain ⟨b', off', u, hA, _, hu, hc⟩ := h.at_ hi
    injection hA with hA
    injection hA with h1 h2
    subst h1 h2
    obtain ⟨z, hz, rfl⟩ := nums_at hu
    rw [hc]
    simp [List.getD, hz]
theorem strOfNums_inj {xs ys : List Int} (hx : ∀ z ∈ xs, 0 ≤ z ∧ z < 256) (hy : ∀ z ∈ ys, 0 ≤ z ∧ z < 256) (h : (strOfNums xs).toList = (strOfNums ys).toList) : xs = ys := by
  rw [Lib.toList_data, Lib.toList_data, strOfNums_data, strOfNums_data] at h
  have back : ∀ l : List Int, (∀ z ∈ l, 0 ≤ z ∧ z < 256) → (l.map fun n => UInt8.ofNat n.toNat).map (fun u => ((u.toNat : Nat) : Int)) = l := by
    intro l hl
    rw [List.map_map]
    conv => rhs; rw [← List.map_id l]
    apply List.map_congr_left
    intro z hz
    have := hl z hz
    simp only [Function.comp, UInt8.toNat_ofNat', id]
    omega
  rw [← back xs hx, ← back ys hy, h]
theorem str_eq {xs ys : List Int} (hx : ∀ z ∈ xs, 0 ≤ z ∧ z < 256) (hy : ∀ z ∈ ys, 0 ≤ z ∧ z < 256) : ((strOfNums xs).toList == (strOfNums ys).toList) = (xs == ys) := by
  rw [Bool.eq_iff_iff, beq_iff_eq, beq_iff_eq]
  exact ⟨strOfNums_inj hx hy, fun h => by rw [h]⟩
end Go.Proofs.Ytdmfikedojgjbaa
