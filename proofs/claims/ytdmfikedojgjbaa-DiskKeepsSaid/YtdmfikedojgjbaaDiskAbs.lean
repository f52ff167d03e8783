/-
  A disk by definition: its state as lists of bytes; deeds.
-/
import Derived.Test.YtdmfikedojgjbaaWDiskD
namespace Go.Proofs.Ytdmfikedojgjbaa
set_option maxRecDepth 100000
open Go.RowKit H
set_option linter.unusedVariables false
/-- a disk's state -/
structure Ds where
  (kept : List (List Int)) (pend : List (Nat × List Int)) (off : Bool) (left rd wr fl : Int)
/-- a deed -/
structure Dd where
  (kind n : Int) (data : List Int) (odd : Bool) (keep : List Bool)
def blkOf (zs : List Int) : List Int := (List.range 1024).map fun i => if 0 < zs.length then zs.getD (i % zs.length) 0 else 0
theorem blkOf_length (zs : List Int) : (blkOf zs).length = 1024 := by simp [blkOf]
def Dd.bytes (x : Dd) : List Int := if x.odd = true then x.data else blkOf x.data
namespace Ds
def now (s : Ds) (a : Nat) : List Int := nowI s.kept [] s.pend a s.pend.length
def do_ (s : Ds) (x : Dd) : Ds × List Int × Int :=
  if x.kind = 3 then ({ s with left := max x.n (-1) }, [], 0)
  else if x.kind = 4 then ({ s with kept := keI (Dk.kpF x.keep) s.kept [] s.pend s.pend.length, pend := [], off := false, left := -1 }, [], 0)
  else if s.off = true then (s, [], 14)
  else if x.kind ≠ 2 ∧ (x.n < 0 ∨ (s.kept.length : Int) ≤ x.n) then (s, [], 2)
  else if x.kind = 0 then ({ s with rd := s.rd + 1 }, s.now x.n.toNat, 0)
  else if x.kind = 1 ∧ x.bytes.length ≠ 1024 then (s, [], 6)
  else if s.left = 0 then ({ s with off := true }, [], 14)
  else if x.kind = 1 then ({ s with left := Dk.dec1 s.left, wr := s.wr + 1, pend := s.pend ++ [(x.n.toNat, x.bytes)] }, [], 0)
  else ({ s with left := Dk.dec1 s.left, fl := s.fl + 1, kept := keI (fun _ => true) s.kept [] s.pend s.pend.length, pend := [] }, [], 0)
/-- what holds of a state behind m deeds -/
structure Ok (s : Ds) (m : Nat) : Prop where
  hn : 1 ≤ s.kept.length ∧ s.kept.length ≤ 8192
  hk : ∀ x ∈ s.kept, x.length = 1024
  hp : ∀ x ∈ s.pend, x.1 < s.kept.length ∧ x.2.length = 1024
  hm : s.pend.length ≤ m ∧ (0 ≤ s.rd ∧ s.rd ≤ m) ∧ (0 ≤ s.wr ∧ s.wr ≤ m) ∧ (0 ≤ s.fl ∧ s.fl ≤ m)
  hl : -1 ≤ s.left ∧ s.left ≤ 9223372036854775807
theorem Ok.more {s : Ds} {m m' : Nat} (h : s.Ok m) (hm : m ≤ m') : s.Ok m' := by
  have := h.hm
  exact ⟨h.hn, h.hk, h.hp, by omega, h.hl⟩
theorem Ok.do_ {s : Ds} {m : Nat} (h : s.Ok m) (x : Dd) (hx : x.n ≤ 9223372036854775807) : (s.do_ x).1.Ok (m + 1) := by
  have hm := h.hm
  have hl := h.hl
  have hd : -1 ≤ Dk.dec1 s.left ∧ Dk.dec1 s.left ≤ 9223372036854775807 := by unfold Dk.dec1; split <;> omega
  have hke : ∀ f : Nat → Bool, (keI f s.kept [] s.pend s.pend.length).length = s.kept.length := fun f => keI_length _ _ _ _ _
  have hkm : ∀ f : Nat → Bool, ∀ y ∈ keI f s.kept [] s.pend s.pend.length, y.length = 1024 := fun f => keI_mem (p := fun y : List Int => y.length = 1024) h.hk (fun y hy => (h.hp y hy).2) _ (Nat.le_refl _)
  unfold Ds.do_
  split
  · exact ⟨h.hn, h.hk, h.hp, by dsimp only; omega, by dsimp only; omega⟩
  split
  · exact ⟨by dsimp only; rw [hke]; exact h.hn, hkm _, (fun y hy => by cases hy), by simp only [List.length_nil]; omega, by dsimp only; omega⟩
  split
  · exact h.more (by omega)
  split
  · exact h.more (by omega)
  split
  · exact ⟨h.hn, h.hk, h.hp, by dsimp only; omega, h.hl⟩
  split
  · exact h.more (by omega)
  split
  · exact ⟨h.hn, h.hk, h.hp, by dsimp only; omega, h.hl⟩
  split
  · rename_i h1 h2 h3 h4 h5 h6 h7 h8
    refine ⟨h.hn, h.hk, fun y hy => ?_, by simp only [List.length_append, List.length_cons, List.length_nil]; omega, hd⟩
    rcases List.mem_append.1 hy with hy | hy
    · exact h.hp y hy
    · obtain rfl : y = (x.n.toNat, x.bytes) := by simpa using hy
      dsimp only
      omega
  · exact ⟨by dsimp only; rw [hke]; exact h.hn, hkm _, (fun y hy => by cases hy), by simp only [List.length_nil]; omega, hd⟩
end Ds
/-- a disk's state, of what lies in memory -/
def abs_ (kp : List Cell) (pp : List (Nat × Cell)) (off : Bool) (left rd wr fl : Int) : Ds := ⟨kp.map (·.2), pp.map (fun p => (p.1, p.2.2)), off, left, rd, wr, fl⟩
def Dk.abs (v : Dk) : Ds := abs_ v.kp v.pp v.off v.left v.rd v.wr v.fl
theorem abs_ke (f : Nat → Bool) (kp : List Cell) (pp : List (Nat × Cell)) : (keI f kp c0 pp pp.length).map (·.2) = keI f (kp.map (·.2)) [] (pp.map fun p => (p.1, p.2.2)) (pp.map fun p => (p.1, p.2.2)).length := by
  rw [List.length_map]
  exact (keI_map (fun x : Cell => x.2) f kp c0 pp pp.length).symm
theorem abs_now (kp : List Cell) (pp : List (Nat × Cell)) (a : Nat) : (nowI kp c0 pp a pp.length).2 = nowI (kp.map (·.2)) [] (pp.map fun p => (p.1, p.2.2)) a (pp.map fun p => (p.1, p.2.2)).length := by
  rw [List.length_map]
  exact (nowI_map (fun x : Cell => x.2) kp c0 pp a pp.length).symm
end Go.Proofs.Ytdmfikedojgjbaa
