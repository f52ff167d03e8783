/-
  seal.Get, walked; slices.Clone at bytes.
-/
import Derived.Test.YtfgkbghagklacaaDoorWSealB
import Derived.Test.YtfgkbghagklacaaDoorSealPlainB
import Derived.Test.YtfgkbghagklacaaDoorWFrameH
import Derived.Handy
import Derived.Lib.BufferMore
namespace Go.Proofs.YtfgkbghagklacaaDoor
open Go.RowKit
open Byts Seal
open Fram (getD_nn)
set_option linter.unusedVariables false
theorem clone_any (b off n c : Nat) (zs : List Int) (w : World) (hr : Reads w w.heap.size 1 (some ⟨b, off, none⟩) n (nums .u8 zs)) (hn : n ≤ 140737488355328) :
    Calls Tryd.prog 43 #[.slice (some ⟨b, off, none⟩) n c] w fun e w' => ∃ A' c', e = .returned (.slice A' n c') ∧ w'.ownsRow w.heap.size 5 1 (.slice A' n c') n (nums .u8 zs) ∧ Below w.heap.size w w' := by
  have HR := Lib.hid hr
  clear hr
  go_enter Tryd.func43, Tryd.ntmps43
  have hnil := fun W => Lib.run_eql_slice_some_nil (P := Tryd.prog) W (⟨b, off, none⟩ : Addr) n c Tryd.underlying22
  go_wp2_with (at_builtin; refine wpl_bytes rfl (.tmp 5) (.tmp 6) rfl w.heap.size _ 0 [] rfl ?o1 w.heap.size (some ⟨b, off, none⟩) n c zs rfl ?r1 ?c1 ?c2 ?_)
  case o1 => exact own_empty _ _ _ _ rfl (Nat.le_refl _)
  case r1 => exact HR.out.alloc (Nat.le_refl _) _
  case c1 => omega
  case c2 => simp
  intro A1 c1 w1 hown1 hgr1 hb1 hor1
  try simp only [Nat.zero_add, List.nil_append] at hown1
  have HO := Lib.hid hown1
  have HB := Lib.hid (((Below.refl _ _).alloc (Nat.le_refl _) _).trans hb1 : Below w.heap.size w w1)
  clear hgr1 hor1 hb1 hown1
  go_wp2
  go_ret
  have ho := HO.out
  simp only at ho ⊢
  exact ⟨A1, c1, rfl, ho, HB.out⟩
/-- what Get leaves -/
def SGet (zs : List Int) (w : World) (e : Ending) (w' : World) : Prop :=
  ∃ A c, e = .returned (.tuple #[.agg #[.int .i64 (sK smZ zs), .int .u64 (sA smZ zs), .int .u64 (sB smZ zs), .slice A (sV smZ zs).length c], .int .i64 (sE smZ zs)]) ∧ Reads w' w'.heap.size 1 A (sV smZ zs).length (nums .u8 (sV smZ zs)) ∧ Below w.heap.size w w'
theorem SGet_bad {zs : List Int} {w w' : World} {c : Int} (hc : c ≠ 0) (he : sE smZ zs = c) (hb : Below w.heap.size w w') : SGet zs w (.returned (.tuple #[.agg #[.int .i64 0, .int .u64 0, .int .u64 0, .slice none 0 0], .int .i64 c])) w' := by
  have e1 : sV smZ zs = [] := by unfold sV; rw [if_neg (by rw [he]; exact hc)]
  have e2 : sK smZ zs = 0 := by unfold sK; rw [if_neg (by rw [he]; exact hc)]
  have e3 : sA smZ zs = 0 := by unfold sA; rw [if_neg (by rw [he]; exact hc)]
  have e4 : sB smZ zs = 0 := by unfold sB; rw [if_neg (by rw [he]; exact hc)]
  refine ⟨none, 0, ?_, ?_, hb⟩
  · rw [e1, e2, e3, e4, he]; rfl
  · rw [e1]; exact Reads.none_
theorem sget_form (A : Option Addr) (n c : Nat) (zs : List Int) (w : World) (hr : Reads w w.heap.size 1 A n (nums .u8 zs)) (hn : n ≠ 1024) :
    Calls Tryd.prog 29 #[.slice A n c] w (SGet zs w) := by
  have hl : zs.length = n := by have := hr.1; simpa [nums] using this
  have he : sE smZ zs = 6 := by unfold sE; rw [if_pos (by rw [hl]; exact hn)]
  have HE := Lib.hid he
  have h1 : ((n : Int) != 1024) = true := by rw [bne_iff_ne]; omega
  clear hl he hr hn
  go_enter Tryd.func29, Tryd.ntmps29
  go_wp2_with fail
  go_returns
  exact SGet_bad (by decide) HE.out ((Below.refl _ _).alloc (Nat.le_refl _) _)
end Go.Proofs.YtfgkbghagklacaaDoor
