/-
  Filters in plain form may be.
-/
import Derived.Test.YtlipeplfjkgamaaWNrmG
namespace Go.Proofs.Ytlipeplfjkgamaa
set_option maxRecDepth 100000
open Go.RowKit H
open Nrm (nrm)
set_option linter.unusedVariables false
/-- what is in plain form may be -/
theorem nrm_ok {s : Sch} {f r : Fis} (K : FOk s f) (hl : r.l.length = r.n) (hn : ∀ x, x ∈ r.l → x.l.length = x.n) (hsl : s.ds.length = s.nd) (hk : r.l.map Fi.key = nrm (f.l.map Fi.key) 0 (szs s s.nd)) : fcode s r = 0 := by
  have G := Sch.good K.c
  have hnd := G.1
  refine fcode_ok K.c ?_ fun x hx => ?_
  · have h1 := congrArg List.length hk
    rw [List.length_map] at h1
    have h2 := Nrm.nrm_len (f.l.map Fi.key) (szs s s.nd) 0
    rw [szs_len] at h2
    omega
  · have hm : x.key ∈ nrm (f.l.map Fi.key) 0 (szs s s.nd) := by rw [← hk]; exact List.mem_map_of_mem hx
    obtain ⟨k, hk1, e, hlt⟩ := (Nrm.nrm_mem _ _ _ _).1 hm
    rw [szs_len] at hk1
    rw [Nat.zero_add, szs_at s hk1] at e hlt
    have e1 : x.d = (k : Int) := congrArg Prod.fst e
    have e2 : x.l = Nrm.sel (szN s k) (Nrm.kp (f.l.map Fi.key) k) := congrArg Prod.snd e
    have hbd := szB_at (mono_b (szB_s s.ds) (by omega : k + 1 ≤ s.nd) G.2)
    have hzn : ((szN s k : Nat) : Int) = (s.ds.getD k d0).2 := by unfold szN; omega
    have hxn := hn x hx
    rw [← e2] at hlt
    refine fE_0 (by omega) (by omega) fun i hi => ?_
    unfold cOk
    rw [e1, Int.toNat_natCast, ← hzn]
    have hmem : x.l.getD i 0 ∈ x.l := by
      rw [List.getD, List.getElem?_eq_getElem (by omega)]
      exact List.getElem_mem _
    have := Nrm.mem_sel.1 (e2 ▸ hmem : x.l.getD i 0 ∈ Nrm.sel (szN s k) (Nrm.kp (f.l.map Fi.key) k))
    exact this.1
end Go.Proofs.Ytlipeplfjkgamaa
