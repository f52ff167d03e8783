/-
  A schema's bytes, laid by the reference.
-/
import Derived.Test.YtlohbkcedpkjaaaWSchH
namespace Go.Proofs.Ytlohbkcedpkjaaa
set_option maxRecDepth 100000
open Go.RowKit H
open Byts Cod
set_option linter.unusedVariables false
/-- a schema's content -/
def scOf (s : Sch) : SC := ⟨s.ds.map (fun x => (tz x.1, x.2)), s.s1.map tz, s.s2.map tz, s.zs⟩
/-- what is laid ahead of the i-th -/
def lys {α : Type} (enc : α → List Int) (h : List Int) (l : List α) (i : Nat) : List Int := h ++ (l.take i).flatMap enc
section
variable {α : Type} {enc : α → List Int} {h : List Int} {l : List α}
theorem lys_zero : lys enc h l 0 = h := by simp [lys]
theorem lys_next {i : Nat} {x : α} (hx : l[i]? = some x) : lys enc h l (i + 1) = lys enc h l i ++ enc x := by
  unfold lys
  rw [List.take_succ_eq_append_getElem (List.getElem?_eq_some_iff.1 hx).1, List.flatMap_append, List.flatMap_singleton, (List.getElem?_eq_some_iff.1 hx).2, List.append_assoc]
theorem lys_all : lys enc h l l.length = h ++ l.flatMap enc := by unfold lys; rw [List.take_of_length_le (Nat.le_refl _)]
theorem lys_le {m i : Nat} (hm : ∀ x ∈ l, (enc x).length ≤ m) : (lys enc h l i).length ≤ h.length + l.length * m := by
  unfold lys
  rw [List.length_append]
  have h1 := flat_le (enc := enc) (l := l.take i) (m := m) fun x hx => hm x (List.mem_of_mem_take hx)
  have h2 : (l.take i).length * m ≤ l.length * m := Nat.mul_le_mul_right _ (by rw [List.length_take]; omega)
  omega
end
theorem ct_tz_le {u : ByteArray} (h : u.size ≤ 16) : (ct (tz u)).length ≤ 34 := by have := ct_length (tz u); rw [tz_length] at this; omega
theorem rtexts_ (A : Option Addr) (n c : Nat) (l : List ByteArray) (w : World) (hr : Reads w w.heap.size 1 A n (strs l)) (hn : n ≤ 100) (h16 : ∀ x ∈ l, x.size ≤ 16) :
    Calls Try.prog 89 #[.slice A n c] w fun e w' => ∃ A' c', e = .returned (.slice A' (eT (l.map tz)).length c') ∧ w'.ownsRow w.heap.size 5 1 (.slice A' (eT (l.map tz)).length c') (eT (l.map tz)).length (nums .u8 (eT (l.map tz))) ∧ Ext w w' := by
  have hl : l.length = n := by have := hr.1; simpa [strs] using this
  have hcu := cu9 (x := (n : Int)) (by omega) (by omega)
  have hm : ∀ x ∈ l.map tz, (ct x).length ≤ 34 := fun x hx => by
    obtain ⟨u, hu, rfl⟩ := List.mem_map.1 hx
    exact ct_tz_le (h16 u hu)
  have hle := fun i => lys_le (h := cu (n : Int)) (i := i) hm
  rw [List.length_map, hl] at hle
  have eE : eT (l.map tz) = lys ct (cu (n : Int)) (l.map tz) n := by
    have := lys_all (enc := ct) (h := cu (n : Int)) (l := l.map tz)
    rw [List.length_map, hl] at this
    rw [this]; unfold eT; rw [List.length_map, hl]
  rw [eE]
  refine enter Try.func89 rfl (by kernel_rfl) ?_
  refine J.seq ?_
  refine J.region ?_
  refine L.va rfl (X.assign (by conv => lhs; whnf)) ?_
  refine L.nil ?_
  refine J.seq ?_
  refine J.region ?_
  refine L.va rfl (X.move (by conv => lhs; whnf)) ?_
  refine L.va rfl (X.len rfl Try.underlying31) ?_
  refine L.va rfl ((by first | exact X.convU rfl is_3 Try.underlying73 (by omega) | exact X.convw rfl is_3 Try.underlying73)) ?_
  -- callfn bushel/bushelref07.U
  refine L.call rfl en_87 rfl (ref_U (n : Int) w (by omega) (by omega)) ?_
  rintro e w1 ⟨A1, c1, rfl, ho1, he1⟩
  refine ⟨_, rfl, ?_⟩
  have z1 := he1.le
  refine L.va rfl (X.assign (by conv => lhs; whnf)) ?_
  refine L.nil ?_
  refine J.seq ?_
  refine J.seq ?_
  refine J.region ?_
  refine L.va rfl (X.assign (by conv => lhs; whnf)) ?_
  refine L.nil ?_
  refine J.block ?_
  -- loop
  refine J.loop (X := Nat × Option Addr × Nat × Nat) [3, 4, 9, 10, 11, 12, 13, 14, 15, 16, 17, 18, 19, 20, 21] (fun x => [(4, .int .i64 (x.1 : Int)), (3, .slice x.2.1 x.2.2.1 x.2.2.2)]) (fun x w' => x.1 ≤ n ∧ x.2.2.1 = (lys ct (cu (n : Int)) (l.map tz) x.1).length ∧ w'.ownsRow w.heap.size 5 1 (.slice x.2.1 x.2.2.1 x.2.2.2) x.2.2.1 (nums .u8 (lys ct (cu (n : Int)) (l.map tz) x.1)) ∧ Ext w w') (fun x => n - x.1) ((0, A1, wd (n : Int) + 1, c1)) (At2 (by first | rfl | exact at_int rfl (by omega) | exact at_slice rfl (by omega) | exact at_int rfl (by simp)) (by first | rfl | exact at_int rfl (by omega) | exact at_slice rfl (by omega) | exact at_int rfl (by simp))) ?_ ?_
  · refine ⟨Nat.zero_le _, ?_, ?_, he1⟩
    · rw [lys_zero, cu_length]
    · rw [lys_zero]; exact ho1
  · rintro ⟨i, A2, q, c2⟩ g w2 ⟨hi, hq, ho2, he2⟩
    dsimp only at hi hq ho2
    have q1 : ((i, A2, q, c2) : Nat × Option Addr × Nat × Nat).1 = i := rfl
    have z2 := he2.le
    have r2 := hr.ext he2
    refine J.seq ?_
    refine J.seq ?_
    refine J.region ?_
    refine L.va rfl (X.move (by conv => lhs; whnf)) ?_
    refine L.va rfl (X.move (by conv => lhs; whnf)) ?_
    refine L.va rfl (X.len rfl Try.underlying31) ?_
    refine L.va rfl (X.lss rfl rfl) ?_
    refine L.nil ?_
    -- cond
    refine J.dec rfl (fun hlt => ?_) (fun hlt => ?_)
    · have hin : i < n := by dsimp only at hlt; omega
      have hA := r2.some_ (by omega)
      have hx : (l.map tz)[i]? = some (tz (l.getD i be0)) := by rw [List.getElem?_map, List.getD, List.getElem?_eq_getElem (by omega)]; rfl
      have hsz : (l.getD i be0).size ≤ 16 := by rw [List.getD, List.getElem?_eq_getElem (by omega)]; exact h16 _ (List.getElem_mem _)
      have hnx := lys_next (enc := ct) (h := cu (n : Int)) hx
      have hnl := congrArg List.length hnx
      rw [List.length_append, ← hq] at hnl
      have hb := hle (i + 1)
      refine J.skip ?_
      refine J.seq ?_
      refine J.block ?_
      refine J.region ?_
      refine L.va rfl (X.move (by conv => lhs; whnf)) ?_
      refine L.va rfl (X.move (by conv => lhs; whnf)) ?_
      refine L.va rfl (X.move (by conv => lhs; whnf)) ?_
      refine L.va rfl ((by first | exact X.index1n rfl rfl Try.underlying31 sz_9 (by first | exact Option.some_ne_none _ | exact r2.some_ (by omega) | exact hA) (by omega) | exact X.index1 rfl rfl Try.underlying31 sz_9 (by first | exact Option.some_ne_none _ | exact r2.some_ (by omega) | exact hA) (by omega))) ?_
      refine L.va rfl (X.load rfl sc_9 (by first | exact Ld.str r2 (by omega) | exact hA)) ?_
      -- callfn bushel/bushelref07.T
      refine L.call rfl en_88 rfl (ref_T (l.getD i be0) w2 (by omega)) ?_
      rintro e w3 ⟨A3, c3, rfl, ho3, he3⟩
      refine ⟨_, rfl, ?_⟩
      have z3 := he3.le
      -- append
      refine L.appendQ (q := (lys ct (cu (n : Int)) (l.map tz) (i + 1)).length) (ys := _) rfl rfl rfl Try.underlying58 el_5 (ho2.ext he3) ((Reads.of_own ho3)) (by omega) rfl (by unfold maxLen; omega) (by omega) ?_
      intro A4 c4 w4 ho4 hg4 hb4 hor4
      have ho4 : w4.ownsRow w.heap.size 5 1 (.slice A4 (lys ct (cu (n : Int)) (l.map tz) (i + 1)).length c4) (lys ct (cu (n : Int)) (l.map tz) (i + 1)).length (nums .u8 (lys ct (cu (n : Int)) (l.map tz) i ++ ct (tz (l.getD i be0)))) := ho4
      rw [← hnx] at ho4
      refine L.va rfl (X.assign (by conv => lhs; whnf)) ?_
      refine L.nil ?_
      refine J.region ?_
      refine L.va rfl (X.move (by conv => lhs; whnf)) ?_
      refine L.va rfl (X.add rfl rfl (by omega)) ?_
      refine L.va rfl (X.assign (by conv => lhs; whnf)) ?_
      refine L.nil ?_
      -- loopend
      refine ⟨(i + 1, A4, (lys ct (cu (n : Int)) (l.map tz) (i + 1)).length, c4), At2 (by first | rfl | exact at_int rfl (by omega) | exact at_slice rfl (by omega) | exact at_int rfl (by simp)) (by first | rfl | exact at_int rfl (by omega) | exact at_slice rfl (by omega) | exact at_int rfl (by simp)), (by (iterate 15 refine Agr.lk rfl ?_); exact Agr.lk rfl (Agr.hav rfl Agr.rfl')), ?_⟩
      exact ⟨⟨by dsimp only; omega, rfl, ho4, (he2.trans he3).low hb4 (Nat.le_refl _)⟩, by dsimp only; omega⟩
    · obtain rfl : i = n := by dsimp only at hlt; omega
      subst hq
      refine J.exit ?_
      refine J.seq ?_
      refine J.region ?_
      refine L.va rfl (X.move (by conv => lhs; whnf)) ?_
      refine L.va rfl (X.assign (by conv => lhs; whnf)) ?_
      refine L.nil ?_
      -- ret
      refine J.ret ?_
      refine fin1 ?_
      exact ⟨A2, c2, rfl, ho2, he2⟩
theorem isS_16 {u : ByteArray} (h : isS u = true) : u.size ≤ 16 := (of_decide_eq_true h).2.1
theorem chk_nm {nd n1 n2 nv : Nat} {ds : List (ByteArray × Int)} {s1 s2 : List ByteArray} {zs : List Int} (h : chk nd n1 n2 nv ds s1 s2 zs = 0) : nmB (nmL ds s1 s2) (nd + n1 + n2) = true := by
  unfold chk at h
  split at h
  · cases h
  · split at h
    · cases h
    · rename_i h8
      simpa using h8
theorem nmB_all {l : List ByteArray} {n i : Nat} (h : nmB l n = true) (hi : i < n) : isS (l.getD i be0) = true := nmB_at (mono_b (nmB_s l) (by omega : i + 1 ≤ n) h)
theorem Sch.Here.fits {s : Sch} {w : World} (h : s.Here w) (l1 : s.s1.length = s.n1) (l2 : s.s2.length = s.n2) (hc : s.code = 0) : Fits (scOf s) := by
  have hg := Sch.good hc
  have hd := h.len
  have hv := h.zlen
  have hN := chk_nm (show chk _ _ _ _ _ _ _ _ = 0 from hc)
  have hall : ∀ u ∈ nmL s.ds s.s1 s.s2, u.size ≤ 16 := fun u hu => by
    obtain ⟨i, hi, rfl⟩ := List.getElem_of_mem hu
    have hlen : (nmL s.ds s.s1 s.s2).length = s.nd + s.n1 + s.n2 := by simp [nmL, hd, l1, l2, Nat.add_assoc]
    have := isS_16 (nmB_all hN (by omega : i < s.nd + s.n1 + s.n2))
    rwa [List.getD, List.getElem?_eq_getElem hi] at this
  refine ⟨by show (s.ds.map _).length ≤ 6; rw [List.length_map]; omega, ?_, by show (s.s1.map _).length ≤ 3; rw [List.length_map]; omega, ?_, by show (s.s2.map _).length ≤ 2; rw [List.length_map]; omega, ?_, by show s.zs.length ≤ 15; omega, ?_⟩
  · intro x hx
    obtain ⟨y, hy, rfl⟩ := List.mem_map.1 hx
    refine ⟨⟨?_, tz_bytes _⟩, ?_⟩
    · show ((tz y.1).length : Int) ≤ 16
      rw [tz_length]
      have := hall y.1 (by simp only [nmL, List.mem_append, List.mem_map]; exact .inl (.inl ⟨y, hy, rfl⟩))
      omega
    · show 0 ≤ y.2 ∧ y.2 ≤ 4096
      obtain ⟨i, hi, rfl⟩ := List.getElem_of_mem hy
      have := szB_at (mono_b (szB_s s.ds) (by omega : i + 1 ≤ s.nd) hg.2)
      rw [List.getD, List.getElem?_eq_getElem hi] at this
      have h3 : 1 ≤ (s.ds[i]).2 ∧ (s.ds[i]).2 ≤ 4096 ∧ _ := this
      omega
  · intro x hx
    obtain ⟨y, hy, rfl⟩ := List.mem_map.1 hx
    have := hall y (by simp only [nmL, List.mem_append]; exact .inl (.inr hy))
    exact ⟨by rw [tz_length]; omega, tz_bytes _⟩
  · intro x hx
    obtain ⟨y, hy, rfl⟩ := List.mem_map.1 hx
    have := hall y (by simp only [nmL, List.mem_append]; exact .inr hy)
    exact ⟨by rw [tz_length]; omega, tz_bytes _⟩
  · intro x hx
    obtain ⟨i, hi, rfl⟩ := List.getElem_of_mem (show x ∈ s.zs from hx)
    have := h.hzs i
    rw [List.getD, List.getElem?_eq_getElem hi] at this
    have h3 : 0 ≤ s.zs[i] ∧ s.zs[i] < 4294967296 := this
    omega
end Go.Proofs.Ytlohbkcedpkjaaa
