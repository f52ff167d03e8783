/-
  The reference's kind: whether a schema holds a name of a kind.
-/
import Derived.Test.YtdmfikedojgjbaaWDiffC
namespace Go.Proofs.Ytdmfikedojgjbaa
set_option maxRecDepth 100000
open Go.RowKit H
set_option linter.unusedVariables false
theorem mem_upto {l : List ByteArray} {x : ByteArray} (h : x ∈ l) : ∃ j, j < l.length ∧ l.getD j be0 = x := by
  obtain ⟨j, hj, e⟩ := List.mem_iff_getElem.1 h
  exact ⟨j, hj, by simp [List.getD, hj, e]⟩
theorem mem_at {l : List ByteArray} {j : Nat} (h : j < l.length) : l.getD j be0 ∈ l := by
  simp [List.getD, h]
theorem dmem {ds : List (ByteArray × Int)} {j : Nat} (h : j < ds.length) : (ds.getD j d0).1 ∈ ds.map (·.1) := by
  simp only [List.getD, List.getElem?_eq_getElem h, Option.getD_some]
  exact List.mem_map_of_mem (List.getElem_mem h)
theorem dmem_upto {ds : List (ByteArray × Int)} {x : ByteArray} (h : x ∈ ds.map (·.1)) : ∃ j, j < ds.length ∧ (ds.getD j d0).1 = x := by
  obtain ⟨p, hp, rfl⟩ := List.mem_map.1 h
  obtain ⟨j, hj, e⟩ := List.mem_iff_getElem.1 hp
  exact ⟨j, hj, by simp [List.getD, hj, e]⟩
namespace Sch
theorem Here.kind1 {s : Sch} {w : World} (h : s.Here w) (x : ByteArray) : Calls Try.prog 121 #[s.val, .string x, .int .i64 1] w fun e w' => e = .returned (.bool (among (s.ds.map (·.1)) x)) ∧ Ext w w' := by
  have q1 := h.hle
  have l1 := h.len
  refine enter Try.func121 rfl (by kernel_rfl) ?_
  refine J.seq ?_
  refine J.region ?_
  -- box
  refine L.boxA (l := [_, _, _, _]) rfl rfl ?_
  intro b1 w1 hb1 hs1 hk1 he1
  have hh := h.ext he1
  refine L.va rfl (X.assign (by conv => lhs; whnf)) ?_
  refine L.nil ?_
  refine J.seq ?_
  refine J.seq ?_
  refine J.region ?_
  refine L.va rfl (X.assign (by conv => lhs; whnf)) ?_
  refine L.nil ?_
  refine J.block ?_
  -- loop
  refine J.loop (X := Nat) [6, 7, 10, 11, 12, 13, 14, 15, 16, 17, 18, 19, 20, 21, 22, 23, 24, 25, 26, 27, 28] (fun i => [(7, .int .i64 (i : Int))]) (fun i w' => i ≤ s.nd ∧ (∀ j, j < i → ¬ (s.ds.getD j d0).1 = x) ∧ Ext w1 w') (fun i => s.nd - i) (0) (At1 (by first | rfl | exact at_int rfl (by omega) | exact at_slice rfl (by omega) | exact at_int rfl (by simp))) ?_ ?_
  · exact ⟨by omega, fun j hj => absurd hj (by omega), Ext.refl _⟩
  · rintro i g w2 ⟨hi, hP, he2⟩
    replace hk1 := hk1.ext he2
    have d1 := (hh.ext he2).hd
    refine J.seq ?_
    refine J.seq ?_
    refine J.region ?_
    refine L.va rfl (X.move (by conv => lhs; whnf)) ?_
    refine L.va rfl (X.eql rfl rfl) ?_
    refine L.va rfl (X.move (by conv => lhs; whnf)) ?_
    -- case t12
    refine L.caseDecT (k := 12) rfl (by rfl) ?_
    refine L.va rfl (X.move (by conv => lhs; whnf)) ?_
    refine L.va rfl (X.fieldAddr rfl Try.underlying97 rfl sz_93 (by decide)) ?_
    refine L.va rfl (X.load rfl sc_93 (by first | exact Ld.blk hk1 rfl | exact Ld.dimS d1 (by omega) | exact Ld.dimN d1 (by omega))) ?_
    refine L.va rfl (X.len rfl Try.underlying93) ?_
    refine L.va rfl (X.lss rfl rfl) ?_
    refine L.va rfl (X.pickT rfl (by conv => lhs; whnf)) ?_
    refine L.nil ?_
    -- cond
    refine J.dec rfl (fun hlt => ?_) (fun hlt => ?_)
    · have hi1 : i < s.ds.length := by omega
      refine J.skip ?_
      refine J.seq ?_
      refine J.block ?_
      refine J.seq ?_
      refine J.region ?_
      refine L.va rfl (X.fieldAddr rfl Try.underlying97 rfl sz_93 (by decide)) ?_
      refine L.va rfl (X.load rfl sc_93 (by first | exact Ld.blk hk1 rfl | exact Ld.dimS d1 (by omega) | exact Ld.dimN d1 (by omega))) ?_
      refine L.va rfl (X.move (by conv => lhs; whnf)) ?_
      refine L.va rfl ((by first | exact X.indexAddrn rfl rfl Try.underlying93 sz_151 (by first | exact Option.some_ne_none _ | exact d1.some_ (by omega)) (by omega) | exact X.indexAddr rfl rfl Try.underlying93 sz_151 (by first | exact Option.some_ne_none _ | exact d1.some_ (by omega)) (by omega))) ?_
      refine L.va rfl (X.fieldP rfl Try.underlying151 rfl sz_9 (by decide) (by first | exact Option.some_ne_none _ | exact d1.some_ (by omega))) ?_
      refine L.va rfl (X.load rfl sc_9 (by first | exact Ld.blk hk1 rfl | exact Ld.dimS d1 (by omega) | exact Ld.dimN d1 (by omega))) ?_
      refine L.va rfl (X.move (by conv => lhs; whnf)) ?_
      refine L.va rfl (X.eqlS rfl rfl) ?_
      refine L.nil ?_
      -- cond
      by_cases hd : (s.ds.getD i d0).1 = x
      · rw [show among (s.ds.map (·.1)) x = true from among_iff.2 (hd ▸ dmem hi1)]
        refine J.decT rfl (by exact hd) ?_
        refine J.seq ?_
        refine J.region ?_
        refine L.va rfl (X.assign (by conv => lhs; whnf)) ?_
        refine L.nil ?_
        -- ret
        refine J.ret ?_
        refine inB_ret <|  thn_ret <|  thn_ret <|  inB_ret <|  thn_ret <| ?_
        refine fin1 ?_
        exact ⟨rfl, he1.trans he2⟩
      · refine J.decF rfl (by exact hd) ?_
        refine J.skip ?_
        refine J.region ?_
        refine L.va rfl (X.move (by conv => lhs; whnf)) ?_
        refine L.va rfl (X.add rfl rfl (by omega)) ?_
        refine L.va rfl (X.assign (by conv => lhs; whnf)) ?_
        refine L.nil ?_
        -- loopend
        refine ⟨i + 1, At1 (by first | rfl | exact at_int rfl (by omega) | exact at_slice rfl (by omega) | exact at_int rfl (by simp)), (by (iterate 21 refine Agr.lk rfl ?_); exact Agr.lk rfl (Agr.hav rfl Agr.rfl')), ?_⟩
        refine ⟨⟨by omega, fun j hj => ?_, he2⟩, by omega⟩
        rcases Nat.lt_or_ge j i with h | h
        · exact hP j h
        · obtain rfl : j = i := by omega
          exact hd
    · rw [show among (s.ds.map (·.1)) x = false from Bool.eq_false_iff.2 fun hm => by
        obtain ⟨j, hj, e⟩ := dmem_upto (among_iff.1 hm)
        exact hP j (by omega) e]
      refine J.exit ?_
      refine J.seq ?_
      refine J.region ?_
      refine L.va rfl (X.fieldAddr rfl Try.underlying97 rfl sz_94 (by decide)) ?_
      refine L.va rfl (X.load rfl sc_94 (by first | exact Ld.blk hk1 rfl | exact Ld.dimS d1 (by omega) | exact Ld.dimN d1 (by omega))) ?_
      refine L.va rfl (X.assign (by conv => lhs; whnf)) ?_
      refine L.nil ?_
      refine J.seq ?_
      refine J.seq ?_
      refine J.region ?_
      refine L.va rfl (X.move (by conv => lhs; whnf)) ?_
      refine L.va rfl (X.eql rfl rfl) ?_
      refine L.nil ?_
      -- cond
      refine J.decF rfl (by decide) ?_
      refine J.skip ?_
      refine J.seq ?_
      refine J.seq ?_
      refine J.region ?_
      refine L.va rfl (X.assign (by conv => lhs; whnf)) ?_
      refine L.nil ?_
      refine J.block ?_
      -- loop
      refine J.loop (X := Unit) [6, 9, 35, 36, 37, 38, 39, 40, 41, 42, 43, 44, 45, 46, 47, 48, 49, 50] (fun _ => [(9, .int .i64 0)]) (fun _ w' => w2 = w') (fun _ => 0) (()) (At1 (by first | rfl | exact at_int rfl (by omega) | exact at_slice rfl (by omega) | exact at_int rfl (by simp))) ?_ ?_
      · rfl
      · rintro ⟨⟩ g w3 rfl
        refine J.seq ?_
        refine J.seq ?_
        refine J.region ?_
        refine L.va rfl (X.move (by conv => lhs; whnf)) ?_
        refine L.va rfl (X.gtr rfl rfl) ?_
        refine L.va rfl (X.move (by conv => lhs; whnf)) ?_
        -- case t37
        refine L.caseDecF (k := 37) rfl (by decide) ?_
        refine L.no rfl ?_
        refine L.no rfl ?_
        refine L.no rfl ?_
        refine L.no rfl ?_
        refine L.va rfl (X.pickF rfl (by conv => lhs; whnf)) ?_
        refine L.nil ?_
        -- cond
        refine J.iteF rfl ?_
        refine J.exit ?_
        refine J.seq ?_
        refine J.region ?_
        refine L.va rfl (X.assign (by conv => lhs; whnf)) ?_
        refine L.nil ?_
        -- ret
        refine J.ret ?_
        refine fin1 ?_
        exact ⟨rfl, he1.trans he2⟩
theorem Here.kind2 {s : Sch} {w : World} (h : s.Here w) (x : ByteArray) : Calls Try.prog 121 #[s.val, .string x, .int .i64 2] w fun e w' => e = .returned (.bool (among (s.s1) x)) ∧ Ext w w' := by
  have q1 := h.hle
  have l1 : s.s1.length = s.n1 := by have := h.h1.1; simpa [strs] using this
  refine enter Try.func121 rfl (by kernel_rfl) ?_
  refine J.seq ?_
  refine J.region ?_
  -- box
  refine L.boxA (l := [_, _, _, _]) rfl rfl ?_
  intro b1 w1 hb1 hs1 hk1 he1
  have hh := h.ext he1
  refine L.va rfl (X.assign (by conv => lhs; whnf)) ?_
  refine L.nil ?_
  refine J.seq ?_
  refine J.seq ?_
  refine J.region ?_
  refine L.va rfl (X.assign (by conv => lhs; whnf)) ?_
  refine L.nil ?_
  refine J.block ?_
  -- loop
  refine J.loop (X := Unit) [6, 7, 10, 11, 12, 13, 14, 15, 16, 17, 18, 19, 20, 21, 22, 23, 24, 25, 26, 27, 28] (fun _ => [(7, .int .i64 0)]) (fun _ w' => w1 = w') (fun _ => 0) (()) (At1 (by first | rfl | exact at_int rfl (by omega) | exact at_slice rfl (by omega) | exact at_int rfl (by simp))) ?_ ?_
  · rfl
  · rintro ⟨⟩ g w3 rfl
    refine J.seq ?_
    refine J.seq ?_
    refine J.region ?_
    refine L.va rfl (X.move (by conv => lhs; whnf)) ?_
    refine L.va rfl (X.eql rfl rfl) ?_
    refine L.va rfl (X.move (by conv => lhs; whnf)) ?_
    -- case t12
    refine L.caseDecF (k := 12) rfl (by decide) ?_
    refine L.no rfl ?_
    refine L.no rfl ?_
    refine L.no rfl ?_
    refine L.no rfl ?_
    refine L.no rfl ?_
    refine L.va rfl (X.pickF rfl (by conv => lhs; whnf)) ?_
    refine L.nil ?_
    -- cond
    refine J.iteF rfl ?_
    refine J.exit ?_
    refine J.seq ?_
    refine J.region ?_
    refine L.va rfl (X.fieldAddr rfl Try.underlying97 rfl sz_94 (by decide)) ?_
    refine L.va rfl (X.load rfl sc_94 (by first | exact Ld.blk hk1 rfl)) ?_
    refine L.va rfl (X.assign (by conv => lhs; whnf)) ?_
    refine L.nil ?_
    refine J.seq ?_
    refine J.seq ?_
    refine J.region ?_
    refine L.va rfl (X.move (by conv => lhs; whnf)) ?_
    refine L.va rfl (X.eql rfl rfl) ?_
    refine L.nil ?_
    -- cond
    refine J.decF rfl (by decide) ?_
    refine J.skip ?_
    refine J.seq ?_
    refine J.seq ?_
    refine J.region ?_
    refine L.va rfl (X.assign (by conv => lhs; whnf)) ?_
    refine L.nil ?_
    refine J.block ?_
    -- loop
    refine J.loop (X := Nat) [6, 9, 35, 36, 37, 38, 39, 40, 41, 42, 43, 44, 45, 46, 47, 48, 49, 50] (fun i => [(9, .int .i64 (i : Int))]) (fun i w' => i ≤ s.n1 ∧ (∀ j, j < i → ¬ s.s1.getD j be0 = x) ∧ Ext w1 w') (fun i => s.n1 - i) (0) (At1 (by first | rfl | exact at_int rfl (by omega) | exact at_slice rfl (by omega) | exact at_int rfl (by simp))) ?_ ?_
    · exact ⟨by omega, fun j hj => absurd hj (by omega), Ext.refl _⟩
    · rintro i g w2 ⟨hi, hP, he2⟩
      have d1 := (hh.ext he2).h1
      refine J.seq ?_
      refine J.seq ?_
      refine J.region ?_
      refine L.va rfl (X.move (by conv => lhs; whnf)) ?_
      refine L.va rfl (X.gtr rfl rfl) ?_
      refine L.va rfl (X.move (by conv => lhs; whnf)) ?_
      -- case t37
      refine L.caseDecT (k := 37) rfl (by decide) ?_
      refine L.va rfl (X.move (by conv => lhs; whnf)) ?_
      refine L.va rfl (X.move (by conv => lhs; whnf)) ?_
      refine L.va rfl (X.len rfl Try.underlying94) ?_
      refine L.va rfl (X.lss rfl rfl) ?_
      refine L.va rfl (X.pickT rfl (by conv => lhs; whnf)) ?_
      refine L.nil ?_
      -- cond
      refine J.dec rfl (fun hlt => ?_) (fun hlt => ?_)
      · have hi1 : i < s.s1.length := by omega
        refine J.skip ?_
        refine J.seq ?_
        refine J.block ?_
        refine J.seq ?_
        refine J.region ?_
        refine L.va rfl (X.move (by conv => lhs; whnf)) ?_
        refine L.va rfl (X.move (by conv => lhs; whnf)) ?_
        refine L.va rfl ((by first | exact X.index1n rfl rfl Try.underlying94 sz_9 (by first | exact Option.some_ne_none _ | exact d1.some_ (by omega)) (by omega) | exact X.index1 rfl rfl Try.underlying94 sz_9 (by first | exact Option.some_ne_none _ | exact d1.some_ (by omega)) (by omega))) ?_
        refine L.va rfl (X.load rfl sc_9 (by first | exact Ld.blk hk1 rfl | exact Ld.str d1 (by omega))) ?_
        refine L.va rfl (X.move (by conv => lhs; whnf)) ?_
        refine L.va rfl (X.eqlS rfl rfl) ?_
        refine L.nil ?_
        -- cond
        by_cases hd : s.s1.getD i be0 = x
        · rw [show among (s.s1) x = true from among_iff.2 (hd ▸ mem_at hi1)]
          refine J.decT rfl (by exact hd) ?_
          refine J.seq ?_
          refine J.region ?_
          refine L.va rfl (X.assign (by conv => lhs; whnf)) ?_
          refine L.nil ?_
          -- ret
          refine J.ret ?_
          refine inB_ret <|  thn_ret <|  thn_ret <|  inB_ret <|  thn_ret <| ?_
          refine fin1 ?_
          exact ⟨rfl, he1.trans he2⟩
        · refine J.decF rfl (by exact hd) ?_
          refine J.skip ?_
          refine J.region ?_
          refine L.va rfl (X.move (by conv => lhs; whnf)) ?_
          refine L.va rfl (X.add rfl rfl (by omega)) ?_
          refine L.va rfl (X.assign (by conv => lhs; whnf)) ?_
          refine L.nil ?_
          -- loopend
          refine ⟨i + 1, At1 (by first | rfl | exact at_int rfl (by omega) | exact at_slice rfl (by omega) | exact at_int rfl (by simp)), (by (iterate 18 refine Agr.lk rfl ?_); exact Agr.lk rfl (Agr.hav rfl Agr.rfl')), ?_⟩
          refine ⟨⟨by omega, fun j hj => ?_, he2⟩, by omega⟩
          rcases Nat.lt_or_ge j i with h | h
          · exact hP j h
          · obtain rfl : j = i := by omega
            exact hd
      · rw [show among (s.s1) x = false from Bool.eq_false_iff.2 fun hm => by
          obtain ⟨j, hj, e⟩ := mem_upto (among_iff.1 hm)
          exact hP j (by omega) e]
        refine J.exit ?_
        refine J.seq ?_
        refine J.region ?_
        refine L.va rfl (X.assign (by conv => lhs; whnf)) ?_
        refine L.nil ?_
        -- ret
        refine J.ret ?_
        refine fin1 ?_
        exact ⟨rfl, he1.trans he2⟩
theorem Here.kind3 {s : Sch} {w : World} (h : s.Here w) (x : ByteArray) : Calls Try.prog 121 #[s.val, .string x, .int .i64 3] w fun e w' => e = .returned (.bool (among (s.s2) x)) ∧ Ext w w' := by
  have q1 := h.hle
  have l1 : s.s2.length = s.n2 := by have := h.h2.1; simpa [strs] using this
  refine enter Try.func121 rfl (by kernel_rfl) ?_
  refine J.seq ?_
  refine J.region ?_
  -- box
  refine L.boxA (l := [_, _, _, _]) rfl rfl ?_
  intro b1 w1 hb1 hs1 hk1 he1
  have hh := h.ext he1
  refine L.va rfl (X.assign (by conv => lhs; whnf)) ?_
  refine L.nil ?_
  refine J.seq ?_
  refine J.seq ?_
  refine J.region ?_
  refine L.va rfl (X.assign (by conv => lhs; whnf)) ?_
  refine L.nil ?_
  refine J.block ?_
  -- loop
  refine J.loop (X := Unit) [6, 7, 10, 11, 12, 13, 14, 15, 16, 17, 18, 19, 20, 21, 22, 23, 24, 25, 26, 27, 28] (fun _ => [(7, .int .i64 0)]) (fun _ w' => w1 = w') (fun _ => 0) (()) (At1 (by first | rfl | exact at_int rfl (by omega) | exact at_slice rfl (by omega) | exact at_int rfl (by simp))) ?_ ?_
  · rfl
  · rintro ⟨⟩ g w3 rfl
    refine J.seq ?_
    refine J.seq ?_
    refine J.region ?_
    refine L.va rfl (X.move (by conv => lhs; whnf)) ?_
    refine L.va rfl (X.eql rfl rfl) ?_
    refine L.va rfl (X.move (by conv => lhs; whnf)) ?_
    -- case t12
    refine L.caseDecF (k := 12) rfl (by decide) ?_
    refine L.no rfl ?_
    refine L.no rfl ?_
    refine L.no rfl ?_
    refine L.no rfl ?_
    refine L.no rfl ?_
    refine L.va rfl (X.pickF rfl (by conv => lhs; whnf)) ?_
    refine L.nil ?_
    -- cond
    refine J.iteF rfl ?_
    refine J.exit ?_
    refine J.seq ?_
    refine J.region ?_
    refine L.va rfl (X.fieldAddr rfl Try.underlying97 rfl sz_94 (by decide)) ?_
    refine L.va rfl (X.load rfl sc_94 (by first | exact Ld.blk hk1 rfl)) ?_
    refine L.va rfl (X.assign (by conv => lhs; whnf)) ?_
    refine L.nil ?_
    refine J.seq ?_
    refine J.seq ?_
    refine J.region ?_
    refine L.va rfl (X.move (by conv => lhs; whnf)) ?_
    refine L.va rfl (X.eql rfl rfl) ?_
    refine L.nil ?_
    -- cond
    refine J.decT rfl (by exact rfl) ?_
    refine J.region ?_
    refine L.va rfl (X.fieldAddr rfl Try.underlying97 rfl sz_94 (by decide)) ?_
    refine L.va rfl (X.load rfl sc_94 (by first | exact Ld.blk hk1 rfl)) ?_
    refine L.va rfl (X.assign (by conv => lhs; whnf)) ?_
    refine L.nil ?_
    refine J.seq ?_
    refine J.seq ?_
    refine J.region ?_
    refine L.va rfl (X.assign (by conv => lhs; whnf)) ?_
    refine L.nil ?_
    refine J.block ?_
    -- loop
    refine J.loop (X := Nat) [6, 9, 35, 36, 37, 38, 39, 40, 41, 42, 43, 44, 45, 46, 47, 48, 49, 50] (fun i => [(9, .int .i64 (i : Int))]) (fun i w' => i ≤ s.n2 ∧ (∀ j, j < i → ¬ s.s2.getD j be0 = x) ∧ Ext w1 w') (fun i => s.n2 - i) (0) (At1 (by first | rfl | exact at_int rfl (by omega) | exact at_slice rfl (by omega) | exact at_int rfl (by simp))) ?_ ?_
    · exact ⟨by omega, fun j hj => absurd hj (by omega), Ext.refl _⟩
    · rintro i g w2 ⟨hi, hP, he2⟩
      have d1 := (hh.ext he2).h2
      refine J.seq ?_
      refine J.seq ?_
      refine J.region ?_
      refine L.va rfl (X.move (by conv => lhs; whnf)) ?_
      refine L.va rfl (X.gtr rfl rfl) ?_
      refine L.va rfl (X.move (by conv => lhs; whnf)) ?_
      -- case t37
      refine L.caseDecT (k := 37) rfl (by decide) ?_
      refine L.va rfl (X.move (by conv => lhs; whnf)) ?_
      refine L.va rfl (X.move (by conv => lhs; whnf)) ?_
      refine L.va rfl (X.len rfl Try.underlying94) ?_
      refine L.va rfl (X.lss rfl rfl) ?_
      refine L.va rfl (X.pickT rfl (by conv => lhs; whnf)) ?_
      refine L.nil ?_
      -- cond
      refine J.dec rfl (fun hlt => ?_) (fun hlt => ?_)
      · have hi1 : i < s.s2.length := by omega
        refine J.skip ?_
        refine J.seq ?_
        refine J.block ?_
        refine J.seq ?_
        refine J.region ?_
        refine L.va rfl (X.move (by conv => lhs; whnf)) ?_
        refine L.va rfl (X.move (by conv => lhs; whnf)) ?_
        refine L.va rfl ((by first | exact X.index1n rfl rfl Try.underlying94 sz_9 (by first | exact Option.some_ne_none _ | exact d1.some_ (by omega)) (by omega) | exact X.index1 rfl rfl Try.underlying94 sz_9 (by first | exact Option.some_ne_none _ | exact d1.some_ (by omega)) (by omega))) ?_
        refine L.va rfl (X.load rfl sc_9 (by first | exact Ld.blk hk1 rfl | exact Ld.str d1 (by omega))) ?_
        refine L.va rfl (X.move (by conv => lhs; whnf)) ?_
        refine L.va rfl (X.eqlS rfl rfl) ?_
        refine L.nil ?_
        -- cond
        by_cases hd : s.s2.getD i be0 = x
        · rw [show among (s.s2) x = true from among_iff.2 (hd ▸ mem_at hi1)]
          refine J.decT rfl (by exact hd) ?_
          refine J.seq ?_
          refine J.region ?_
          refine L.va rfl (X.assign (by conv => lhs; whnf)) ?_
          refine L.nil ?_
          -- ret
          refine J.ret ?_
          refine inB_ret <|  thn_ret <|  thn_ret <|  inB_ret <|  thn_ret <| ?_
          refine fin1 ?_
          exact ⟨rfl, he1.trans he2⟩
        · refine J.decF rfl (by exact hd) ?_
          refine J.skip ?_
          refine J.region ?_
          refine L.va rfl (X.move (by conv => lhs; whnf)) ?_
          refine L.va rfl (X.add rfl rfl (by omega)) ?_
          refine L.va rfl (X.assign (by conv => lhs; whnf)) ?_
          refine L.nil ?_
          -- loopend
          refine ⟨i + 1, At1 (by first | rfl | exact at_int rfl (by omega) | exact at_slice rfl (by omega) | exact at_int rfl (by simp)), (by (iterate 18 refine Agr.lk rfl ?_); exact Agr.lk rfl (Agr.hav rfl Agr.rfl')), ?_⟩
          refine ⟨⟨by omega, fun j hj => ?_, he2⟩, by omega⟩
          rcases Nat.lt_or_ge j i with h | h
          · exact hP j h
          · obtain rfl : j = i := by omega
            exact hd
      · rw [show among (s.s2) x = false from Bool.eq_false_iff.2 fun hm => by
          obtain ⟨j, hj, e⟩ := mem_upto (among_iff.1 hm)
          exact hP j (by omega) e]
        refine J.exit ?_
        refine J.seq ?_
        refine J.region ?_
        refine L.va rfl (X.assign (by conv => lhs; whnf)) ?_
        refine L.nil ?_
        -- ret
        refine J.ret ?_
        refine fin1 ?_
        exact ⟨rfl, he1.trans he2⟩
end Sch
end Go.Proofs.Ytdmfikedojgjbaa
