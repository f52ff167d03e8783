/-
  Orders: the reference's Less.
-/
import Derived.Test.YtmnlaekcojblkaaWOrdC
namespace Go.Proofs.Ytmnlaekcojblkaa
set_option maxRecDepth 100000
open Go.RowKit H
open Byts Cod Flo Odr
set_option linter.unusedVariables false
namespace H
theorem D.four {P : Program} {n : Nat} {ops : List Oper} {Q : Exit → Fr → World → Prop} {f : Fr} {w : World} {S : World → Prop} {ℓ : Nat} {fuel : Nat} {listed : Array Bool} (i j k m : Nat) {o o' o'' o3 : Oper} (hr : Region.ready .any ops.toArray listed = [i, j, k, m]) (ho : ops[i]? = some o) (ho' : ops[j]? = some o') (ho'' : ops[k]? = some o'') (ho3 : ops[m]? = some o3)
    (h : L P n ops (thn (fun f' w' => (i ≠ ℓ → S w') ∧ D P n ops S ℓ Q fuel (listed.setIfInBounds i true) f' w') Q) [o] f w)
    (h' : L P n ops (thn (fun f' w' => (j ≠ ℓ → S w') ∧ D P n ops S ℓ Q fuel (listed.setIfInBounds j true) f' w') Q) [o'] f w)
    (h'' : L P n ops (thn (fun f' w' => (k ≠ ℓ → S w') ∧ D P n ops S ℓ Q fuel (listed.setIfInBounds k true) f' w') Q) [o''] f w)
    (h3 : L P n ops (thn (fun f' w' => (m ≠ ℓ → S w') ∧ D P n ops S ℓ Q fuel (listed.setIfInBounds m true) f' w') Q) [o3] f w) : D P n ops S ℓ Q (fuel + 1) listed f w :=
  D.all hr (by simp) (fun q hq => by
    have : q = i ∨ q = j ∨ q = k ∨ q = m := by simpa using hq
    rcases this with rfl | rfl | rfl | rfl
    · exact ⟨o, ho, h⟩
    · exact ⟨o', ho', h'⟩
    · exact ⟨o'', ho'', h''⟩
    · exact ⟨o3, ho3, h3⟩)
end H
abbrev oR (x : Int × Bool) : List Value := [.int .i64 x.1, .bool x.2]
theorem oR_len (x : Int × Bool) : (oR x).length = 2 := rfl
def or0 : Int × Bool := (0, false)
theorem gtOr {l : List (Int × Bool)} {i : Nat} (h : i < l.length) : l[i]? = some (l.getD i or0) := by rw [List.getD, List.getElem?_eq_getElem h]; rfl
theorem valAt_lt {r : Rw} {N : Nat} {w : World} (h : r.At N w) (c : Int) : (valAt r c).x < 18446744073709551616 := by
  unfold valAt
  split
  · decide
  · exact wfV_at h.hw _
theorem lessL_eq : ∀ u v : List Int, lessL u v = lessB u v
  | u, [] => by rw [lessB_nil]; cases u <;> rfl
  | [], _ :: _ => rfl
  | a :: u, b :: v => by
    show (if a ≠ b then decide (a < b) else lessL u v) = if a ≠ b then decide (a < b) else lessB u v
    rw [lessL_eq u v]
theorem rless (A : Option Addr) (n c : Nat) (o : List (Int × Bool)) (a b : Rw) (w : World) (ho : Reads w w.heap.size 2 A n (o.flatMap oR)) (lo : o.length = n) (hn : n ≤ maxLen) (ha : a.At w.heap.size w) (hb : b.At w.heap.size w) :
    Calls Try.prog 21 #[.slice A n c, a.val, b.val] w fun e w' => e = .returned (.bool (lessO o a b)) ∧ Ext w w' := by
  unfold maxLen at hn
  refine enter Try.func21 rfl (by kernel_rfl) ?_
  refine J.seq ?_
  refine J.region ?_
  -- box
  refine L.boxA (l := [_, _]) rfl rfl ?_
  intro b1 w1 hb1 hs1 hk1 he1
  -- box
  refine L.boxA (l := [_, _]) rfl rfl ?_
  intro b2 w2 hb2 hs2 hk2 he2
  have hk12 := hk1.ext he2
  have he02 := he1.trans he2
  have hk12 : Blk w2 b1 32 a.vs.toArray := hk12
  have hk2 : Blk w2 b2 32 b.vs.toArray := hk2
  refine L.va rfl (X.assign (by conv => lhs; whnf)) ?_
  refine L.nil ?_
  refine J.seq ?_
  refine J.seq ?_
  refine J.region ?_
  refine L.va rfl (X.assign (by conv => lhs; whnf)) ?_
  refine L.nil ?_
  refine J.block ?_
  -- loop
  refine J.loop (X := Nat) [6, 7, 8, 9, 11, 12, 13, 14, 15, 16, 17, 18, 19, 20, 21, 22, 23, 24, 25, 26, 27, 28, 29, 30, 31, 32, 33, 34, 35, 36, 37, 38, 39, 40, 41, 42, 43, 44, 45, 46, 47] (fun i => [(7, .int .i64 (i : Int))]) (fun i w' => i ≤ n ∧ lessO o a b = lessO (o.drop i) a b ∧ Ext w2 w') (fun i => n - i) (0) (At1 (by first | rfl | exact at_int rfl (by omega) | exact at_slice rfl (by omega) | exact at_int rfl (by simp))) ?_ ?_
  · exact ⟨Nat.zero_le _, rfl, Ext.refl _⟩
  · rintro i g w3 ⟨hi, hP, he3⟩
    have hk13 := hk12.ext he3
    have hk23 := hk2.ext he3
    have he03 := he02.trans he3
    refine J.seq ?_
    refine J.seq ?_
    refine J.region ?_
    refine L.va rfl (X.move (by conv => lhs; whnf)) ?_
    refine L.va rfl (X.move (by conv => lhs; whnf)) ?_
    refine L.va rfl (X.len rfl Try.underlying22) ?_
    refine L.va rfl (X.lss rfl rfl) ?_
    refine L.nil ?_
    -- cond
    refine J.dec rfl (fun hlt => ?_) (fun hlt => ?_)
    · have hin : i < o.length := by omega
      obtain ⟨x, hx⟩ : ∃ x, x = o.getD i or0 := ⟨_, rfl⟩
      have hgt := gtOr hin
      rw [← hx] at hgt
      have hA := ho.some_ (by omega)
      have hld := fun (w' : World) (hw : Ext w3 w') => Ld.flat2 oR_len (ho.ext (he03.trans hw)) hgt (r := 0) rfl
      have hld2 := fun (w' : World) (hw : Ext w3 w') => Ld.flat2 oR_len (ho.ext (he03.trans hw)) hgt (r := 1) rfl
      refine J.skip ?_
      refine J.seq ?_
      refine J.block ?_
      -- until
      refine J.cut (X := Nat × Nat) [8, 9, 17, 18, 19, 20, 21, 22, 23, 24, 25, 26, 27, 28, 29, 30] (fun (b8, b9) => [(8, .pointer (some ⟨b8, 0, none⟩)), (9, .pointer (some ⟨b9, 0, none⟩))]) (fun (b8, b9) w' => Blk w' b8 102 (valAt a x.1).vs.toArray ∧ Blk w' b9 102 (valAt b x.1).vs.toArray ∧ Ext w3 w') ?_ ?_
      · skip
        refine J.draw (ℓ := 1000000) (S := Ext w3) mixed (fun w4 hS hS_h => ?_)
        refine D.va 0 rfl (by kernel_rfl) (fun _ _ _ h => h) rfl (fun w' hw => (by first | exact X.loadAgg rfl (range_l (hk13.ext hw)) Try.underlying32 rfl (by kernel_rfl) | exact X.loadAgg rfl (range_blk (hk13.ext hw)) Try.underlying32 rfl (by kernel_rfl) | exact X.loadAgg rfl (range_l (hk23.ext hw)) Try.underlying32 rfl (by kernel_rfl) | exact X.loadAgg rfl (range_blk (hk23.ext hw)) Try.underlying32 rfl (by kernel_rfl))) hS ?_
        refine D.va 1 rfl (by kernel_rfl) (fun _ _ _ h => h) rfl (fun w' hw => X.move (by conv => lhs; whnf)) hS ?_
        refine D.va 2 rfl (by kernel_rfl) (fun _ _ _ h => h) rfl (fun w' hw => X.move (by conv => lhs; whnf)) hS ?_
        refine D.va 3 rfl (by kernel_rfl) (fun _ _ _ h => h) rfl (fun w' hw => (by first | exact X.indexAddrn rfl rfl Try.underlying22 sz_99 (by first | exact Option.some_ne_none _ | exact hA | exact hld w' hw) (by omega) | exact X.indexAddr rfl rfl Try.underlying22 sz_99 (by first | exact Option.some_ne_none _ | exact hA | exact hld w' hw) (by omega))) hS ?_
        refine D.va 4 rfl (by kernel_rfl) (fun _ _ _ h => h) rfl (fun w' hw => X.fieldP rfl Try.underlying99 rfl sz_3 (by decide) (by first | exact Option.some_ne_none _ | exact hA | exact hld w' hw)) hS ?_
        refine D.va 5 rfl (by kernel_rfl) (fun _ _ _ h => h) rfl (fun w' hw => X.load rfl sc_3 (by first | exact Ld.blk (hk13.ext hw) rfl | exact Ld.blk (hk23.ext hw) rfl | exact hA | exact hld w' hw)) hS ?_
        refine D.va 7 rfl (by kernel_rfl) (fun _ _ _ h => h) rfl (fun w' hw => (by first | exact X.loadAgg rfl (range_l (hk13.ext hw)) Try.underlying32 rfl (by kernel_rfl) | exact X.loadAgg rfl (range_blk (hk13.ext hw)) Try.underlying32 rfl (by kernel_rfl) | exact X.loadAgg rfl (range_l (hk23.ext hw)) Try.underlying32 rfl (by kernel_rfl) | exact X.loadAgg rfl (range_blk (hk23.ext hw)) Try.underlying32 rfl (by kernel_rfl))) hS ?_
        refine D.va 8 rfl (by kernel_rfl) (fun _ _ _ h => h) rfl (fun w' hw => X.move (by conv => lhs; whnf)) hS ?_
        refine D.va 9 rfl (by kernel_rfl) (fun _ _ _ h => h) rfl (fun w' hw => X.move (by conv => lhs; whnf)) hS ?_
        refine D.va 10 rfl (by kernel_rfl) (fun _ _ _ h => h) rfl (fun w' hw => (by first | exact X.indexAddrn rfl rfl Try.underlying22 sz_99 (by first | exact Option.some_ne_none _ | exact hA | exact hld w' hw) (by omega) | exact X.indexAddr rfl rfl Try.underlying22 sz_99 (by first | exact Option.some_ne_none _ | exact hA | exact hld w' hw) (by omega))) hS ?_
        refine D.va 11 rfl (by kernel_rfl) (fun _ _ _ h => h) rfl (fun w' hw => X.fieldP rfl Try.underlying99 rfl sz_3 (by decide) (by first | exact Option.some_ne_none _ | exact hA | exact hld w' hw)) hS ?_
        refine D.va 12 rfl (by kernel_rfl) (fun _ _ _ h => h) rfl (fun w' hw => X.load rfl sc_3 (by first | exact Ld.blk (hk13.ext hw) rfl | exact Ld.blk (hk23.ext hw) rfl | exact hA | exact hld w' hw)) hS ?_
        -- many [6, 14, 15]
        refine D.three 6 14 15 (by kernel_rfl) rfl rfl rfl ?_ ?_ ?_
        · refine L.call rfl en_77 rfl (rval a x.1 _ ((ha.ext (he03.trans (hS))).more (he03.trans (hS)).le)) ?_
          rintro e wa ⟨rfl, hea⟩
          refine ⟨_, rfl, ?_⟩
          have hS1 := (hS).trans hea
          refine L.nil ?_
          refine ⟨fun _ => hS1, ?_⟩
          try replace hk8 := hk8.ext hea
          try replace hk9 := hk9.ext hea
          refine D.three 13 14 15 (by kernel_rfl) rfl rfl rfl ?_ ?_ ?_
          · refine L.call rfl en_77 rfl (rval b x.1 _ ((hb.ext (he03.trans (hS1))).more (he03.trans (hS1)).le)) ?_
            rintro e wb ⟨rfl, heb⟩
            refine ⟨_, rfl, ?_⟩
            have hS2 := (hS1).trans heb
            refine L.nil ?_
            refine ⟨fun _ => hS2, ?_⟩
            try replace hk8 := hk8.ext heb
            try replace hk9 := hk9.ext heb
            refine D.two 14 15 (by kernel_rfl) rfl rfl ?_ ?_
            · have q8 := (hS2).le
              refine L.alloc rfl zr_102 ?_
              intro b8 wc hb8 hs8 hk8 he8
              have hS3 := (hS2).trans he8
              refine L.nil ?_
              refine ⟨fun _ => hS3, ?_⟩
              try have hne : b8 ≠ b9 := by have := hk9.lt; omega
              try replace hk9 := hk9.ext he8
              have q9 := (hS3).le
              refine D.one 15 (by kernel_rfl) rfl ?_
              refine L.alloc rfl zr_102 ?_
              intro b9 wd hb9 hs9 hk9 he9
              have hS4 := (hS3).trans he9
              refine L.nil ?_
              refine ⟨fun _ => hS4, ?_⟩
              try have hne : b8 ≠ b9 := by have := hk8.lt; omega
              try replace hk8 := hk8.ext he9
              refine D.one 16 (by kernel_rfl) rfl ?_
              refine L.storeAgg (vs := [_, _, _]) rfl rfl rfl rfl sz_102 (hk8) rfl ?_
              intro we hk8' hg8 hs8'
              have hS5 := (hS4).grw hg8 (by intro g hg; injection hg with hg; omega)
              refine L.nil ?_
              refine ⟨fun _ => hS5, ?_⟩
              try replace hk9 := hk9.grown hg8 (by intro h; injection h with h; omega)
              refine D.one 17 (by kernel_rfl) rfl ?_
              refine L.storeAgg (vs := [_, _, _]) rfl rfl rfl rfl sz_102 (hk9) rfl ?_
              intro wf hk9' hg9 hs9'
              have hS6 := (hS5).grw hg9 (by intro g hg; injection hg with hg; omega)
              refine L.nil ?_
              refine ⟨fun _ => hS6, ?_⟩
              try replace hk8' := hk8'.grown hg9 (by intro h; injection h with h; omega)
              refine D.done (by kernel_rfl) ?_
              replace hk13 := hk13.ext hS6
              replace hk23 := hk23.ext hS6
              refine ⟨(b8, b9), At2 (by first | rfl | exact at_int rfl (by omega) | exact at_slice rfl (by omega) | exact at_int rfl (by simp)) (by first | rfl | exact at_int rfl (by omega) | exact at_slice rfl (by omega) | exact at_int rfl (by simp)), (by (iterate 16 refine Agr.lk rfl ?_); exact Agr.rfl'), ?_⟩
              exact ⟨hk8', hk9', hS6⟩
            · have q9 := (hS2).le
              refine L.alloc rfl zr_102 ?_
              intro b9 wd hb9 hs9 hk9 he9
              have hS3 := (hS2).trans he9
              refine L.nil ?_
              refine ⟨fun _ => hS3, ?_⟩
              try have hne : b8 ≠ b9 := by have := hk8.lt; omega
              try replace hk8 := hk8.ext he9
              have q8 := (hS3).le
              refine D.one 14 (by kernel_rfl) rfl ?_
              refine L.alloc rfl zr_102 ?_
              intro b8 wc hb8 hs8 hk8 he8
              have hS4 := (hS3).trans he8
              refine L.nil ?_
              refine ⟨fun _ => hS4, ?_⟩
              try have hne : b8 ≠ b9 := by have := hk9.lt; omega
              try replace hk9 := hk9.ext he8
              refine D.one 16 (by kernel_rfl) rfl ?_
              refine L.storeAgg (vs := [_, _, _]) rfl rfl rfl rfl sz_102 (hk8) rfl ?_
              intro we hk8' hg8 hs8'
              have hS5 := (hS4).grw hg8 (by intro g hg; injection hg with hg; omega)
              refine L.nil ?_
              refine ⟨fun _ => hS5, ?_⟩
              try replace hk9 := hk9.grown hg8 (by intro h; injection h with h; omega)
              refine D.one 17 (by kernel_rfl) rfl ?_
              refine L.storeAgg (vs := [_, _, _]) rfl rfl rfl rfl sz_102 (hk9) rfl ?_
              intro wf hk9' hg9 hs9'
              have hS6 := (hS5).grw hg9 (by intro g hg; injection hg with hg; omega)
              refine L.nil ?_
              refine ⟨fun _ => hS6, ?_⟩
              try replace hk8' := hk8'.grown hg9 (by intro h; injection h with h; omega)
              refine D.done (by kernel_rfl) ?_
              replace hk13 := hk13.ext hS6
              replace hk23 := hk23.ext hS6
              refine ⟨(b8, b9), At2 (by first | rfl | exact at_int rfl (by omega) | exact at_slice rfl (by omega) | exact at_int rfl (by simp)) (by first | rfl | exact at_int rfl (by omega) | exact at_slice rfl (by omega) | exact at_int rfl (by simp)), (by (iterate 16 refine Agr.lk rfl ?_); exact Agr.rfl'), ?_⟩
              exact ⟨hk8', hk9', hS6⟩
          · have q8 := (hS1).le
            refine L.alloc rfl zr_102 ?_
            intro b8 wc hb8 hs8 hk8 he8
            have hS2 := (hS1).trans he8
            refine L.nil ?_
            refine ⟨fun _ => hS2, ?_⟩
            try have hne : b8 ≠ b9 := by have := hk9.lt; omega
            try replace hk9 := hk9.ext he8
            refine D.two 13 15 (by kernel_rfl) rfl rfl ?_ ?_
            · refine L.call rfl en_77 rfl (rval b x.1 _ ((hb.ext (he03.trans (hS2))).more (he03.trans (hS2)).le)) ?_
              rintro e wb ⟨rfl, heb⟩
              refine ⟨_, rfl, ?_⟩
              have hS3 := (hS2).trans heb
              refine L.nil ?_
              refine ⟨fun _ => hS3, ?_⟩
              try replace hk8 := hk8.ext heb
              try replace hk9 := hk9.ext heb
              have q9 := (hS3).le
              refine D.one 15 (by kernel_rfl) rfl ?_
              refine L.alloc rfl zr_102 ?_
              intro b9 wd hb9 hs9 hk9 he9
              have hS4 := (hS3).trans he9
              refine L.nil ?_
              refine ⟨fun _ => hS4, ?_⟩
              try have hne : b8 ≠ b9 := by have := hk8.lt; omega
              try replace hk8 := hk8.ext he9
              refine D.one 16 (by kernel_rfl) rfl ?_
              refine L.storeAgg (vs := [_, _, _]) rfl rfl rfl rfl sz_102 (hk8) rfl ?_
              intro we hk8' hg8 hs8'
              have hS5 := (hS4).grw hg8 (by intro g hg; injection hg with hg; omega)
              refine L.nil ?_
              refine ⟨fun _ => hS5, ?_⟩
              try replace hk9 := hk9.grown hg8 (by intro h; injection h with h; omega)
              refine D.one 17 (by kernel_rfl) rfl ?_
              refine L.storeAgg (vs := [_, _, _]) rfl rfl rfl rfl sz_102 (hk9) rfl ?_
              intro wf hk9' hg9 hs9'
              have hS6 := (hS5).grw hg9 (by intro g hg; injection hg with hg; omega)
              refine L.nil ?_
              refine ⟨fun _ => hS6, ?_⟩
              try replace hk8' := hk8'.grown hg9 (by intro h; injection h with h; omega)
              refine D.done (by kernel_rfl) ?_
              replace hk13 := hk13.ext hS6
              replace hk23 := hk23.ext hS6
              refine ⟨(b8, b9), At2 (by first | rfl | exact at_int rfl (by omega) | exact at_slice rfl (by omega) | exact at_int rfl (by simp)) (by first | rfl | exact at_int rfl (by omega) | exact at_slice rfl (by omega) | exact at_int rfl (by simp)), (by (iterate 16 refine Agr.lk rfl ?_); exact Agr.rfl'), ?_⟩
              exact ⟨hk8', hk9', hS6⟩
            · have q9 := (hS2).le
              refine L.alloc rfl zr_102 ?_
              intro b9 wd hb9 hs9 hk9 he9
              have hS3 := (hS2).trans he9
              refine L.nil ?_
              refine ⟨fun _ => hS3, ?_⟩
              try have hne : b8 ≠ b9 := by have := hk8.lt; omega
              try replace hk8 := hk8.ext he9
              refine D.one 13 (by kernel_rfl) rfl ?_
              refine L.call rfl en_77 rfl (rval b x.1 _ ((hb.ext (he03.trans (hS3))).more (he03.trans (hS3)).le)) ?_
              rintro e wb ⟨rfl, heb⟩
              refine ⟨_, rfl, ?_⟩
              have hS4 := (hS3).trans heb
              refine L.nil ?_
              refine ⟨fun _ => hS4, ?_⟩
              try replace hk8 := hk8.ext heb
              try replace hk9 := hk9.ext heb
              refine D.one 16 (by kernel_rfl) rfl ?_
              refine L.storeAgg (vs := [_, _, _]) rfl rfl rfl rfl sz_102 (hk8) rfl ?_
              intro we hk8' hg8 hs8'
              have hS5 := (hS4).grw hg8 (by intro g hg; injection hg with hg; omega)
              refine L.nil ?_
              refine ⟨fun _ => hS5, ?_⟩
              try replace hk9 := hk9.grown hg8 (by intro h; injection h with h; omega)
              refine D.one 17 (by kernel_rfl) rfl ?_
              refine L.storeAgg (vs := [_, _, _]) rfl rfl rfl rfl sz_102 (hk9) rfl ?_
              intro wf hk9' hg9 hs9'
              have hS6 := (hS5).grw hg9 (by intro g hg; injection hg with hg; omega)
              refine L.nil ?_
              refine ⟨fun _ => hS6, ?_⟩
              try replace hk8' := hk8'.grown hg9 (by intro h; injection h with h; omega)
              refine D.done (by kernel_rfl) ?_
              replace hk13 := hk13.ext hS6
              replace hk23 := hk23.ext hS6
              refine ⟨(b8, b9), At2 (by first | rfl | exact at_int rfl (by omega) | exact at_slice rfl (by omega) | exact at_int rfl (by simp)) (by first | rfl | exact at_int rfl (by omega) | exact at_slice rfl (by omega) | exact at_int rfl (by simp)), (by (iterate 16 refine Agr.lk rfl ?_); exact Agr.rfl'), ?_⟩
              exact ⟨hk8', hk9', hS6⟩
          · have q9 := (hS1).le
            refine L.alloc rfl zr_102 ?_
            intro b9 wd hb9 hs9 hk9 he9
            have hS2 := (hS1).trans he9
            refine L.nil ?_
            refine ⟨fun _ => hS2, ?_⟩
            try have hne : b8 ≠ b9 := by have := hk8.lt; omega
            try replace hk8 := hk8.ext he9
            refine D.two 13 14 (by kernel_rfl) rfl rfl ?_ ?_
            · refine L.call rfl en_77 rfl (rval b x.1 _ ((hb.ext (he03.trans (hS2))).more (he03.trans (hS2)).le)) ?_
              rintro e wb ⟨rfl, heb⟩
              refine ⟨_, rfl, ?_⟩
              have hS3 := (hS2).trans heb
              refine L.nil ?_
              refine ⟨fun _ => hS3, ?_⟩
              try replace hk8 := hk8.ext heb
              try replace hk9 := hk9.ext heb
              have q8 := (hS3).le
              refine D.one 14 (by kernel_rfl) rfl ?_
              refine L.alloc rfl zr_102 ?_
              intro b8 wc hb8 hs8 hk8 he8
              have hS4 := (hS3).trans he8
              refine L.nil ?_
              refine ⟨fun _ => hS4, ?_⟩
              try have hne : b8 ≠ b9 := by have := hk9.lt; omega
              try replace hk9 := hk9.ext he8
              refine D.one 16 (by kernel_rfl) rfl ?_
              refine L.storeAgg (vs := [_, _, _]) rfl rfl rfl rfl sz_102 (hk8) rfl ?_
              intro we hk8' hg8 hs8'
              have hS5 := (hS4).grw hg8 (by intro g hg; injection hg with hg; omega)
              refine L.nil ?_
              refine ⟨fun _ => hS5, ?_⟩
              try replace hk9 := hk9.grown hg8 (by intro h; injection h with h; omega)
              refine D.one 17 (by kernel_rfl) rfl ?_
              refine L.storeAgg (vs := [_, _, _]) rfl rfl rfl rfl sz_102 (hk9) rfl ?_
              intro wf hk9' hg9 hs9'
              have hS6 := (hS5).grw hg9 (by intro g hg; injection hg with hg; omega)
              refine L.nil ?_
              refine ⟨fun _ => hS6, ?_⟩
              try replace hk8' := hk8'.grown hg9 (by intro h; injection h with h; omega)
              refine D.done (by kernel_rfl) ?_
              replace hk13 := hk13.ext hS6
              replace hk23 := hk23.ext hS6
              refine ⟨(b8, b9), At2 (by first | rfl | exact at_int rfl (by omega) | exact at_slice rfl (by omega) | exact at_int rfl (by simp)) (by first | rfl | exact at_int rfl (by omega) | exact at_slice rfl (by omega) | exact at_int rfl (by simp)), (by (iterate 16 refine Agr.lk rfl ?_); exact Agr.rfl'), ?_⟩
              exact ⟨hk8', hk9', hS6⟩
            · have q8 := (hS2).le
              refine L.alloc rfl zr_102 ?_
              intro b8 wc hb8 hs8 hk8 he8
              have hS3 := (hS2).trans he8
              refine L.nil ?_
              refine ⟨fun _ => hS3, ?_⟩
              try have hne : b8 ≠ b9 := by have := hk9.lt; omega
              try replace hk9 := hk9.ext he8
              refine D.one 13 (by kernel_rfl) rfl ?_
              refine L.call rfl en_77 rfl (rval b x.1 _ ((hb.ext (he03.trans (hS3))).more (he03.trans (hS3)).le)) ?_
              rintro e wb ⟨rfl, heb⟩
              refine ⟨_, rfl, ?_⟩
              have hS4 := (hS3).trans heb
              refine L.nil ?_
              refine ⟨fun _ => hS4, ?_⟩
              try replace hk8 := hk8.ext heb
              try replace hk9 := hk9.ext heb
              refine D.one 16 (by kernel_rfl) rfl ?_
              refine L.storeAgg (vs := [_, _, _]) rfl rfl rfl rfl sz_102 (hk8) rfl ?_
              intro we hk8' hg8 hs8'
              have hS5 := (hS4).grw hg8 (by intro g hg; injection hg with hg; omega)
              refine L.nil ?_
              refine ⟨fun _ => hS5, ?_⟩
              try replace hk9 := hk9.grown hg8 (by intro h; injection h with h; omega)
              refine D.one 17 (by kernel_rfl) rfl ?_
              refine L.storeAgg (vs := [_, _, _]) rfl rfl rfl rfl sz_102 (hk9) rfl ?_
              intro wf hk9' hg9 hs9'
              have hS6 := (hS5).grw hg9 (by intro g hg; injection hg with hg; omega)
              refine L.nil ?_
              refine ⟨fun _ => hS6, ?_⟩
              try replace hk8' := hk8'.grown hg9 (by intro h; injection h with h; omega)
              refine D.done (by kernel_rfl) ?_
              replace hk13 := hk13.ext hS6
              replace hk23 := hk23.ext hS6
              refine ⟨(b8, b9), At2 (by first | rfl | exact at_int rfl (by omega) | exact at_slice rfl (by omega) | exact at_int rfl (by simp)) (by first | rfl | exact at_int rfl (by omega) | exact at_slice rfl (by omega) | exact at_int rfl (by simp)), (by (iterate 16 refine Agr.lk rfl ?_); exact Agr.rfl'), ?_⟩
              exact ⟨hk8', hk9', hS6⟩
        · have q8 := (hS).le
          refine L.alloc rfl zr_102 ?_
          intro b8 wc hb8 hs8 hk8 he8
          have hS1 := (hS).trans he8
          refine L.nil ?_
          refine ⟨fun _ => hS1, ?_⟩
          try have hne : b8 ≠ b9 := by have := hk9.lt; omega
          try replace hk9 := hk9.ext he8
          refine D.two 6 15 (by kernel_rfl) rfl rfl ?_ ?_
          · refine L.call rfl en_77 rfl (rval a x.1 _ ((ha.ext (he03.trans (hS1))).more (he03.trans (hS1)).le)) ?_
            rintro e wa ⟨rfl, hea⟩
            refine ⟨_, rfl, ?_⟩
            have hS2 := (hS1).trans hea
            refine L.nil ?_
            refine ⟨fun _ => hS2, ?_⟩
            try replace hk8 := hk8.ext hea
            try replace hk9 := hk9.ext hea
            refine D.two 13 15 (by kernel_rfl) rfl rfl ?_ ?_
            · refine L.call rfl en_77 rfl (rval b x.1 _ ((hb.ext (he03.trans (hS2))).more (he03.trans (hS2)).le)) ?_
              rintro e wb ⟨rfl, heb⟩
              refine ⟨_, rfl, ?_⟩
              have hS3 := (hS2).trans heb
              refine L.nil ?_
              refine ⟨fun _ => hS3, ?_⟩
              try replace hk8 := hk8.ext heb
              try replace hk9 := hk9.ext heb
              have q9 := (hS3).le
              refine D.one 15 (by kernel_rfl) rfl ?_
              refine L.alloc rfl zr_102 ?_
              intro b9 wd hb9 hs9 hk9 he9
              have hS4 := (hS3).trans he9
              refine L.nil ?_
              refine ⟨fun _ => hS4, ?_⟩
              try have hne : b8 ≠ b9 := by have := hk8.lt; omega
              try replace hk8 := hk8.ext he9
              refine D.one 16 (by kernel_rfl) rfl ?_
              refine L.storeAgg (vs := [_, _, _]) rfl rfl rfl rfl sz_102 (hk8) rfl ?_
              intro we hk8' hg8 hs8'
              have hS5 := (hS4).grw hg8 (by intro g hg; injection hg with hg; omega)
              refine L.nil ?_
              refine ⟨fun _ => hS5, ?_⟩
              try replace hk9 := hk9.grown hg8 (by intro h; injection h with h; omega)
              refine D.one 17 (by kernel_rfl) rfl ?_
              refine L.storeAgg (vs := [_, _, _]) rfl rfl rfl rfl sz_102 (hk9) rfl ?_
              intro wf hk9' hg9 hs9'
              have hS6 := (hS5).grw hg9 (by intro g hg; injection hg with hg; omega)
              refine L.nil ?_
              refine ⟨fun _ => hS6, ?_⟩
              try replace hk8' := hk8'.grown hg9 (by intro h; injection h with h; omega)
              refine D.done (by kernel_rfl) ?_
              replace hk13 := hk13.ext hS6
              replace hk23 := hk23.ext hS6
              refine ⟨(b8, b9), At2 (by first | rfl | exact at_int rfl (by omega) | exact at_slice rfl (by omega) | exact at_int rfl (by simp)) (by first | rfl | exact at_int rfl (by omega) | exact at_slice rfl (by omega) | exact at_int rfl (by simp)), (by (iterate 16 refine Agr.lk rfl ?_); exact Agr.rfl'), ?_⟩
              exact ⟨hk8', hk9', hS6⟩
            · have q9 := (hS2).le
              refine L.alloc rfl zr_102 ?_
              intro b9 wd hb9 hs9 hk9 he9
              have hS3 := (hS2).trans he9
              refine L.nil ?_
              refine ⟨fun _ => hS3, ?_⟩
              try have hne : b8 ≠ b9 := by have := hk8.lt; omega
              try replace hk8 := hk8.ext he9
              refine D.one 13 (by kernel_rfl) rfl ?_
              refine L.call rfl en_77 rfl (rval b x.1 _ ((hb.ext (he03.trans (hS3))).more (he03.trans (hS3)).le)) ?_
              rintro e wb ⟨rfl, heb⟩
              refine ⟨_, rfl, ?_⟩
              have hS4 := (hS3).trans heb
              refine L.nil ?_
              refine ⟨fun _ => hS4, ?_⟩
              try replace hk8 := hk8.ext heb
              try replace hk9 := hk9.ext heb
              refine D.one 16 (by kernel_rfl) rfl ?_
              refine L.storeAgg (vs := [_, _, _]) rfl rfl rfl rfl sz_102 (hk8) rfl ?_
              intro we hk8' hg8 hs8'
              have hS5 := (hS4).grw hg8 (by intro g hg; injection hg with hg; omega)
              refine L.nil ?_
              refine ⟨fun _ => hS5, ?_⟩
              try replace hk9 := hk9.grown hg8 (by intro h; injection h with h; omega)
              refine D.one 17 (by kernel_rfl) rfl ?_
              refine L.storeAgg (vs := [_, _, _]) rfl rfl rfl rfl sz_102 (hk9) rfl ?_
              intro wf hk9' hg9 hs9'
              have hS6 := (hS5).grw hg9 (by intro g hg; injection hg with hg; omega)
              refine L.nil ?_
              refine ⟨fun _ => hS6, ?_⟩
              try replace hk8' := hk8'.grown hg9 (by intro h; injection h with h; omega)
              refine D.done (by kernel_rfl) ?_
              replace hk13 := hk13.ext hS6
              replace hk23 := hk23.ext hS6
              refine ⟨(b8, b9), At2 (by first | rfl | exact at_int rfl (by omega) | exact at_slice rfl (by omega) | exact at_int rfl (by simp)) (by first | rfl | exact at_int rfl (by omega) | exact at_slice rfl (by omega) | exact at_int rfl (by simp)), (by (iterate 16 refine Agr.lk rfl ?_); exact Agr.rfl'), ?_⟩
              exact ⟨hk8', hk9', hS6⟩
          · have q9 := (hS1).le
            refine L.alloc rfl zr_102 ?_
            intro b9 wd hb9 hs9 hk9 he9
            have hS2 := (hS1).trans he9
            refine L.nil ?_
            refine ⟨fun _ => hS2, ?_⟩
            try have hne : b8 ≠ b9 := by have := hk8.lt; omega
            try replace hk8 := hk8.ext he9
            refine D.one 6 (by kernel_rfl) rfl ?_
            refine L.call rfl en_77 rfl (rval a x.1 _ ((ha.ext (he03.trans (hS2))).more (he03.trans (hS2)).le)) ?_
            rintro e wa ⟨rfl, hea⟩
            refine ⟨_, rfl, ?_⟩
            have hS3 := (hS2).trans hea
            refine L.nil ?_
            refine ⟨fun _ => hS3, ?_⟩
            try replace hk8 := hk8.ext hea
            try replace hk9 := hk9.ext hea
            refine D.one 13 (by kernel_rfl) rfl ?_
            refine L.call rfl en_77 rfl (rval b x.1 _ ((hb.ext (he03.trans (hS3))).more (he03.trans (hS3)).le)) ?_
            rintro e wb ⟨rfl, heb⟩
            refine ⟨_, rfl, ?_⟩
            have hS4 := (hS3).trans heb
            refine L.nil ?_
            refine ⟨fun _ => hS4, ?_⟩
            try replace hk8 := hk8.ext heb
            try replace hk9 := hk9.ext heb
            refine D.one 16 (by kernel_rfl) rfl ?_
            refine L.storeAgg (vs := [_, _, _]) rfl rfl rfl rfl sz_102 (hk8) rfl ?_
            intro we hk8' hg8 hs8'
            have hS5 := (hS4).grw hg8 (by intro g hg; injection hg with hg; omega)
            refine L.nil ?_
            refine ⟨fun _ => hS5, ?_⟩
            try replace hk9 := hk9.grown hg8 (by intro h; injection h with h; omega)
            refine D.one 17 (by kernel_rfl) rfl ?_
            refine L.storeAgg (vs := [_, _, _]) rfl rfl rfl rfl sz_102 (hk9) rfl ?_
            intro wf hk9' hg9 hs9'
            have hS6 := (hS5).grw hg9 (by intro g hg; injection hg with hg; omega)
            refine L.nil ?_
            refine ⟨fun _ => hS6, ?_⟩
            try replace hk8' := hk8'.grown hg9 (by intro h; injection h with h; omega)
            refine D.done (by kernel_rfl) ?_
            replace hk13 := hk13.ext hS6
            replace hk23 := hk23.ext hS6
            refine ⟨(b8, b9), At2 (by first | rfl | exact at_int rfl (by omega) | exact at_slice rfl (by omega) | exact at_int rfl (by simp)) (by first | rfl | exact at_int rfl (by omega) | exact at_slice rfl (by omega) | exact at_int rfl (by simp)), (by (iterate 16 refine Agr.lk rfl ?_); exact Agr.rfl'), ?_⟩
            exact ⟨hk8', hk9', hS6⟩
        · have q9 := (hS).le
          refine L.alloc rfl zr_102 ?_
          intro b9 wd hb9 hs9 hk9 he9
          have hS1 := (hS).trans he9
          refine L.nil ?_
          refine ⟨fun _ => hS1, ?_⟩
          try have hne : b8 ≠ b9 := by have := hk8.lt; omega
          try replace hk8 := hk8.ext he9
          refine D.two 6 14 (by kernel_rfl) rfl rfl ?_ ?_
          · refine L.call rfl en_77 rfl (rval a x.1 _ ((ha.ext (he03.trans (hS1))).more (he03.trans (hS1)).le)) ?_
            rintro e wa ⟨rfl, hea⟩
            refine ⟨_, rfl, ?_⟩
            have hS2 := (hS1).trans hea
            refine L.nil ?_
            refine ⟨fun _ => hS2, ?_⟩
            try replace hk8 := hk8.ext hea
            try replace hk9 := hk9.ext hea
            refine D.two 13 14 (by kernel_rfl) rfl rfl ?_ ?_
            · refine L.call rfl en_77 rfl (rval b x.1 _ ((hb.ext (he03.trans (hS2))).more (he03.trans (hS2)).le)) ?_
              rintro e wb ⟨rfl, heb⟩
              refine ⟨_, rfl, ?_⟩
              have hS3 := (hS2).trans heb
              refine L.nil ?_
              refine ⟨fun _ => hS3, ?_⟩
              try replace hk8 := hk8.ext heb
              try replace hk9 := hk9.ext heb
              have q8 := (hS3).le
              refine D.one 14 (by kernel_rfl) rfl ?_
              refine L.alloc rfl zr_102 ?_
              intro b8 wc hb8 hs8 hk8 he8
              have hS4 := (hS3).trans he8
              refine L.nil ?_
              refine ⟨fun _ => hS4, ?_⟩
              try have hne : b8 ≠ b9 := by have := hk9.lt; omega
              try replace hk9 := hk9.ext he8
              refine D.one 16 (by kernel_rfl) rfl ?_
              refine L.storeAgg (vs := [_, _, _]) rfl rfl rfl rfl sz_102 (hk8) rfl ?_
              intro we hk8' hg8 hs8'
              have hS5 := (hS4).grw hg8 (by intro g hg; injection hg with hg; omega)
              refine L.nil ?_
              refine ⟨fun _ => hS5, ?_⟩
              try replace hk9 := hk9.grown hg8 (by intro h; injection h with h; omega)
              refine D.one 17 (by kernel_rfl) rfl ?_
              refine L.storeAgg (vs := [_, _, _]) rfl rfl rfl rfl sz_102 (hk9) rfl ?_
              intro wf hk9' hg9 hs9'
              have hS6 := (hS5).grw hg9 (by intro g hg; injection hg with hg; omega)
              refine L.nil ?_
              refine ⟨fun _ => hS6, ?_⟩
              try replace hk8' := hk8'.grown hg9 (by intro h; injection h with h; omega)
              refine D.done (by kernel_rfl) ?_
              replace hk13 := hk13.ext hS6
              replace hk23 := hk23.ext hS6
              refine ⟨(b8, b9), At2 (by first | rfl | exact at_int rfl (by omega) | exact at_slice rfl (by omega) | exact at_int rfl (by simp)) (by first | rfl | exact at_int rfl (by omega) | exact at_slice rfl (by omega) | exact at_int rfl (by simp)), (by (iterate 16 refine Agr.lk rfl ?_); exact Agr.rfl'), ?_⟩
              exact ⟨hk8', hk9', hS6⟩
            · have q8 := (hS2).le
              refine L.alloc rfl zr_102 ?_
              intro b8 wc hb8 hs8 hk8 he8
              have hS3 := (hS2).trans he8
              refine L.nil ?_
              refine ⟨fun _ => hS3, ?_⟩
              try have hne : b8 ≠ b9 := by have := hk9.lt; omega
              try replace hk9 := hk9.ext he8
              refine D.one 13 (by kernel_rfl) rfl ?_
              refine L.call rfl en_77 rfl (rval b x.1 _ ((hb.ext (he03.trans (hS3))).more (he03.trans (hS3)).le)) ?_
              rintro e wb ⟨rfl, heb⟩
              refine ⟨_, rfl, ?_⟩
              have hS4 := (hS3).trans heb
              refine L.nil ?_
              refine ⟨fun _ => hS4, ?_⟩
              try replace hk8 := hk8.ext heb
              try replace hk9 := hk9.ext heb
              refine D.one 16 (by kernel_rfl) rfl ?_
              refine L.storeAgg (vs := [_, _, _]) rfl rfl rfl rfl sz_102 (hk8) rfl ?_
              intro we hk8' hg8 hs8'
              have hS5 := (hS4).grw hg8 (by intro g hg; injection hg with hg; omega)
              refine L.nil ?_
              refine ⟨fun _ => hS5, ?_⟩
              try replace hk9 := hk9.grown hg8 (by intro h; injection h with h; omega)
              refine D.one 17 (by kernel_rfl) rfl ?_
              refine L.storeAgg (vs := [_, _, _]) rfl rfl rfl rfl sz_102 (hk9) rfl ?_
              intro wf hk9' hg9 hs9'
              have hS6 := (hS5).grw hg9 (by intro g hg; injection hg with hg; omega)
              refine L.nil ?_
              refine ⟨fun _ => hS6, ?_⟩
              try replace hk8' := hk8'.grown hg9 (by intro h; injection h with h; omega)
              refine D.done (by kernel_rfl) ?_
              replace hk13 := hk13.ext hS6
              replace hk23 := hk23.ext hS6
              refine ⟨(b8, b9), At2 (by first | rfl | exact at_int rfl (by omega) | exact at_slice rfl (by omega) | exact at_int rfl (by simp)) (by first | rfl | exact at_int rfl (by omega) | exact at_slice rfl (by omega) | exact at_int rfl (by simp)), (by (iterate 16 refine Agr.lk rfl ?_); exact Agr.rfl'), ?_⟩
              exact ⟨hk8', hk9', hS6⟩
          · have q8 := (hS1).le
            refine L.alloc rfl zr_102 ?_
            intro b8 wc hb8 hs8 hk8 he8
            have hS2 := (hS1).trans he8
            refine L.nil ?_
            refine ⟨fun _ => hS2, ?_⟩
            try have hne : b8 ≠ b9 := by have := hk9.lt; omega
            try replace hk9 := hk9.ext he8
            refine D.one 6 (by kernel_rfl) rfl ?_
            refine L.call rfl en_77 rfl (rval a x.1 _ ((ha.ext (he03.trans (hS2))).more (he03.trans (hS2)).le)) ?_
            rintro e wa ⟨rfl, hea⟩
            refine ⟨_, rfl, ?_⟩
            have hS3 := (hS2).trans hea
            refine L.nil ?_
            refine ⟨fun _ => hS3, ?_⟩
            try replace hk8 := hk8.ext hea
            try replace hk9 := hk9.ext hea
            refine D.one 13 (by kernel_rfl) rfl ?_
            refine L.call rfl en_77 rfl (rval b x.1 _ ((hb.ext (he03.trans (hS3))).more (he03.trans (hS3)).le)) ?_
            rintro e wb ⟨rfl, heb⟩
            refine ⟨_, rfl, ?_⟩
            have hS4 := (hS3).trans heb
            refine L.nil ?_
            refine ⟨fun _ => hS4, ?_⟩
            try replace hk8 := hk8.ext heb
            try replace hk9 := hk9.ext heb
            refine D.one 16 (by kernel_rfl) rfl ?_
            refine L.storeAgg (vs := [_, _, _]) rfl rfl rfl rfl sz_102 (hk8) rfl ?_
            intro we hk8' hg8 hs8'
            have hS5 := (hS4).grw hg8 (by intro g hg; injection hg with hg; omega)
            refine L.nil ?_
            refine ⟨fun _ => hS5, ?_⟩
            try replace hk9 := hk9.grown hg8 (by intro h; injection h with h; omega)
            refine D.one 17 (by kernel_rfl) rfl ?_
            refine L.storeAgg (vs := [_, _, _]) rfl rfl rfl rfl sz_102 (hk9) rfl ?_
            intro wf hk9' hg9 hs9'
            have hS6 := (hS5).grw hg9 (by intro g hg; injection hg with hg; omega)
            refine L.nil ?_
            refine ⟨fun _ => hS6, ?_⟩
            try replace hk8' := hk8'.grown hg9 (by intro h; injection h with h; omega)
            refine D.done (by kernel_rfl) ?_
            replace hk13 := hk13.ext hS6
            replace hk23 := hk23.ext hS6
            refine ⟨(b8, b9), At2 (by first | rfl | exact at_int rfl (by omega) | exact at_slice rfl (by omega) | exact at_int rfl (by simp)) (by first | rfl | exact at_int rfl (by omega) | exact at_slice rfl (by omega) | exact at_int rfl (by simp)), (by (iterate 16 refine Agr.lk rfl ?_); exact Agr.rfl'), ?_⟩
            exact ⟨hk8', hk9', hS6⟩
      · rintro ⟨b8, b9⟩ g w4 ⟨hk8, hk9, he4⟩
        have he34 := he3.trans he4
        have hst : lessO (o.drop i) a b = if aheadV (valAt a x.1) (valAt b x.1) = true ∨ aheadV (valAt b x.1) (valAt a x.1) = true then (aheadV (valAt a x.1) (valAt b x.1) != x.2) else lessO (o.drop (i + 1)) a b := by
          rw [List.drop_eq_getElem_cons hin, show o[i] = x by rw [hx, List.getD, List.getElem?_eq_getElem hin]; rfl]; rfl
        rw [hst] at hP
        have xa := valAt_lt ha x.1
        have xb := valAt_lt hb x.1
        obtain ⟨va, hva⟩ : ∃ va, va = valAt a x.1 := ⟨_, rfl⟩
        obtain ⟨vb, hvb⟩ : ∃ vb, vb = valAt b x.1 := ⟨_, rfl⟩
        rw [← hva] at hk8 hP xa
        rw [← hvb] at hk9 hP xb
        refine J.seq ?_
        refine J.region ?_
        refine L.va rfl ((by first | exact X.loadAgg rfl (range_l hk8) Try.underlying102 rfl (by kernel_rfl) | exact X.loadAgg rfl (range_blk hk8) Try.underlying102 rfl (by kernel_rfl) | exact X.loadAgg rfl (range_l hk9) Try.underlying102 rfl (by kernel_rfl) | exact X.loadAgg rfl (range_blk hk9) Try.underlying102 rfl (by kernel_rfl))) ?_
        refine L.va rfl ((by first | exact X.loadAgg rfl (range_l hk8) Try.underlying102 rfl (by kernel_rfl) | exact X.loadAgg rfl (range_blk hk8) Try.underlying102 rfl (by kernel_rfl) | exact X.loadAgg rfl (range_l hk9) Try.underlying102 rfl (by kernel_rfl) | exact X.loadAgg rfl (range_blk hk9) Try.underlying102 rfl (by kernel_rfl))) ?_
        -- callfn bushel/bushelref33.ahead
        refine L.call rfl en_78 rfl (ahead33 va vb w4 xa xb) ?_
        rintro e w5 ⟨rfl, he5⟩
        refine ⟨_, rfl, ?_⟩
        have hk85 := hk8.ext he5
        have hk95 := hk9.ext he5
        refine L.va rfl (X.move (by conv => lhs; whnf)) ?_
        -- case t34
        by_cases q1 : aheadV va vb = true
        · have k1 := fun (w : World) => ahead33 va vb w xa xb
          rw [q1] at hP k1 ⊢
          rw [if_pos (.inl rfl)] at hP
          rw [hP]
          have hl2 := fun (w' : World) (hw : Ext w5 w') => hld2 w' ((he4.trans he5).trans hw)
          refine L.caseBT (k := 34) rfl (by rfl) ?_
          refine L.no rfl ?_
          refine L.no rfl ?_
          refine L.no rfl ?_
          refine L.va rfl (X.pickT rfl (by conv => lhs; whnf)) ?_
          refine L.nil ?_
          -- cond
          refine J.iteT rfl ?_
          refine J.seq ?_
          -- draw
          refine J.quiet mixed (by kernel_rfl) ?_
          refine Qt.va rfl (fun w' hw => (by first | exact X.loadAgg rfl (range_l (hk85.ext hw)) Try.underlying102 rfl (by kernel_rfl) | exact X.loadAgg rfl (range_blk (hk85.ext hw)) Try.underlying102 rfl (by kernel_rfl) | exact X.loadAgg rfl (range_l (hk95.ext hw)) Try.underlying102 rfl (by kernel_rfl) | exact X.loadAgg rfl (range_blk (hk95.ext hw)) Try.underlying102 rfl (by kernel_rfl))) ?_
          refine Qt.va rfl (fun w' hw => (by first | exact X.loadAgg rfl (range_l (hk85.ext hw)) Try.underlying102 rfl (by kernel_rfl) | exact X.loadAgg rfl (range_blk (hk85.ext hw)) Try.underlying102 rfl (by kernel_rfl) | exact X.loadAgg rfl (range_l (hk95.ext hw)) Try.underlying102 rfl (by kernel_rfl) | exact X.loadAgg rfl (range_blk (hk95.ext hw)) Try.underlying102 rfl (by kernel_rfl))) ?_
          -- callfn bushel/bushelref33.ahead
          refine Qt.call rfl en_78 rfl (fun w' hw => calls_ext hw (k1 w')) ?_
          refine Qt.va rfl (fun w' hw => X.move (by conv => lhs; whnf)) ?_
          refine Qt.va rfl (fun w' hw => X.move (by conv => lhs; whnf)) ?_
          refine Qt.va rfl (fun w' hw => (by first | exact X.indexAddrn rfl rfl Try.underlying22 sz_99 (by first | exact Option.some_ne_none _ | exact hA | exact hl2 w' hw) (by omega) | exact X.indexAddr rfl rfl Try.underlying22 sz_99 (by first | exact Option.some_ne_none _ | exact hA | exact hl2 w' hw) (by omega))) ?_
          refine Qt.va rfl (fun w' hw => X.fieldP rfl Try.underlying99 rfl sz_4 (by decide) (by first | exact Option.some_ne_none _ | exact hA | exact hl2 w' hw)) ?_
          refine Qt.va rfl (fun w' hw => X.load rfl sc_4 (by first | exact Ld.blk (hk85.ext hw) rfl | exact Ld.blk (hk95.ext hw) rfl | exact hA | exact hl2 w' hw)) ?_
          refine Qt.va rfl (fun w' hw => X.neqB rfl rfl Try.underlying4) ?_
          refine Qt.va rfl (fun w' hw => X.assign (by conv => lhs; whnf)) ?_
          refine Qt.nil (fun w6 hq6 => ?_)
          replace hk85 := hk85.ext hq6
          replace hk95 := hk95.ext hq6
          -- ret
          refine J.ret ?_
          refine inB_ret <|  thn_ret <|  thn_ret <|  inB_ret <|  thn_ret <| ?_
          refine fin1 ?_
          refine ⟨?_, ((he02.trans he34).trans he5).trans hq6⟩
          cases x.2 <;> rfl
        · have q1 : aheadV va vb = false := by simpa using q1
          have k1 := fun (w : World) => ahead33 va vb w xa xb
          rw [q1] at hP k1 ⊢
          refine L.caseBF (k := 34) rfl (by rfl) ?_
          refine L.va rfl ((by first | exact X.loadAgg rfl (range_l hk85) Try.underlying102 rfl (by kernel_rfl) | exact X.loadAgg rfl (range_blk hk85) Try.underlying102 rfl (by kernel_rfl) | exact X.loadAgg rfl (range_l hk95) Try.underlying102 rfl (by kernel_rfl) | exact X.loadAgg rfl (range_blk hk95) Try.underlying102 rfl (by kernel_rfl))) ?_
          refine L.va rfl ((by first | exact X.loadAgg rfl (range_l hk85) Try.underlying102 rfl (by kernel_rfl) | exact X.loadAgg rfl (range_blk hk85) Try.underlying102 rfl (by kernel_rfl) | exact X.loadAgg rfl (range_l hk95) Try.underlying102 rfl (by kernel_rfl) | exact X.loadAgg rfl (range_blk hk95) Try.underlying102 rfl (by kernel_rfl))) ?_
          -- callfn bushel/bushelref33.ahead
          refine L.call rfl en_78 rfl (ahead33 vb va w5 xb xa) ?_
          rintro e w6 ⟨rfl, he6⟩
          refine ⟨_, rfl, ?_⟩
          have hk86 := hk85.ext he6
          have hk96 := hk95.ext he6
          have hl2 := fun (w' : World) (hw : Ext w6 w') => hld2 w' (((he4.trans he5).trans he6).trans hw)
          refine L.va rfl (X.pickF rfl (by conv => lhs; whnf)) ?_
          refine L.nil ?_
          -- cond
          by_cases q2 : aheadV vb va = true
          · rw [if_pos (.inr q2)] at hP
            rw [hP, q2]
            refine J.iteT rfl ?_
            refine J.seq ?_
            -- draw
            refine J.quiet mixed (by kernel_rfl) ?_
            refine Qt.va rfl (fun w' hw => (by first | exact X.loadAgg rfl (range_l (hk86.ext hw)) Try.underlying102 rfl (by kernel_rfl) | exact X.loadAgg rfl (range_blk (hk86.ext hw)) Try.underlying102 rfl (by kernel_rfl) | exact X.loadAgg rfl (range_l (hk96.ext hw)) Try.underlying102 rfl (by kernel_rfl) | exact X.loadAgg rfl (range_blk (hk96.ext hw)) Try.underlying102 rfl (by kernel_rfl))) ?_
            refine Qt.va rfl (fun w' hw => (by first | exact X.loadAgg rfl (range_l (hk86.ext hw)) Try.underlying102 rfl (by kernel_rfl) | exact X.loadAgg rfl (range_blk (hk86.ext hw)) Try.underlying102 rfl (by kernel_rfl) | exact X.loadAgg rfl (range_l (hk96.ext hw)) Try.underlying102 rfl (by kernel_rfl) | exact X.loadAgg rfl (range_blk (hk96.ext hw)) Try.underlying102 rfl (by kernel_rfl))) ?_
            -- callfn bushel/bushelref33.ahead
            refine Qt.call rfl en_78 rfl (fun w' hw => calls_ext hw (k1 w')) ?_
            refine Qt.va rfl (fun w' hw => X.move (by conv => lhs; whnf)) ?_
            refine Qt.va rfl (fun w' hw => X.move (by conv => lhs; whnf)) ?_
            refine Qt.va rfl (fun w' hw => (by first | exact X.indexAddrn rfl rfl Try.underlying22 sz_99 (by first | exact Option.some_ne_none _ | exact hA | exact hl2 w' hw) (by omega) | exact X.indexAddr rfl rfl Try.underlying22 sz_99 (by first | exact Option.some_ne_none _ | exact hA | exact hl2 w' hw) (by omega))) ?_
            refine Qt.va rfl (fun w' hw => X.fieldP rfl Try.underlying99 rfl sz_4 (by decide) (by first | exact Option.some_ne_none _ | exact hA | exact hl2 w' hw)) ?_
            refine Qt.va rfl (fun w' hw => X.load rfl sc_4 (by first | exact Ld.blk (hk86.ext hw) rfl | exact Ld.blk (hk96.ext hw) rfl | exact hA | exact hl2 w' hw)) ?_
            refine Qt.va rfl (fun w' hw => X.neqB rfl rfl Try.underlying4) ?_
            refine Qt.va rfl (fun w' hw => X.assign (by conv => lhs; whnf)) ?_
            refine Qt.nil (fun w7 hq7 => ?_)
            replace hk86 := hk86.ext hq7
            replace hk96 := hk96.ext hq7
            -- ret
            refine J.ret ?_
            refine inB_ret <|  thn_ret <|  thn_ret <|  inB_ret <|  thn_ret <| ?_
            refine fin1 ?_
            refine ⟨?_, (((he02.trans he34).trans he5).trans he6).trans hq7⟩
            cases x.2 <;> rfl
          · rw [if_neg (fun h => h.elim (fun h => by cases h) q2)] at hP
            have q2 : aheadV vb va = false := by simpa using q2
            rw [q2]
            refine J.iteF rfl ?_
            refine J.skip ?_
            refine J.region ?_
            refine L.va rfl (X.move (by conv => lhs; whnf)) ?_
            refine L.va rfl (X.add rfl rfl (by omega)) ?_
            refine L.va rfl (X.assign (by conv => lhs; whnf)) ?_
            refine L.nil ?_
            -- loopend
            refine ⟨i + 1, At1 (by first | rfl | exact at_int rfl (by omega) | exact at_slice rfl (by omega) | exact at_int rfl (by simp)), (by (iterate 12 refine Agr.lk rfl ?_); refine Agr.lk rfl ?_; refine Agr.hav rfl ?_; (iterate 4 refine Agr.lk rfl ?_); exact Agr.lk rfl (Agr.hav rfl Agr.rfl')), ?_⟩
            exact ⟨⟨by omega, hP, (he34.trans he5).trans he6⟩, by omega⟩
    · obtain rfl : i = n := by omega
      rw [← lo, List.drop_length] at hP
      have hP : lessO o a b = lessB a.c b.c := hP.trans (lessL_eq _ _)
      rw [hP]
      have la := ha.lc
      have lb := hb.lc
      have ma := ha.n1
      have mb := hb.n1
      unfold maxLen at ma mb
      refine J.exit ?_
      refine J.seq ?_
      refine J.seq ?_
      refine J.region ?_
      refine L.va rfl (X.assign (by conv => lhs; whnf)) ?_
      refine L.nil ?_
      refine J.block ?_
      -- loop
      refine J.loop (X := Nat) [6, 10, 48, 49, 50, 51, 52, 53, 54, 55, 56, 57, 58, 59, 60, 61, 62, 63, 64, 65, 66, 67, 68, 69, 70, 71, 72, 73, 74, 75, 76, 77, 78, 79, 80, 81, 82, 83] (fun j => [(10, .int .i64 (j : Int))]) (fun j w' => j ≤ a.nc ∧ j ≤ b.nc ∧ (∀ k, k < j → a.c.getD k 0 = b.c.getD k 0) ∧ Ext w3 w') (fun j => a.nc - j) (0) (At1 (by first | rfl | exact at_int rfl (by omega) | exact at_slice rfl (by omega) | exact at_int rfl (by simp))) ?_ ?_
      · exact ⟨Nat.zero_le _, Nat.zero_le _, fun j hj => absurd hj (by omega), Ext.refl _⟩
      · rintro j g w4 ⟨hj, hj2, hQ, he4⟩
        have he04 := he03.trans he4
        have hk14 := hk13.ext he4
        have hk24 := hk23.ext he4
        have r1 := ha.hc.ext he04
        have r2 := hb.hc.ext he04
        refine J.seq ?_
        refine J.seq ?_
        refine J.region ?_
        refine L.va rfl (X.move (by conv => lhs; whnf)) ?_
        refine L.va rfl (X.fieldAddr rfl Try.underlying32 rfl sz_29 (by decide)) ?_
        refine L.va rfl (X.load rfl sc_29 (by first | exact Ld.blk hk14 rfl | exact Ld.blk hk24 rfl | exact Ld.num r1 (by omega) | exact Ld.num r2 (by omega))) ?_
        refine L.va rfl (X.len rfl Try.underlying29) ?_
        refine L.va rfl (X.lss rfl rfl) ?_
        refine L.va rfl (X.move (by conv => lhs; whnf)) ?_
        -- case t53
        refine L.caseDec (k := 53) rfl (fun h1 => ?_) (fun h1 => ?_)
        rotate_left
        · refine L.no rfl ?_
          refine L.no rfl ?_
          refine L.no rfl ?_
          refine L.no rfl ?_
          refine L.no rfl ?_
          refine L.va rfl (X.pickF rfl (by conv => lhs; whnf)) ?_
          refine L.nil ?_
          -- cond
          refine J.iteF rfl ?_
          rw [lessB_end (fun k k1 k2 => hQ k (by omega)), la, lb]
          refine J.exit ?_
          refine J.seq ?_
          refine J.region ?_
          refine L.va rfl (X.fieldAddr rfl Try.underlying32 rfl sz_29 (by decide)) ?_
          refine L.va rfl (X.load rfl sc_29 (by first | exact Ld.blk hk14 rfl | exact Ld.blk hk24 rfl | exact Ld.num r1 (by omega) | exact Ld.num r2 (by omega))) ?_
          refine L.va rfl (X.len rfl Try.underlying29) ?_
          refine L.va rfl (X.fieldAddr rfl Try.underlying32 rfl sz_29 (by decide)) ?_
          refine L.va rfl (X.load rfl sc_29 (by first | exact Ld.blk hk14 rfl | exact Ld.blk hk24 rfl | exact Ld.num r1 (by omega) | exact Ld.num r2 (by omega))) ?_
          refine L.va rfl (X.len rfl Try.underlying29) ?_
          refine L.va rfl (X.lss rfl rfl) ?_
          refine L.va rfl (X.assign (by conv => lhs; whnf)) ?_
          refine L.nil ?_
          -- ret
          refine J.ret ?_
          refine fin1 ?_
          exact ⟨congrArg (fun b => Ending.returned (.bool b)) (decide_eq_decide.2 Int.ofNat_lt), he04⟩
        refine L.va rfl (X.move (by conv => lhs; whnf)) ?_
        refine L.va rfl (X.fieldAddr rfl Try.underlying32 rfl sz_29 (by decide)) ?_
        refine L.va rfl (X.load rfl sc_29 (by first | exact Ld.blk hk14 rfl | exact Ld.blk hk24 rfl | exact Ld.num r1 (by omega) | exact Ld.num r2 (by omega))) ?_
        refine L.va rfl (X.len rfl Try.underlying29) ?_
        refine L.va rfl (X.lss rfl rfl) ?_
        refine L.va rfl (X.pickT rfl (by conv => lhs; whnf)) ?_
        refine L.nil ?_
        -- cond
        refine J.dec rfl (fun h2 => ?_) (fun h2 => ?_)
        rotate_left
        · rw [lessB_end (fun k k1 k2 => hQ k (by omega)), la, lb]
          refine J.exit ?_
          refine J.seq ?_
          refine J.region ?_
          refine L.va rfl (X.fieldAddr rfl Try.underlying32 rfl sz_29 (by decide)) ?_
          refine L.va rfl (X.load rfl sc_29 (by first | exact Ld.blk hk14 rfl | exact Ld.blk hk24 rfl | exact Ld.num r1 (by omega) | exact Ld.num r2 (by omega))) ?_
          refine L.va rfl (X.len rfl Try.underlying29) ?_
          refine L.va rfl (X.fieldAddr rfl Try.underlying32 rfl sz_29 (by decide)) ?_
          refine L.va rfl (X.load rfl sc_29 (by first | exact Ld.blk hk14 rfl | exact Ld.blk hk24 rfl | exact Ld.num r1 (by omega) | exact Ld.num r2 (by omega))) ?_
          refine L.va rfl (X.len rfl Try.underlying29) ?_
          refine L.va rfl (X.lss rfl rfl) ?_
          refine L.va rfl (X.assign (by conv => lhs; whnf)) ?_
          refine L.nil ?_
          -- ret
          refine J.ret ?_
          refine fin1 ?_
          exact ⟨congrArg (fun b => Ending.returned (.bool b)) (decide_eq_decide.2 Int.ofNat_lt), he04⟩
        have hA1 := r1.some_ (by omega)
        have hA2 := r2.some_ (by omega)
        refine J.skip ?_
        refine J.seq ?_
        refine J.block ?_
        refine J.seq ?_
        -- draw
        refine J.quiet mixed (by kernel_rfl) ?_
        refine Qt.va rfl (fun w' hw => X.fieldAddr rfl Try.underlying32 rfl sz_29 (by decide)) ?_
        refine Qt.va rfl (fun w' hw => X.load rfl sc_29 (by first | exact Ld.blk (hk14.ext hw) rfl | exact Ld.blk (hk24.ext hw) rfl | exact Ld.num (r1.ext hw) (by omega) | exact Ld.num (r2.ext hw) (by omega) | exact hA1 | exact hA2)) ?_
        refine Qt.va rfl (fun w' hw => X.move (by conv => lhs; whnf)) ?_
        refine Qt.va rfl (fun w' hw => (by first | exact X.index1n rfl rfl Try.underlying29 sz_3 (by first | exact Option.some_ne_none _ | exact r1.some_ (by omega) | exact r2.some_ (by omega) | exact hA1 | exact hA2) (by omega) | exact X.index1 rfl rfl Try.underlying29 sz_3 (by first | exact Option.some_ne_none _ | exact r1.some_ (by omega) | exact r2.some_ (by omega) | exact hA1 | exact hA2) (by omega))) ?_
        refine Qt.va rfl (fun w' hw => X.load rfl sc_3 (by first | exact Ld.blk (hk14.ext hw) rfl | exact Ld.blk (hk24.ext hw) rfl | exact Ld.num (r1.ext hw) (by omega) | exact Ld.num (r2.ext hw) (by omega) | exact hA1 | exact hA2)) ?_
        refine Qt.va rfl (fun w' hw => X.fieldAddr rfl Try.underlying32 rfl sz_29 (by decide)) ?_
        refine Qt.va rfl (fun w' hw => X.load rfl sc_29 (by first | exact Ld.blk (hk14.ext hw) rfl | exact Ld.blk (hk24.ext hw) rfl | exact Ld.num (r1.ext hw) (by omega) | exact Ld.num (r2.ext hw) (by omega) | exact hA1 | exact hA2)) ?_
        refine Qt.va rfl (fun w' hw => X.move (by conv => lhs; whnf)) ?_
        refine Qt.va rfl (fun w' hw => (by first | exact X.index1n rfl rfl Try.underlying29 sz_3 (by first | exact Option.some_ne_none _ | exact r1.some_ (by omega) | exact r2.some_ (by omega) | exact hA1 | exact hA2) (by omega) | exact X.index1 rfl rfl Try.underlying29 sz_3 (by first | exact Option.some_ne_none _ | exact r1.some_ (by omega) | exact r2.some_ (by omega) | exact hA1 | exact hA2) (by omega))) ?_
        refine Qt.va rfl (fun w' hw => X.load rfl sc_3 (by first | exact Ld.blk (hk14.ext hw) rfl | exact Ld.blk (hk24.ext hw) rfl | exact Ld.num (r1.ext hw) (by omega) | exact Ld.num (r2.ext hw) (by omega) | exact hA1 | exact hA2)) ?_
        refine Qt.va rfl (fun w' hw => X.neq rfl rfl) ?_
        refine Qt.nil (fun w5 hq => ?_)
        replace hk14 := hk14.ext hq
        replace hk24 := hk24.ext hq
        replace r1 := r1.ext hq
        replace r2 := r2.ext hq
        -- cond
        refine J.ndec rfl (fun hd => ?_) (fun hd => ?_)
        · rw [lessB_at (i := j) (by omega) (by omega) hQ hd]
          refine J.seq ?_
          -- draw
          refine J.quiet mixed (by kernel_rfl) ?_
          refine Qt.va rfl (fun w' hw => X.fieldAddr rfl Try.underlying32 rfl sz_29 (by decide)) ?_
          refine Qt.va rfl (fun w' hw => X.load rfl sc_29 (by first | exact Ld.blk (hk14.ext hw) rfl | exact Ld.blk (hk24.ext hw) rfl | exact Ld.num (r1.ext hw) (by omega) | exact Ld.num (r2.ext hw) (by omega) | exact hA1 | exact hA2)) ?_
          refine Qt.va rfl (fun w' hw => X.move (by conv => lhs; whnf)) ?_
          refine Qt.va rfl (fun w' hw => (by first | exact X.index1n rfl rfl Try.underlying29 sz_3 (by first | exact Option.some_ne_none _ | exact r1.some_ (by omega) | exact r2.some_ (by omega) | exact hA1 | exact hA2) (by omega) | exact X.index1 rfl rfl Try.underlying29 sz_3 (by first | exact Option.some_ne_none _ | exact r1.some_ (by omega) | exact r2.some_ (by omega) | exact hA1 | exact hA2) (by omega))) ?_
          refine Qt.va rfl (fun w' hw => X.load rfl sc_3 (by first | exact Ld.blk (hk14.ext hw) rfl | exact Ld.blk (hk24.ext hw) rfl | exact Ld.num (r1.ext hw) (by omega) | exact Ld.num (r2.ext hw) (by omega) | exact hA1 | exact hA2)) ?_
          refine Qt.va rfl (fun w' hw => X.fieldAddr rfl Try.underlying32 rfl sz_29 (by decide)) ?_
          refine Qt.va rfl (fun w' hw => X.load rfl sc_29 (by first | exact Ld.blk (hk14.ext hw) rfl | exact Ld.blk (hk24.ext hw) rfl | exact Ld.num (r1.ext hw) (by omega) | exact Ld.num (r2.ext hw) (by omega) | exact hA1 | exact hA2)) ?_
          refine Qt.va rfl (fun w' hw => X.move (by conv => lhs; whnf)) ?_
          refine Qt.va rfl (fun w' hw => (by first | exact X.index1n rfl rfl Try.underlying29 sz_3 (by first | exact Option.some_ne_none _ | exact r1.some_ (by omega) | exact r2.some_ (by omega) | exact hA1 | exact hA2) (by omega) | exact X.index1 rfl rfl Try.underlying29 sz_3 (by first | exact Option.some_ne_none _ | exact r1.some_ (by omega) | exact r2.some_ (by omega) | exact hA1 | exact hA2) (by omega))) ?_
          refine Qt.va rfl (fun w' hw => X.load rfl sc_3 (by first | exact Ld.blk (hk14.ext hw) rfl | exact Ld.blk (hk24.ext hw) rfl | exact Ld.num (r1.ext hw) (by omega) | exact Ld.num (r2.ext hw) (by omega) | exact hA1 | exact hA2)) ?_
          refine Qt.va rfl (fun w' hw => X.lss rfl rfl) ?_
          refine Qt.va rfl (fun w' hw => X.assign (by conv => lhs; whnf)) ?_
          refine Qt.nil (fun w6 hq6 => ?_)
          replace hk14 := hk14.ext hq6
          replace hk24 := hk24.ext hq6
          replace r1 := r1.ext hq6
          replace r2 := r2.ext hq6
          -- ret
          refine J.ret ?_
          refine inB_ret <|  thn_ret <|  thn_ret <|  inB_ret <|  thn_ret <| ?_
          refine fin1 ?_
          exact ⟨rfl, (he04.trans hq).trans hq6⟩
        · skip
          refine J.skip ?_
          refine J.region ?_
          refine L.va rfl (X.move (by conv => lhs; whnf)) ?_
          refine L.va rfl (X.add rfl rfl (by omega)) ?_
          refine L.va rfl (X.assign (by conv => lhs; whnf)) ?_
          refine L.nil ?_
          -- loopend
          refine ⟨j + 1, At1 (by first | rfl | exact at_int rfl (by omega) | exact at_slice rfl (by omega) | exact at_int rfl (by simp)), (by (iterate 27 refine Agr.lk rfl ?_); exact Agr.lk rfl (Agr.hav rfl Agr.rfl')), ?_⟩
          refine ⟨⟨by omega, by omega, fun k hk => ?_, he4.trans hq⟩, by omega⟩
          rcases Nat.lt_or_ge k j with h | h
          · exact hQ k h
          · obtain rfl : k = j := by omega
            exact hd
end Go.Proofs.Ytmnlaekcojblkaa
