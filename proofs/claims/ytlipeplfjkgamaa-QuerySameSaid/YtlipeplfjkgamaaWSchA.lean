/-
  All names of a schema, in the program and in the reference.
-/
import Derived.Test.YtlipeplfjkgamaaSchemaData
namespace Go.Proofs.Ytlipeplfjkgamaa
set_option maxRecDepth 100000
open Go.RowKit H
set_option linter.unusedVariables false
theorem strs_ones (l : List ByteArray) : (strs l).all (·.oneCell') = true := by
  rw [List.all_eq_true]
  intro u hu
  simp only [strs, List.mem_map] at hu
  obtain ⟨x, _, rfl⟩ := hu
  rfl
theorem strs_append (a b : List ByteArray) : strs a ++ strs b = strs (a ++ b) := by simp [strs]
theorem dims_row {l : List (ByteArray × Int)} {i : Nat} (h : i < l.length) : ∀ (r : Nat) (v : Value), [Value.string (l.getD i d0).1, Value.int .i64 (l.getD i d0).2][r]? = some v → (dimsV l)[i * 2 + r]? = some v := by
  have e : l.getD i d0 = l[i] := by simp [List.getD, h]
  obtain ⟨h1, h2⟩ := dimsV_at l i
  rw [List.getElem?_eq_getElem h] at h1 h2
  rw [e]
  intro r v hv
  match r, hv with
  | 0, hv => rw [Nat.add_zero, h1]; exact hv
  | 1, hv => rw [h2]; exact hv
/-- all names of a schema -/
def nmL (ds : List (ByteArray × Int)) (s1 s2 : List ByteArray) : List ByteArray := ds.map (·.1) ++ s1 ++ s2
theorem names_take {ds : List (ByteArray × Int)} {i : Nat} (h : i < ds.length) : (ds.take (i + 1)).map (·.1) = (ds.take i).map (·.1) ++ [(ds.getD i d0).1] := by
  rw [List.take_add_one, List.getElem?_eq_getElem h, List.map_append]
  congr 1
  simp [List.getD, h]
theorem sall_any (Ad : Option Addr) (nd cd : Nat) (A1 : Option Addr) (n1 c1 : Nat) (A2 : Option Addr) (n2 c2 : Nat) (Av : Option Addr) (nv cv : Nat) (ds : List (ByteArray × Int)) (s1 s2 : List ByteArray) (w : World)
    (hd : Reads w w.heap.size 2 Ad nd (dimsV ds)) (h1 : Reads w w.heap.size 1 A1 n1 (strs s1)) (h2 : Reads w w.heap.size 1 A2 n2 (strs s2)) (hnd : nd ≤ 1000) (hn1 : n1 ≤ 1000) (hn2 : n2 ≤ 1000) :
    Calls Try.prog 180 #[.agg #[.slice Ad nd cd, .slice A1 n1 c1, .slice A2 n2 c2, .slice Av nv cv]] w fun e w' => ∃ A c, e = .returned (.slice A (nd + n1 + n2) c) ∧ w'.ownsRow w.heap.size 9 1 (.slice A (nd + n1 + n2) c) (nd + n1 + n2) (strs (nmL ds s1 s2)) ∧ Ext w w' := by
  have hl : ds.length = nd := by have := hd.1; rw [dimsV_length] at this; omega
  refine enter Try.func180 rfl (by kernel_rfl) ?_
  refine J.seq ?_
  refine J.region ?_
  -- box
  refine L.boxA (l := [_, _, _, _]) rfl rfl ?_
  intro b1 w1 hb1 hs1 hk1 he1
  refine L.va rfl (X.assign (by conv => lhs; whnf)) ?_
  refine L.nil ?_
  refine J.seq ?_
  refine J.region ?_
  refine L.va rfl (X.assign (by conv => lhs; whnf)) ?_
  refine L.nil ?_
  -- until
  refine J.seq ?_
  refine J.seq ?_
  refine J.region ?_
  refine L.va rfl (X.fieldAddr rfl Try.underlying49 rfl sz_45 (by decide)) ?_
  refine L.va rfl (X.load rfl sc_45 (by first | exact Ld.blk hk1 rfl)) ?_
  refine L.va rfl (X.len rfl Try.underlying45) ?_
  refine L.va rfl (X.move (by conv => lhs; whnf)) ?_
  refine L.nil ?_
  refine J.block ?_
  -- loop
  refine J.loop (X := Nat × Option Addr × Nat) [3, 5, 9, 10, 11, 12, 13, 14, 15, 16, 17, 18] (fun x => [(9, .int .i64 (x.1 : Int)), (3, .slice x.2.1 x.1 x.2.2)]) (fun x w' => x.1 ≤ nd ∧ w'.ownsRow w.heap.size 9 1 (.slice x.2.1 x.1 x.2.2) x.1 (strs ((ds.take x.1).map (·.1))) ∧ Blk w' b1 49 #[.slice Ad nd cd, .slice A1 n1 c1, .slice A2 n2 c2, .slice Av nv cv] ∧ Ext w w') (fun x => nd - x.1) ((0, none, 0)) (At2 (by first | rfl | exact at_int rfl (by omega) | exact at_slice rfl (by omega) | exact at_int rfl (by simp)) (by first | rfl | exact at_int rfl (by omega) | exact at_slice rfl (by omega) | exact at_int rfl (by simp))) ?_ ?_
  · exact ⟨by dsimp only; omega, own_nil _ _ _ _, hk1, he1⟩
  · rintro ⟨i, A, c⟩ g w2 ⟨hi, ho2, hk12, he2⟩
    dsimp only at hi ho2
    have q1 : ((i, A, c) : Nat × Option Addr × Nat).1 = i := rfl
    have hz2 := he2.le
    have hd2 := hd.ext he2
    refine J.seq ?_
    refine J.region ?_
    refine L.va rfl (X.lss rfl rfl) ?_
    refine L.nil ?_
    refine J.seq ?_
    -- cond
    refine J.dec rfl (fun hlt => ?_) (fun hlt => ?_)
    · have hil : i < ds.length := by rw [hl]; dsimp only at hlt; omega
      -- t12
      refine J.skip ?_
      refine J.seq ?_
      refine J.block ?_
      refine J.seq ?_
      refine J.region ?_
      refine L.va rfl ((by first | exact X.indexAddrn rfl rfl Try.underlying45 sz_128 (by first | exact Option.some_ne_none _ | exact hd2.some_ (by omega)) (by omega) | exact X.indexAddr rfl rfl Try.underlying45 sz_128 (by first | exact Option.some_ne_none _ | exact hd2.some_ (by omega)) (by omega))) ?_
      refine L.va rfl (X.loadRow (cs := [.string (ds.getD i d0).1, .int .i64 (ds.getD i d0).2]) rfl hd2 (dims_row hil) (Nat.zero_lt_succ _) Try.underlying128 rfl (by kernel_rfl)) ?_
      -- alloc
      refine L.alloc rfl zr_128 ?_
      intro b3 w3 hb3 hs3 hk3 he3
      -- store
      refine L.storeAgg (vs := [_, _]) rfl rfl rfl rfl sz_128 (hk3) rfl ?_
      intro w4 hk4 hg4 hs4
      have ho4 := (ho2.ext he3).kept hg4 (.inr (own_blk_ne (ho2.ext he3) hk3 (by decide)))
      have hlt1 := hk12.lt
      have hkS4 := (hk12.ext he3).grown hg4 (by intro hg; injection hg with hg; omega)
      have he4 : Ext w w4 := (he2.trans he3).grw hg4 (by intro g hg; injection hg with hg; omega)
      have hz4 := he4.le
      refine L.nil ?_
      -- until
      refine J.region ?_
      refine L.va rfl (X.move (by conv => lhs; whnf)) ?_
      refine L.va rfl (X.fieldAddr rfl Try.underlying128 rfl sz_9 (by decide)) ?_
      refine L.va rfl (X.load rfl sc_9 (by first | exact Ld.blk hk4 rfl)) ?_
      -- buildSlice
      refine L.bslice (vs := [_]) rfl (Evs.cons (by conv => lhs; whnf) Evs.nil) rfl rfl rfl rfl Try.underlying46 sz_9 zr_9 (by decide) ?_
      intro b5 w5 hb5 hs5 hk5 he5
      have hz5 := he5.le
      -- append
      refine L.appendV (q := i + 1) (ys := strs ((ds.take i).map (·.1)) ++ strs [(ds.getD i d0).1]) rfl rfl rfl Try.underlying46 el_9 (ho4.ext he5) ((blk_reads (q := 1) (l := strs [(ds.getD i d0).1]) hk5 (by omega : b5 < w5.heap.size) rfl)) (by first | rfl | exact strs_ones _ | assumption) (by omega) (by simp) (by unfold maxLen; omega) (by omega) ?_
      intro A6 c6 w6 ho6 hg6 hb6 hor6
      rw [strs_append, ← names_take hil] at ho6
      have he6 : Ext w w6 := (he4.trans he5).low hb6 (Nat.le_refl _)
      have hkS6 := (hkS4.ext he5).grown hg6 (fun h => own_blk_ne (ho4.ext he5) (hkS4.ext he5) (by decide) h.symm)
      refine L.va rfl (X.assign (by conv => lhs; whnf)) ?_
      refine L.nil ?_
      refine J.region ?_
      refine L.va rfl (X.add rfl rfl (by omega)) ?_
      refine L.va rfl (X.move (by conv => lhs; whnf)) ?_
      refine L.nil ?_
      -- loopend
      refine ⟨(i + 1, A6, c6), At2 (by first | rfl | exact at_int rfl (by omega) | exact at_slice rfl (by omega) | exact at_int rfl (by simp)) (by first | rfl | exact at_int rfl (by omega) | exact at_slice rfl (by omega) | exact at_int rfl (by simp)), (by (iterate 12 refine Agr.lk rfl ?_); exact Agr.lk rfl (Agr.hav rfl Agr.rfl')), ?_⟩
      exact ⟨⟨by dsimp only; omega, ho6, hkS6, he6⟩, by dsimp only; omega⟩
    · obtain rfl : i = nd := by dsimp only at hlt; omega
      rw [List.take_of_length_le (by omega)] at ho2
      refine J.exit ?_
      refine J.seq ?_
      refine J.region ?_
      refine L.va rfl (X.move (by conv => lhs; whnf)) ?_
      refine L.va rfl (X.fieldAddr rfl Try.underlying49 rfl sz_46 (by decide)) ?_
      refine L.va rfl (X.load rfl sc_46 (by first | exact Ld.blk hk12 rfl)) ?_
      -- append
      refine L.appendV (q := i + n1) (ys := strs (ds.map (·.1)) ++ strs s1) rfl rfl rfl Try.underlying46 el_9 (ho2) ((h1.ext he2).here (by decide)) (by first | rfl | exact strs_ones _ | assumption) (by omega) (by simp) (by unfold maxLen; omega) (by omega) ?_
      intro A3 c3 w3 ho3 hg3 hb3 hor3
      rw [strs_append] at ho3
      have he3 : Ext w w3 := he2.low hb3 (Nat.le_refl _)
      have hk13 := hk12.grown hg3 (fun h => own_blk_ne ho2 hk12 (by decide) h.symm)
      have hz3 := he3.le
      refine L.va rfl (X.assign (by conv => lhs; whnf)) ?_
      refine L.nil ?_
      refine J.seq ?_
      refine J.region ?_
      refine L.va rfl (X.move (by conv => lhs; whnf)) ?_
      refine L.va rfl (X.fieldAddr rfl Try.underlying49 rfl sz_46 (by decide)) ?_
      refine L.va rfl (X.load rfl sc_46 (by first | exact Ld.blk hk13 rfl)) ?_
      -- append
      refine L.appendV (q := i + n1 + n2) (ys := strs (ds.map (·.1) ++ s1) ++ strs s2) rfl rfl rfl Try.underlying46 el_9 (ho3) ((h2.ext he3).here (by decide)) (by first | rfl | exact strs_ones _ | assumption) (by omega) (by simp) (by unfold maxLen; omega) (by omega) ?_
      intro A4 c4 w4 ho4 hg4 hb4 hor4
      rw [strs_append] at ho4
      refine L.va rfl (X.assign (by conv => lhs; whnf)) ?_
      refine L.nil ?_
      -- ret
      refine J.ret ?_
      refine fin1 ?_
      exact ⟨A4, c4, rfl, ho4, he3.low hb4 (Nat.le_refl _)⟩
end Go.Proofs.Ytlipeplfjkgamaa
