/-
  diff.lacks: what one list of things holds and the other doesn't.
-/
import Derived.Test.YtdmfikedojgjbaaWDiffG
namespace Go.Proofs.Ytdmfikedojgjbaa
set_option maxRecDepth 100000
open Go.RowKit H
open Go.MapKept Go.ChangeMaps Go.WideMaps Go.Maps
set_option linter.unusedVariables false
def tV (p : ByteArray × Int) : Value := .agg #[.string p.1, .int .i64 p.2]
theorem tV_inj {a b : ByteArray × Int} (h : tV a = tV b) : a = b := by
  obtain ⟨a1, a2⟩ := a
  obtain ⟨b1, b2⟩ := b
  simpa [tV] using h
def amT (l : List (ByteArray × Int)) (x : ByteArray × Int) : Bool := l.any fun y => decide (y = x)
theorem amT_iff {l : List (ByteArray × Int)} {x : ByteArray × Int} : amT l x = true ↔ x ∈ l := by
  unfold amT
  rw [List.any_eq_true]
  exact ⟨fun ⟨y, hy, h⟩ => of_decide_eq_true h ▸ hy, fun h => ⟨x, h, decide_eq_true rfl⟩⟩
def ltL (p : ByteArray) (la lb : List (ByteArray × Int)) : List ByteArray := (la.filter fun x => !amT lb x).map fun x => p ++ x.1
theorem take_nextD {l : List (ByteArray × Int)} {i : Nat} (h : i < l.length) : l.take (i + 1) = l.take i ++ [l.getD i d0] := by
  rw [List.take_add_one, List.getElem?_eq_getElem h]
  simp [List.getD, h]
theorem ltL_next {p : ByteArray} {la lb : List (ByteArray × Int)} {i : Nat} (h : i < la.length) : ltL p (la.take (i + 1)) lb = ltL p (la.take i) lb ++ (if amT lb (la.getD i d0) then [] else [p ++ (la.getD i d0).1]) := by
  rw [take_nextD h]
  unfold ltL
  rw [List.filter_append, List.map_append]
  congr 1
  generalize la.getD i d0 = x
  cases h : amT lb x <;> simp [h]
theorem ltF (p : ByteArray) (la lb : List (ByteArray × Int)) : ∃ LA : Nat → List ByteArray, LA 0 = [] ∧ (∀ i, i < la.length → LA (i + 1) = LA i ++ (if amT lb (la.getD i d0) then [] else [p ++ (la.getD i d0).1])) ∧ LA la.length = ltL p la lb ∧ ∀ i, (LA i).length ≤ la.length := by
  refine ⟨fun i => ltL p (la.take i) lb, by simp [ltL], fun i hi => ltL_next hi, by simp, fun i => ?_⟩
  dsimp only
  unfold ltL
  rw [List.length_map]
  have := List.length_filter_le (fun x => !amT lb x) (la.take i)
  rw [List.length_take] at this
  omega
theorem MapK.congr {P : Program} {k e : TypeId} {w : World} {b n : Nat} {S S' : Value → Prop} (h : MapK P k e w b n S) (hS : ∀ v, S v ↔ S' v) : MapK P k e w b n S' := by
  obtain ⟨D, h1, h2⟩ := h
  exact ⟨D, h1, fun v l hv => (h2 v l hv).trans (hS v)⟩
/-- things whose names and kinds are small -/
def Small (l : List (ByteArray × Int)) : Prop := l.length ≤ 1000 ∧ ∀ x ∈ l, x.1.size ≤ 1000 ∧ 0 ≤ x.2 ∧ x.2 ≤ 1000
theorem Small.key {l : List (ByteArray × Int)} (h : Small l) {i : Nat} (hi : i < l.length) : (l.getD i d0).1.size ≤ 1000 ∧ ∃ k, keyOf Try.prog 202 (tV (l.getD i d0)) = some k := by
  have hm : l.getD i d0 ∈ l := by simp [List.getD, hi]
  have k := h.2 _ hm
  exact ⟨k.1, thing_key (by unfold maxLen; omega) (wf64 (by omega))⟩
theorem tmem_next {l : List (ByteArray × Int)} {i : Nat} (h : i < l.length) (v : Value) : (v = tV (l.getD i d0) ∨ v ∈ (l.take i).map tV) ↔ v ∈ (l.take (i + 1)).map tV := by
  rw [take_nextD h, List.map_append, List.mem_append, List.map_singleton, List.mem_singleton]
  exact or_comm
theorem lacks_any (p : ByteArray) (A1 : Option Addr) (n1 c1 : Nat) (A2 : Option Addr) (n2 c2 : Nat) (la lb : List (ByteArray × Int)) (w : World) (h1 : Reads w w.heap.size 2 A1 n1 (dimsV la)) (h2 : Reads w w.heap.size 2 A2 n2 (dimsV lb)) (hp : p.size ≤ 1000) (hsa : Small la) (hsb : Small lb) :
    Calls Try.prog 85 #[.string p, .slice A1 n1 c1, .slice A2 n2 c2] w fun e w' => ∃ A c, e = .returned (.slice A (ltL p la lb).length c) ∧ w'.ownsRow w.heap.size 9 1 (.slice A (ltL p la lb).length c) (ltL p la lb).length (strs (ltL p la lb)) ∧ Ext w w' := by
  have g1 : la.length = n1 := by have := h1.1; rw [dimsV_length] at this; omega
  have g2 : lb.length = n2 := by have := h2.1; rw [dimsV_length] at this; omega
  have ga := hsa.1
  have gb := hsb.1
  have hz : ∀ w' : World, (zeroValue 3).run Try.prog w' = .ok (.int .i64 0) w' := fun w' => rfl
  obtain ⟨LA, va0, vas, van, val⟩ := ltF p la lb
  rw [g1] at vas van
  refine enter Try.func85 rfl (by kernel_rfl) ?_
  refine J.seq ?_
  refine J.region ?_
  refine L.va rfl (X.assign (by conv => lhs; whnf)) ?_
  refine L.nil ?_
  refine J.seq ?_
  refine J.region ?_
  refine L.va rfl (X.move (by conv => lhs; whnf)) ?_
  refine L.va rfl (X.len rfl Try.underlying155) ?_
  -- makeMap
  refine L.makeMapK rfl rfl Try.underlying200 ?_
  intro bm w1 hbm hsm hm1 he1
  have hz1 := he1.le
  refine L.va rfl (X.assign (by conv => lhs; whnf)) ?_
  refine L.nil ?_
  -- until
  refine J.seq ?_
  refine J.seq ?_
  refine J.region ?_
  refine L.va rfl (X.move (by conv => lhs; whnf)) ?_
  refine L.va rfl (X.len rfl Try.underlying155) ?_
  refine L.va rfl (X.move (by conv => lhs; whnf)) ?_
  refine L.nil ?_
  refine J.block ?_
  -- loop
  refine J.loop (X := Nat) [8, 9, 20, 21, 22, 23, 24, 25, 26, 27, 28] (fun i => [(20, .int .i64 (i : Int))]) (fun i w' => i ≤ n2 ∧ MapK Try.prog 202 3 w' bm i (fun v => v ∈ (lb.take i).map tV) ∧ Ext w w') (fun i => n2 - i) (0) (At1 (by first | rfl | exact at_int rfl (by omega) | exact at_slice rfl (by omega) | exact at_int rfl (by simp))) ?_ ?_
  · exact ⟨by omega, MapK.congr hm1 (fun v => by simp), he1⟩
  · rintro i g w2 ⟨hi, hm2, he2⟩
    have d2 := h2.ext he2
    refine J.seq ?_
    refine J.region ?_
    refine L.va rfl (X.lss rfl rfl) ?_
    refine L.nil ?_
    refine J.seq ?_
    -- cond
    refine J.dec rfl (fun hlt => ?_) (fun hlt => ?_)
    · have hil : i < lb.length := by omega
      obtain ⟨hxs, kl, hkl⟩ := hsb.key hil
      -- t24
      refine J.skip ?_
      refine J.seq ?_
      refine J.block ?_
      refine J.seq ?_
      refine J.region ?_
      refine L.va rfl (X.move (by conv => lhs; whnf)) ?_
      refine L.va rfl ((by first | exact X.indexAddrn rfl rfl Try.underlying155 sz_202 (by first | exact Option.some_ne_none _ | exact d2.some_ (by omega)) (by omega) | exact X.indexAddr rfl rfl Try.underlying155 sz_202 (by first | exact Option.some_ne_none _ | exact d2.some_ (by omega)) (by omega))) ?_
      refine L.va rfl (X.loadRow (cs := [.string (lb.getD i d0).1, .int .i64 (lb.getD i d0).2]) rfl d2 (dims_row hil) (Nat.zero_lt_succ _) Try.underlying202 rfl (by kernel_rfl)) ?_
      -- alloc
      refine L.alloc rfl zr_202 ?_
      intro b3 w3 hb3 hs3 hk3 he3
      refine L.va rfl (X.assign (by conv => lhs; whnf)) ?_
      -- store
      refine L.storeAgg (vs := [_, _]) rfl rfl rfl rfl sz_202 (hk3) rfl ?_
      intro w4 hk4 hg4 hs4
      have hm4 := (hm2.ext he3).kept hg4 (by intro hh; injection hh with hh; have := hm2.lt; omega)
      have he4 : Ext w w4 := (he2.trans he3).grw hg4 (by intro g hg; injection hg with hg; have := he2.le; omega)
      refine L.nil ?_
      refine J.region ?_
      refine L.va rfl (X.move (by conv => lhs; whnf)) ?_
      refine L.va rfl ((by first | exact X.loadAgg rfl (range_l hk4) Try.underlying202 rfl (by kernel_rfl) | exact X.loadAgg rfl (range_blk hk4) Try.underlying202 rfl (by kernel_rfl))) ?_
      refine L.va rfl (X.move (by conv => lhs; whnf)) ?_
      -- mapUpdate
      refine L.mapPutK rfl rfl rfl rfl hm4 thing_keyed Try.underlying200 (by kernel_rfl) (by unfold maxLen; omega) hkl (wf64 (by omega)) ?_
      intro w5 hm5 hg5
      have he5 : Ext w w5 := he4.grw hg5 (by intro g hg; injection hg with hg; omega)
      refine L.nil ?_
      refine J.region ?_
      refine L.va rfl (X.add rfl rfl (by omega)) ?_
      refine L.va rfl (X.move (by conv => lhs; whnf)) ?_
      refine L.nil ?_
      -- loopend
      refine ⟨i + 1, At1 (by first | rfl | exact at_int rfl (by omega) | exact at_slice rfl (by omega) | exact at_int rfl (by simp)), (by (iterate 11 refine Agr.lk rfl ?_); exact Agr.lk rfl (Agr.hav rfl Agr.rfl')), ?_⟩
      exact ⟨⟨by omega, MapK.congr hm5 (fun v => tmem_next hil v), he5⟩, by omega⟩
    · obtain rfl : i = n2 := by omega
      rw [List.take_of_length_le (by omega)] at hm2
      refine J.exit ?_
      refine J.seq ?_
      refine J.region ?_
      refine L.va rfl (X.assign (by conv => lhs; whnf)) ?_
      refine L.nil ?_
      -- until
      refine J.seq ?_
      refine J.seq ?_
      refine J.region ?_
      refine L.va rfl (X.move (by conv => lhs; whnf)) ?_
      refine L.va rfl (X.len rfl Try.underlying155) ?_
      refine L.va rfl (X.move (by conv => lhs; whnf)) ?_
      refine L.nil ?_
      refine J.block ?_
      -- loop
      have hz2 := he2.le
      have hbl := hm2.lt
      refine J.loop (X := Nat × Option Addr × Nat × Nat) [10, 12, 13, 14, 31, 32, 33, 34, 35, 36, 37, 38, 39, 40, 41, 42, 43, 44, 45, 46, 47, 48, 49, 50] (fun x => [(31, .int .i64 (x.1 : Int)), (10, .slice x.2.1 x.2.2.1 x.2.2.2)]) (fun x w' => x.1 ≤ n1 ∧ x.2.2.1 = (LA x.1).length ∧ w'.ownsRow w2.heap.size 9 1 (.slice x.2.1 x.2.2.1 x.2.2.2) x.2.2.1 (strs (LA x.1)) ∧ Ext w2 w') (fun x => n1 - x.1) ((0, none, 0, 0)) (At2 (by first | rfl | exact at_int rfl (by omega) | exact at_slice rfl (by omega) | exact at_int rfl (by simp)) (by first | rfl | exact at_int rfl (by omega) | exact at_slice rfl (by omega) | exact at_int rfl (by simp))) ?_ ?_
      · refine ⟨by dsimp only; omega, by dsimp only; rw [va0]; rfl, ?_, Ext.refl _⟩
        dsimp only
        rw [va0]
        exact own_nil _ _ _ _
      · rintro ⟨i, A, m, c⟩ g w3 ⟨hi, hm, ho, he⟩
        dsimp only at hi hm ho he
        have z1 : ((i, A, m, c) : Nat × Option Addr × Nat × Nat).1 = i := rfl
        have z2 : ((i, A, m, c) : Nat × Option Addr × Nat × Nat).2.2.1 = m := rfl
        have hE3 : Ext w w3 := he2.trans he
        have d1 := h1.ext hE3
        have al1 := val i
        refine J.seq ?_
        refine J.region ?_
        refine L.va rfl (X.lss rfl rfl) ?_
        refine L.nil ?_
        refine J.seq ?_
        -- cond
        refine J.dec rfl (fun hlt => ?_) (fun hlt => ?_)
        · have hil : i < la.length := by dsimp only at hlt; omega
          obtain ⟨hxs, kl, hkl⟩ := hsa.key hil
          have hst := vas i (by omega)
          -- t34
          refine J.skip ?_
          refine J.seq ?_
          refine J.block ?_
          refine J.seq ?_
          refine J.region ?_
          refine L.va rfl ((by first | exact X.indexAddrn rfl rfl Try.underlying155 sz_202 (by first | exact Option.some_ne_none _ | exact d1.some_ (by omega)) (by omega) | exact X.indexAddr rfl rfl Try.underlying155 sz_202 (by first | exact Option.some_ne_none _ | exact d1.some_ (by omega)) (by omega))) ?_
          refine L.va rfl (X.loadRow (cs := [.string (la.getD i d0).1, .int .i64 (la.getD i d0).2]) rfl d1 (dims_row hil) (Nat.zero_lt_succ _) Try.underlying202 rfl (by kernel_rfl)) ?_
          -- alloc
          refine L.alloc rfl zr_202 ?_
          intro b4 w4 hb4 hs4 hk4 he4
          -- store
          refine L.storeAgg (vs := [_, _]) rfl rfl rfl rfl sz_202 (hk4) rfl ?_
          intro w5 hk5 hg5 hs5
          have ho5 := (ho.ext he4).kept hg5 (.inr (own_blk_ne (ho.ext he4) hk4 (by decide)))
          have he5 : Ext w2 w5 := (he.trans he4).grw hg5 (by intro g hg; injection hg with hg; have := he.le; omega)
          have hm5 := hm2.ext he5
          obtain ⟨a, β, hlook, hβ⟩ := hm5.look thing_keyed Try.underlying200 (by kernel_rfl) (hz _) hkl
          have hβ' : β = amT lb (la.getD i d0) := by
            rw [Bool.eq_iff_iff, hβ, amT_iff, List.mem_map]
            exact ⟨fun ⟨y, hy, e⟩ => tV_inj e ▸ hy, fun h => ⟨_, h, rfl⟩⟩
          subst hβ'
          -- t38
          refine L.nil ?_
          refine J.seq ?_
          refine J.region ?_
          refine L.va rfl (X.move (by conv => lhs; whnf)) ?_
          refine L.va rfl ((by first | exact X.loadAgg rfl (range_l hk5) Try.underlying202 rfl (by kernel_rfl) | exact X.loadAgg rfl (range_blk hk5) Try.underlying202 rfl (by kernel_rfl))) ?_
          refine L.va rfl (X.lookR (b := bm) rfl rfl hlook) ?_
          refine L.va rfl (X.move (by conv => lhs; whnf)) ?_
          refine L.va rfl (X.extract rfl rfl) ?_
          refine L.va rfl (X.extract rfl rfl) ?_
          refine L.va rfl (X.assign (by conv => lhs; whnf)) ?_
          refine L.va rfl (X.assign (by conv => lhs; whnf)) ?_
          refine L.nil ?_
          refine J.seq ?_
          refine J.region ?_
          refine L.va rfl (X.move (by conv => lhs; whnf)) ?_
          refine L.va rfl (X.not rfl) ?_
          refine L.nil ?_
          -- cond
          cases hin : amT lb (la.getD i d0)
          · refine J.iteT rfl ?_
            refine J.region ?_
            refine L.va rfl (X.move (by conv => lhs; whnf)) ?_
            refine L.va rfl (X.move (by conv => lhs; whnf)) ?_
            refine L.va rfl (X.fieldAddr rfl Try.underlying202 rfl sz_9 (by decide)) ?_
            refine L.va rfl (X.load rfl sc_9 (by first | exact Ld.blk hk5 rfl)) ?_
            refine L.va rfl (X.addS rfl rfl (by omega)) ?_
            -- buildSlice
            refine L.bslice (vs := [_]) rfl (Evs.cons (by conv => lhs; whnf) Evs.nil) rfl rfl rfl rfl Try.underlying94 sz_9 zr_9 (by decide) ?_
            intro b6 w6 hb6 hs6 hk6 he6
            rw [hin] at hst
            have hst : LA (i + 1) = LA i ++ [p ++ (la.getD i d0).1] := hst
            have hzz : w2.heap.size ≤ w6.heap.size := (he5.trans he6).le
            -- append
            refine L.appendV (q := m + 1) (ys := strs (LA i) ++ strs [p ++ (la.getD i d0).1]) rfl rfl rfl Try.underlying94 el_9 (ho5.ext he6) ((blk_reads (q := 1) (l := strs [p ++ (la.getD i d0).1]) hk6 (by omega : b6 < w6.heap.size) rfl)) (by first | rfl | exact strs_ones _ | assumption) (by omega) (by simp) (by unfold maxLen; omega) (by omega) ?_
            intro A7 c7 w7 ho7 hg7 hb7 hor7
            rw [strs_append, ← hst] at ho7
            have he7 : Ext w2 w7 := (he5.trans he6).low hb7 (Nat.le_refl _)
            refine L.va rfl (X.assign (by conv => lhs; whnf)) ?_
            refine L.nil ?_
            refine J.region ?_
            refine L.va rfl (X.add rfl rfl (by omega)) ?_
            refine L.va rfl (X.move (by conv => lhs; whnf)) ?_
            refine L.nil ?_
            -- loopend
            refine ⟨(i + 1, A7, m + 1, c7), At2 (by first | rfl | exact at_int rfl (by omega) | exact at_slice rfl (by omega) | exact at_int rfl (by simp)) (by first | rfl | exact at_int rfl (by omega) | exact at_slice rfl (by omega) | exact at_int rfl (by simp)), (by (iterate 24 refine Agr.lk rfl ?_); exact Agr.lk rfl (Agr.hav rfl Agr.rfl')), ?_⟩
            exact ⟨⟨by dsimp only; omega, by dsimp only; rw [hst, List.length_append, ← hm]; rfl, ho7, he7⟩, by dsimp only; omega⟩
          · refine J.iteF rfl ?_
            rw [hin] at hst
            have hst : LA (i + 1) = LA i := by rw [hst]; exact List.append_nil _
            refine J.skip ?_
            refine J.region ?_
            refine L.va rfl (X.add rfl rfl (by omega)) ?_
            refine L.va rfl (X.move (by conv => lhs; whnf)) ?_
            refine L.nil ?_
            -- loopend
            refine ⟨(i + 1, A, m, c), At2 (by first | rfl | exact at_int rfl (by omega) | exact at_slice rfl (by omega) | exact at_int rfl (by simp)) (by first | rfl | exact at_int rfl (by omega) | exact at_slice rfl (by omega) | exact at_int rfl (by simp)), (by (iterate 16 refine Agr.lk rfl ?_); exact Agr.lk rfl (Agr.hav rfl Agr.rfl')), ?_⟩
            exact ⟨⟨by dsimp only; omega, by dsimp only; rw [hst]; exact hm, by dsimp only; rw [hst]; exact ho5, he5⟩, by dsimp only; omega⟩
        · obtain rfl : i = n1 := by dsimp only at hlt; omega
          refine J.exit ?_
          refine J.seq ?_
          refine J.region ?_
          refine L.va rfl (X.move (by conv => lhs; whnf)) ?_
          refine L.va rfl (X.assign (by conv => lhs; whnf)) ?_
          refine L.nil ?_
          -- ret
          refine J.ret ?_
          refine fin1 ?_
          rw [van] at hm ho
          subst hm
          exact ⟨A, c, rfl, ho.mono hz2, he2.trans he⟩
end Go.Proofs.Ytdmfikedojgjbaa
