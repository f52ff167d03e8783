/-
  Keys: the key of codes in the reference, the codes of a key in the program.
-/
import Derived.Test.YtmiieppcoknmfaaWKeyA
namespace Go.Proofs.Ytmiieppcoknmfaa
set_option maxRecDepth 100000
open Go.RowKit H
set_option linter.unusedVariables false
namespace Sch
theorem Here.rof {s : Sch} {w : World} (h : s.Here w) (hc : s.code = 0) {m : Nat} (hm : m < 4294967296) (A : Option Addr) (nc cc : Nat) (cs : List Int) (hcs : Reads w w.heap.size 1 A nc (nums .i64 cs)) (hn : nc = s.nd) (hO : okO s.ds m cs s.nd = true) :
    Calls Try.prog 22 #[s.val, .int .u32 (m : Int), .slice A nc cc] w fun e w' => e = .returned (.int .u64 (kyO s.ds m cs s.nd)) ∧ Ext w w' := by
  have hle := h.hle
  obtain ⟨g0, g1⟩ := good hc
  have hl := h.len
  subst hn
  refine enter Try.func22 rfl (by kernel_rfl) ?_
  refine J.seq ?_
  refine J.region ?_
  -- box
  refine L.boxA (l := [_, _, _, _]) rfl rfl ?_
  intro b1 w1 hb1 hs1 hk1 he1
  have hd1 := h.hd.ext he1
  have hcs1 := hcs.ext he1
  refine L.va rfl (X.assign (by conv => lhs; whnf)) ?_
  refine L.nil ?_
  refine J.seq ?_
  refine J.region ?_
  refine L.va rfl (X.assign (by conv => lhs; whnf)) ?_
  refine L.nil ?_
  refine J.seq ?_
  refine J.seq ?_
  refine J.region ?_
  refine L.va rfl (X.assign (by conv => lhs; whnf)) ?_
  refine L.nil ?_
  refine J.block ?_
  -- loop
  refine J.loop (X := Nat × Int) [7, 8, 9, 10, 11, 12, 13, 14, 15, 16, 17, 18, 19, 20, 21, 22, 23, 24, 25, 26, 27, 28, 29, 30, 31, 32, 33] (fun x => [(8, .int .i64 (x.1 : Int)), (7, .int .u64 x.2)]) (fun x w' => Ext w1 w' ∧ x.1 ≤ s.nd ∧ x.2 = kyO s.ds m cs x.1) (fun x => s.nd - x.1) ((0, 0)) (At2 (by first | rfl | exact at_int rfl (by omega) | exact at_slice rfl (by omega) | exact at_int rfl (by simp)) (by first | rfl | exact at_int rfl (by omega) | exact at_slice rfl (by omega) | exact at_int rfl (by simp))) ?_ ?_
  · exact ⟨Ext.refl _, by dsimp only; omega, rfl⟩
  · rintro ⟨i, z⟩ g w3 ⟨he3, hi, hz⟩
    dsimp only at hi hz
    have q1 : ((i, z) : Nat × Int).1 = i := rfl
    have q2 : ((i, z) : Nat × Int).2 = z := rfl
    have hk3 := hk1.ext he3
    have hd3 := hd1.ext he3
    have hcs3 := hcs1.ext he3
    have he03 := he1.trans he3
    refine J.seq ?_
    refine J.seq ?_
    refine J.region ?_
    refine L.va rfl (X.move (by conv => lhs; whnf)) ?_
    refine L.va rfl (X.fieldAddr rfl Try.underlying26 rfl sz_22 (by decide)) ?_
    refine L.va rfl (X.load rfl sc_22 (by first | exact Ld.blk hk3 rfl | exact Ld.rd hd3 (by omega) | exact Ld.num hcs3 (by omega))) ?_
    refine L.va rfl (X.len rfl Try.underlying22) ?_
    refine L.va rfl (X.lss rfl rfl) ?_
    refine L.nil ?_
    -- cond
    refine J.dec rfl (fun hlt => ?_) (fun hlt => ?_)
    · have hil : i < s.nd := by dsimp only at hlt; omega
      have hOi := mono_b (okO_s s.ds m cs) (by omega : i + 1 ≤ s.nd) hO
      have hat := @okO_at s.ds m cs i hOi
      have hbz := kyO_bd g1 i (by omega) (okO_s _ _ _ _ hOi)
      have hbn := kyO_bd g1 (i + 1) (by omega) hOi
      have hbp := kyP_bd m g1 (i + 1) (by omega)
      rw [← hz] at hbz
      have hnx : kyO s.ds m cs (i + 1) = if m.testBit i then kyO s.ds m cs i * szD s.ds i + cs.getD i 0 else kyO s.ds m cs i := rfl
      have hbd : 1 ≤ szD s.ds i ∧ szD s.ds i ≤ 4096 := szD_bd g1 hil
      have hdv : (s.ds.getD i d0).2 = szD s.ds i := rfl
      have hld := fun w' (hw : Ext w3 w') => Ld.dimN (hd3.ext hw) (i := i) (by omega)
      rw [hdv] at hld
      generalize szD s.ds i = dv at *
      refine J.skip ?_
      refine J.seq ?_
      refine J.block ?_
      refine J.seq ?_
      refine J.region ?_
      refine L.va rfl (X.move (by conv => lhs; whnf)) ?_
      refine L.va rfl (X.move (by conv => lhs; whnf)) ?_
      -- callfn bushel/bushelref11.In
      refine L.call rfl en_20 rfl (rin_any m i _ hm (by omega)) ?_
      rintro e _ ⟨rfl, rfl⟩
      refine ⟨_, rfl, ?_⟩
      cases ht : m.testBit i
      · rw [ht] at hnx
        refine L.nil ?_
        -- cond
        refine J.iteF rfl ?_
        refine J.skip ?_
        refine J.region ?_
        refine L.va rfl (X.move (by conv => lhs; whnf)) ?_
        refine L.va rfl (X.add rfl rfl (by omega)) ?_
        refine L.va rfl (X.assign (by conv => lhs; whnf)) ?_
        refine L.nil ?_
        -- loopend
        refine ⟨(i + 1, z), At2 (by first | rfl | exact at_int rfl (by omega) | exact at_slice rfl (by omega) | exact at_int rfl (by simp)) (by first | rfl | exact at_int rfl (by omega) | exact at_slice rfl (by omega) | exact at_int rfl (by simp)), (by (iterate 11 refine Agr.lk rfl ?_); exact Agr.lk rfl (Agr.hav rfl Agr.rfl')), ?_⟩
        exact ⟨⟨he3, by dsimp only; omega, by dsimp only; rw [hnx, hz]; rfl⟩, by dsimp only; omega⟩
      · rw [ht, if_pos rfl, ← hz] at hnx
        rw [hnx] at hbn
        replace hat := hat ht
        have m1 : 0 ≤ ((i, z) : Nat × Int).2 * dv := Int.mul_nonneg hbz.1 (by omega)
        have m2 : ((i, z) : Nat × Int).2 * dv = z * dv := rfl
        have m3 : cs.getD ((i, z) : Nat × Int).1 0 = cs.getD i 0 := rfl
        refine L.nil ?_
        -- cond
        refine J.iteT rfl ?_
        -- draw
        -- t25
        refine J.quiet mixed (by kernel_rfl) ?_
        refine Qt.va rfl (fun w' hw => X.move (by conv => lhs; whnf)) ?_
        refine Qt.va rfl (fun w' hw => X.fieldAddr rfl Try.underlying26 rfl sz_22 (by decide)) ?_
        refine Qt.va rfl (fun w' hw => X.load rfl sc_22 (by first | exact Ld.blk (hk3.ext hw) rfl | exact Ld.rd (hd3.ext hw) (by omega) | exact Ld.num (hcs3.ext hw) (by omega))) ?_
        refine Qt.va rfl (fun w' hw => X.move (by conv => lhs; whnf)) ?_
        refine Qt.va rfl (fun w' hw => (by first | exact X.indexAddrn rfl rfl Try.underlying22 sz_40 (by first | exact Option.some_ne_none _ | exact hd3.some_ (by omega) | exact hcs3.some_ (by omega)) (by omega) | exact X.indexAddr rfl rfl Try.underlying22 sz_40 (by first | exact Option.some_ne_none _ | exact hd3.some_ (by omega) | exact hcs3.some_ (by omega)) (by omega))) ?_
        refine Qt.va rfl (fun w' hw => X.fieldP rfl Try.underlying40 rfl sz_3 (by decide) (by first | exact Option.some_ne_none _ | exact hd3.some_ (by omega) | exact hcs3.some_ (by omega))) ?_
        refine Qt.va rfl (fun w' hw => X.load rfl sc_3 (hld _ hw)) ?_
        refine Qt.va rfl (fun w' hw => (by first | exact X.convU rfl is_3 Try.underlying31 (by omega) | exact X.convw rfl is_3 Try.underlying31)) ?_
        refine Qt.va rfl (fun w' hw => X.mulU rfl rfl (by omega)) ?_
        refine Qt.va rfl (fun w' hw => X.move (by conv => lhs; whnf)) ?_
        refine Qt.va rfl (fun w' hw => X.move (by conv => lhs; whnf)) ?_
        refine Qt.va rfl (fun w' hw => (by first | exact X.index1n rfl rfl Try.underlying28 sz_3 (by first | exact Option.some_ne_none _ | exact hd3.some_ (by omega) | exact hcs3.some_ (by omega)) (by omega) | exact X.index1 rfl rfl Try.underlying28 sz_3 (by first | exact Option.some_ne_none _ | exact hd3.some_ (by omega) | exact hcs3.some_ (by omega)) (by omega))) ?_
        refine Qt.va rfl (fun w' hw => X.load rfl sc_3 (by first | exact Ld.blk (hk3.ext hw) rfl | exact Ld.rd (hd3.ext hw) (by omega) | exact Ld.num (hcs3.ext hw) (by omega))) ?_
        refine Qt.va rfl (fun w' hw => (by first | exact X.convU rfl is_3 Try.underlying31 (by omega) | exact X.convw rfl is_3 Try.underlying31)) ?_
        refine Qt.va rfl (fun w' hw => X.addU rfl rfl (by omega)) ?_
        refine Qt.va rfl (fun w' hw => X.assign (by conv => lhs; whnf)) ?_
        refine Qt.nil (fun w7 hq2 => ?_)
        replace hk3 := hk3.ext hq2
        replace hd3 := hd3.ext hq2
        replace hcs3 := hcs3.ext hq2
        refine J.region ?_
        refine L.va rfl (X.move (by conv => lhs; whnf)) ?_
        refine L.va rfl (X.add rfl rfl (by omega)) ?_
        refine L.va rfl (X.assign (by conv => lhs; whnf)) ?_
        refine L.nil ?_
        -- loopend
        refine ⟨(i + 1, z * dv + cs.getD i 0), At2 (by first | rfl | exact at_int rfl (by omega) | exact at_slice rfl (by omega) | exact at_int rfl (by simp)) (by first | rfl | exact at_int rfl (by omega) | exact at_slice rfl (by omega) | exact at_int rfl (by simp)), (by (iterate 27 refine Agr.lk rfl ?_); exact Agr.lk rfl (Agr.hav rfl Agr.rfl')), ?_⟩
        exact ⟨⟨he3.trans hq2, by dsimp only; omega, hnx.symm⟩, by dsimp only; omega⟩
    · obtain rfl : i = s.nd := by dsimp only at hlt; omega
      rw [← hz]
      refine J.exit ?_
      refine J.seq ?_
      refine J.region ?_
      refine L.va rfl (X.move (by conv => lhs; whnf)) ?_
      refine L.va rfl (X.assign (by conv => lhs; whnf)) ?_
      refine L.nil ?_
      -- ret
      refine J.ret ?_
      refine fin1 ?_
      exact ⟨rfl, he03⟩
/-- why a key has no codes -/
def coE (s : Sch) (m : Nat) (k : Int) : Int := if s.askE m ≠ 0 then s.askE m else if kyP s.ds m s.nd ≤ k then 2 else 0
/-- a key's codes, or none -/
def coL (s : Sch) (m : Nat) (k : Int) : List Int := if s.coE m k = 0 then coK s.ds m s.nd k else []
section
variable {s : Sch} {m : Nat} {k : Int}
theorem coE_a (h : s.askE m ≠ 0) : s.coE m k = s.askE m ∧ s.coL m k = [] := by
  have e : s.coE m k = s.askE m := by rw [coE, if_pos h]
  exact ⟨e, by rw [coL, e, if_neg h]⟩
theorem coE_2 (h : s.askE m = 0) (hk : kyP s.ds m s.nd ≤ k) : s.coE m k = 2 ∧ s.coL m k = [] := by
  have e : s.coE m k = 2 := by rw [coE, if_neg (fun x => x h), if_pos hk]
  exact ⟨e, by rw [coL, e, if_neg (by decide)]⟩
theorem coE_0 (h : s.askE m = 0) (hk : ¬ kyP s.ds m s.nd ≤ k) : s.coE m k = 0 ∧ s.coL m k = coK s.ds m s.nd k := by
  have e : s.coE m k = 0 := by rw [coE, if_neg (fun x => x h), if_neg hk]
  exact ⟨e, by rw [coL, if_pos e]⟩
theorem coE_ok (h : s.coE m k = 0) : s.askE m = 0 ∧ k < kyP s.ds m s.nd := by
  unfold coE at h
  split at h
  · rename_i x; exact absurd h x
  · rename_i x
    split at h
    · cases h
    · rename_i y
      exact ⟨Decidable.not_not.1 x, by omega⟩
end
/-- codes from one dimension on, those ahead of it not yet made -/
def coU (ds : List (ByteArray × Int)) (m n : Nat) (k : Int) (j : Nat) : List Int := (List.range n).map fun x => if x < j then 0 else cdK ds m n k x
theorem coU_all (ds : List (ByteArray × Int)) (m n : Nat) (k : Int) : coU ds m n k 0 = coK ds m n k := by
  unfold coU coK
  apply List.map_congr_left
  intro x _
  rw [if_neg (by omega)]
theorem coU_none (ds : List (ByteArray × Int)) (m n : Nat) (k : Int) : coU ds m n k n = List.replicate n 0 := by
  unfold coU
  apply List.ext_getElem
  · simp
  · intro i h1 h2
    simp at h1
    simp [h1]
theorem coU_next (ds : List (ByteArray × Int)) (m n : Nat) (k : Int) (j : Nat) (hj : j + 1 ≤ n) : (coU ds m n k (j + 1)).set j (cdK ds m n k j) = coU ds m n k j := by
  unfold coU
  apply List.ext_getElem
  · simp
  · intro i h1 h2
    simp at h1
    rw [List.getElem_set]
    simp only [List.getElem_map, List.getElem_range]
    split
    · rename_i e; subst e; rw [if_neg (by omega)]
    · rename_i e
      by_cases hlt : i < j
      · rw [if_pos (by omega), if_pos hlt]
      · rw [if_neg (by omega), if_neg hlt]
theorem coU_length (ds : List (ByteArray × Int)) (m n : Nat) (k : Int) (j : Nat) : (coU ds m n k j).length = n := by simp [coU]
theorem own_setN {w : World} {base e n c : Nat} {A : Option Addr} {k : IntKind} {zs ys : List Int} (h : w.ownsRow base e 1 (.slice A n c) n (nums k zs)) (hy : zs = ys) : w.ownsRow base e 1 (.slice A n c) n (nums k ys) := hy ▸ h
theorem Here.codes {s : Sch} {w : World} (h : s.Here w) {m : Nat} (hm : m < 4294967296) (k : Int) (hk : 0 ≤ k ∧ k ≤ 18446744073709551615) :
    Calls Try.prog 21 #[s.val, .int .u32 (m : Int), .int .u64 k] w fun e w' => ∃ A c, e = .returned (.tuple #[.slice A (s.coL m k).length c, .int .i64 (s.coE m k)]) ∧ w'.ownsRow w.heap.size 3 1 (.slice A (s.coL m k).length c) (s.coL m k).length (nums .i64 (s.coL m k)) ∧ Ext w w' := by
  have hle := h.hle
  have ra := @coE_a s m k
  have r2 := @coE_2 s m k
  have r0 := @coE_0 s m k
  refine enter Try.func21 rfl (by kernel_rfl) ?_
  refine J.seq ?_
  refine J.region ?_
  -- box
  refine L.boxA (l := [_, _, _, _]) rfl rfl ?_
  intro b1 w1 hb1 hs1 hk1 he1
  refine L.va rfl (X.assign (by conv => lhs; whnf)) ?_
  refine L.va rfl (X.assign (by conv => lhs; whnf)) ?_
  refine L.nil ?_
  refine J.seq ?_
  refine J.seq ?_
  refine J.region ?_
  refine L.va rfl ((by first | exact X.loadAgg rfl (range_l hk1) Try.underlying26 rfl (by kernel_rfl) | exact X.loadAgg rfl (range_blk hk1) Try.underlying26 rfl (by kernel_rfl))) ?_
  refine L.va rfl (X.move (by conv => lhs; whnf)) ?_
  -- callfn bushel/key.ask
  refine L.call rfl en_62 rfl ((h.ext he1).ask hm) ?_
  rintro e w2 ⟨rfl, he2⟩
  refine ⟨_, rfl, ?_⟩
  have he2 : Ext w1 w2 := he2
  have he02 := he1.trans he2
  replace hk1 := hk1.ext he2
  refine L.va rfl (X.assign (by conv => lhs; whnf)) ?_
  refine L.nil ?_
  refine J.seq ?_
  refine J.region ?_
  refine L.va rfl (X.move (by conv => lhs; whnf)) ?_
  refine L.va rfl (X.neq rfl rfl) ?_
  refine L.nil ?_
  -- cond
  refine J.ndec rfl (fun hA => ?_) (fun hA => ?_)
  · rw [(ra hA).1, (ra hA).2]
    refine J.seq ?_
    refine J.region ?_
    refine L.va rfl (X.move (by conv => lhs; whnf)) ?_
    refine L.va rfl (X.assign (by conv => lhs; whnf)) ?_
    refine L.va rfl (X.assign (by conv => lhs; whnf)) ?_
    refine L.nil ?_
    -- ret
    refine J.ret ?_
    refine thn_ret <| ?_
    refine fin2 ?_
    exact ⟨none, 0, rfl, own_nilN _ _ _ _, he02⟩
  · have hA0 : s.askE m = 0 := hA
    obtain ⟨hc, hF⟩ := askE_0 hA0
    obtain ⟨g0, g1⟩ := good hc
    have hl := h.len
    have hkv : s.kv m = kyP s.ds m s.nd := by rw [Sch.kv, if_pos ⟨hc, hF⟩]
    have hbp := kyP_bd m g1 s.nd (Nat.le_refl _)
    refine J.skip ?_
    refine J.seq ?_
    refine J.region ?_
    refine L.va rfl ((by first | exact X.loadAgg rfl (range_l hk1) Try.underlying26 rfl (by kernel_rfl) | exact X.loadAgg rfl (range_blk hk1) Try.underlying26 rfl (by kernel_rfl))) ?_
    refine L.va rfl (X.move (by conv => lhs; whnf)) ?_
    -- callfn bushel/schema.Keys
    refine L.call rfl en_66 rfl ((h.ext he02).keys hm) ?_
    rintro e w3 ⟨rfl, he3⟩
    refine ⟨_, rfl, ?_⟩
    have he3 : Ext w2 w3 := he3
    have he03 := he02.trans he3
    replace hk1 := hk1.ext he3
    rw [hkv]
    refine L.va rfl (X.move (by conv => lhs; whnf)) ?_
    refine L.va rfl (X.extract rfl rfl) ?_
    refine L.va rfl (X.extract rfl rfl) ?_
    refine L.va rfl (X.assign (by conv => lhs; whnf)) ?_
    refine L.va rfl (X.assign (by conv => lhs; whnf)) ?_
    refine L.nil ?_
    refine J.seq ?_
    refine J.seq ?_
    refine J.region ?_
    refine L.va rfl (X.move (by conv => lhs; whnf)) ?_
    refine L.va rfl (X.move (by conv => lhs; whnf)) ?_
    refine L.va rfl (X.geq rfl rfl) ?_
    refine L.nil ?_
    -- cond
    refine J.dec rfl (fun hge => ?_) (fun hge => ?_)
    · rw [(r2 hA0 hge).1, (r2 hA0 hge).2]
      refine J.seq ?_
      refine J.region ?_
      refine L.va rfl (X.assign (by conv => lhs; whnf)) ?_
      refine L.va rfl (X.assign (by conv => lhs; whnf)) ?_
      refine L.nil ?_
      -- ret
      refine J.ret ?_
      refine thn_ret <| ?_
      refine fin2 ?_
      exact ⟨none, 0, rfl, own_nilN _ _ _ _, he03⟩
    · rw [(r0 hA0 (by omega)).1, (r0 hA0 (by omega)).2, coK_length]
      refine J.skip ?_
      refine J.seq ?_
      refine J.region ?_
      refine L.va rfl (X.fieldAddr rfl Try.underlying26 rfl sz_22 (by decide)) ?_
      refine L.va rfl (X.load rfl sc_22 (by first | exact Ld.blk hk1 rfl)) ?_
      refine L.va rfl (X.len rfl Try.underlying22) ?_
      -- makeSlice
      refine L.make rfl rfl rfl Try.underlying28 el_3 (by omega) ?_
      intro b4 w4 hb4 hs4 hk4 he4
      rw [made_nums] at hk4
      have hz03 := he03.le
      have he04 := he03.trans he4
      have ho4 : w4.ownsRow w.heap.size 3 1 (.slice (some ⟨b4, 0, none⟩) s.nd s.nd) s.nd (nums .i64 (List.replicate s.nd 0)) := blk_own1 hk4 (by omega) (by unfold maxLen; omega) (by simp [nums])
      rw [← coU_none s.ds m s.nd k] at ho4
      replace hk1 := hk1.ext he4
      have hd4 := h.hd.ext he04
      refine L.va rfl (X.assign (by conv => lhs; whnf)) ?_
      refine L.nil ?_
      refine J.seq ?_
      refine J.seq ?_
      refine J.region ?_
      refine L.va rfl (X.fieldAddr rfl Try.underlying26 rfl sz_22 (by decide)) ?_
      refine L.va rfl (X.load rfl sc_22 (by first | exact Ld.blk hk1 rfl | exact Ld.rd hd4 (by omega))) ?_
      refine L.va rfl (X.len rfl Try.underlying22) ?_
      refine L.va rfl (X.sub rfl rfl (by omega)) ?_
      refine L.va rfl (X.assign (by conv => lhs; whnf)) ?_
      refine L.nil ?_
      refine J.block ?_
      -- loop
      refine J.loop (X := Int × Int) [2, 12, 13, 37, 38, 39, 40, 41, 42, 43, 44, 45, 46, 47, 48, 49, 50, 51, 52, 53, 54, 55, 56, 57, 58, 59, 60, 61, 62, 63, 64, 65] (fun x => [(12, .int .i64 x.1), (2, .int .u64 x.2)]) (fun x w' => -1 ≤ x.1 ∧ x.1 < s.nd ∧ x.2 = k / blw s.ds m (x.1 + 1).toNat (s.nd - (x.1 + 1).toNat) ∧ w'.ownsRow w.heap.size 3 1 (.slice (some ⟨b4, 0, none⟩) s.nd s.nd) s.nd (nums .i64 (coU s.ds m s.nd k (x.1 + 1).toNat)) ∧ Ext w w' ∧ Blk w' b1 26 #[.slice s.Ad s.nd s.cd, .slice s.A1 s.n1 s.c1, .slice s.A2 s.n2 s.c2, .slice s.Av s.nv s.cv]) (fun x => (x.1 + 1).toNat) (((s.nd : Int) - 1, k)) (At2 (by first | rfl | exact at_int rfl (by omega) | exact at_slice rfl (by omega) | exact at_int rfl (by simp)) (by first | rfl | exact at_int rfl (by omega) | exact at_slice rfl (by omega) | exact at_int rfl (by simp))) ?_ ?_
      · have e : ((s.nd : Int) - 1 + 1).toNat = s.nd := by omega
        refine ⟨by dsimp only; omega, by dsimp only; omega, ?_, ?_, he04, hk1⟩
        · dsimp only
          rw [e, Nat.sub_self, show blw s.ds m s.nd 0 = 1 from rfl, Int.ediv_one]
        · dsimp only
          rw [e]
          exact ho4
      · rintro ⟨a, q⟩ g w5 ⟨ha0, ha1, hq, ho5, he05, hk5⟩
        dsimp only at ha0 ha1 hq ho5
        have q1 : ((a, q) : Int × Int).1 = a := rfl
        have q2 : ((a, q) : Int × Int).2 = q := rfl
        have hd5 := h.hd.ext he05
        refine J.seq ?_
        refine J.seq ?_
        refine J.region ?_
        refine L.va rfl (X.move (by conv => lhs; whnf)) ?_
        refine L.va rfl (X.geq rfl rfl) ?_
        refine L.nil ?_
        -- cond
        refine J.dec rfl (fun hlt => ?_) (fun hlt => ?_)
        · have ha : 0 ≤ a := hlt
          obtain ⟨i, rfl⟩ := Int.eq_ofNat_of_zero_le ha
          have hi : i < s.nd := by omega
          have e1 : ((i : Int) + 1).toNat = i + 1 := by omega
          have e2 : ((i : Int) - 1 + 1).toNat = i := by omega
          rw [e1] at hq ho5
          have hbl := blw_pos (m := m) g1 (i + 1) (s.nd - (i + 1)) (by omega)
          have hq0 : 0 ≤ q ∧ q ≤ k := by
            rw [hq]
            exact div_le' hk.1 (by omega)
          have hbd : 1 ≤ szD s.ds i ∧ szD s.ds i ≤ 4096 := szD_bd g1 hi
          have hcd : cdK s.ds m s.nd k i = if m.testBit i then q % szD s.ds i else -1 := by rw [cdK, hq]
          have hqn : k / blw s.ds m i (s.nd - i) = if m.testBit i then q / szD s.ds i else q := by
            rw [show s.nd - i = s.nd - (i + 1) + 1 by omega, blw_head, hq]
            split
            · rw [Int.mul_comm, Int.ediv_ediv_of_nonneg (by omega)]
            · rw [Int.one_mul]
          have hnx := coU_next s.ds m s.nd k i (by omega)
          have hcl := coU_length s.ds m s.nd k (i + 1)
          have hba := bit_and (m := m) (i := i) hm (by omega)
          have hl2 : i < s.ds.length := by omega
          have hnb : some b1 ≠ Value.ownBlock (.slice (some ⟨b4, 0, none⟩) s.nd s.nd) := fun e => own_blk_ne ho5 hk5 (by decide) e.symm
          refine J.skip ?_
          refine J.seq ?_
          refine J.block ?_
          refine J.seq ?_
          refine J.region ?_
          refine L.va rfl (X.move (by conv => lhs; whnf)) ?_
          refine L.va rfl (X.move (by conv => lhs; whnf)) ?_
          refine L.va rfl ((by first | exact X.index1n rfl rfl Try.underlying28 sz_3 (by first | exact Option.some_ne_none _ | exact hd5.some_ (by omega)) (by omega) | exact X.index1 rfl rfl Try.underlying28 sz_3 (by first | exact Option.some_ne_none _ | exact hd5.some_ (by omega)) (by omega))) ?_
          -- store
          refine L.storeON rfl rfl (by conv => lhs; whnf) sz_3 (ho5) (by omega) ?_
          intro w6 ho6 hg6 hb6 hs6
          have he06 := he05.low hb6 (Nat.le_refl _)
          have hk6 := hk5.grown hg6 hnb
          have hd6 := h.hd.ext he06
          refine L.nil ?_
          refine J.seq ?_
          refine J.region ?_
          refine L.va rfl (X.move (by conv => lhs; whnf)) ?_
          refine L.va rfl (X.move (by conv => lhs; whnf)) ?_
          refine L.va rfl (X.shr rfl rfl (by omega)) ?_
          refine L.va rfl (X.and rfl rfl) ?_
          refine L.va rfl (X.eql rfl rfl) ?_
          refine L.nil ?_
          -- cond
          rw [hba]
          cases ht : m.testBit i
          · rw [ht, if_neg (by decide)] at hcd hqn
            refine J.decF rfl (by decide) ?_
            refine J.skip ?_
            refine J.region ?_
            refine L.va rfl (X.move (by conv => lhs; whnf)) ?_
            refine L.va rfl (X.sub rfl rfl (by omega)) ?_
            refine L.va rfl (X.assign (by conv => lhs; whnf)) ?_
            refine L.nil ?_
            -- loopend
            refine ⟨((i : Int) - 1, q), At2 (by first | rfl | exact at_int rfl (by omega) | exact at_slice rfl (by omega) | exact at_int rfl (by simp)) (by first | rfl | exact at_int rfl (by omega) | exact at_slice rfl (by omega) | exact at_int rfl (by simp)), (by (iterate 13 refine Agr.lk rfl ?_); exact Agr.lk rfl (Agr.hav rfl Agr.rfl')), ?_⟩
            refine ⟨⟨by dsimp only; omega, by dsimp only; omega, ?_, ?_, he06, hk6⟩, by dsimp only; omega⟩
            · dsimp only; rw [e2]; exact hqn.symm
            · dsimp only; rw [e2]; exact own_setN ho6 (by rw [← hcd]; exact hnx)
          · rw [ht, if_pos rfl] at hcd hqn
            refine J.iteT rfl ?_
            have hsz : (s.ds.getD i d0).2 = szD s.ds i := rfl
            have hld := Ld.dimN hd6 hi
            rw [hsz] at hld
            generalize szD s.ds i = dv at *
            -- t54
            refine J.seq ?_
            refine J.region ?_
            refine L.va rfl (X.fieldAddr rfl Try.underlying26 rfl sz_22 (by decide)) ?_
            refine L.va rfl (X.load rfl sc_22 (by first | exact Ld.blk hk6 rfl | exact Ld.rd hd6 (by omega))) ?_
            refine L.va rfl (X.move (by conv => lhs; whnf)) ?_
            refine L.va rfl ((by first | exact X.indexAddrn rfl rfl Try.underlying22 sz_40 (by first | exact Option.some_ne_none _ | exact hd6.some_ (by omega)) (by omega) | exact X.indexAddr rfl rfl Try.underlying22 sz_40 (by first | exact Option.some_ne_none _ | exact hd6.some_ (by omega)) (by omega))) ?_
            refine L.va rfl (X.fieldP rfl Try.underlying40 rfl sz_3 (by decide) (by first | exact Option.some_ne_none _ | exact hd6.some_ (by omega))) ?_
            refine L.va rfl (X.load rfl sc_3 hld) ?_
            refine L.va rfl ((by first | exact X.convU rfl is_3 Try.underlying31 (by omega) | exact X.convw rfl is_3 Try.underlying31)) ?_
            refine L.va rfl (X.assign (by conv => lhs; whnf)) ?_
            refine L.nil ?_
            refine J.seq ?_
            refine J.region ?_
            refine L.va rfl (X.move (by conv => lhs; whnf)) ?_
            refine L.va rfl (X.move (by conv => lhs; whnf)) ?_
            refine L.va rfl (X.move (by conv => lhs; whnf)) ?_
            refine L.va rfl (X.move (by conv => lhs; whnf)) ?_
            refine L.va rfl (X.rem rfl rfl (by omega)) ?_
            refine L.va rfl ((by first | exact X.convI rfl is_31 Try.underlying3 (by omega) | exact X.convw rfl is_31 Try.underlying3)) ?_
            refine L.va rfl ((by first | exact X.index1n rfl rfl Try.underlying28 sz_3 (by first | exact Option.some_ne_none _ | exact hd6.some_ (by omega)) (by omega) | exact X.index1 rfl rfl Try.underlying28 sz_3 (by first | exact Option.some_ne_none _ | exact hd6.some_ (by omega)) (by omega))) ?_
            -- store
            have hr0 : 0 ≤ q % dv ∧ q % dv < dv := ⟨Int.emod_nonneg _ (by omega), Int.emod_lt_of_pos _ (by omega)⟩
            have hr1 : 0 ≤ (((i : Int), q) : Int × Int).2 % dv ∧ (((i : Int), q) : Int × Int).2 % dv < dv := hr0
            refine L.storeON rfl rfl (by conv => lhs; whnf) sz_3 (ho6) (by omega) ?_
            intro w7 ho7 hg7 hb7 hs7
            have he07 := he06.low hb7 (Nat.le_refl _)
            have hk7 := hk6.grown hg7 (fun e => own_blk_ne ho6 hk6 (by decide) e.symm)
            refine L.nil ?_
            refine J.region ?_
            refine L.va rfl (X.move (by conv => lhs; whnf)) ?_
            refine L.va rfl (X.move (by conv => lhs; whnf)) ?_
            refine L.va rfl (X.quoU rfl rfl (by omega)) ?_
            refine L.va rfl (X.assign (by conv => lhs; whnf)) ?_
            refine L.nil ?_
            refine J.region ?_
            refine L.va rfl (X.move (by conv => lhs; whnf)) ?_
            refine L.va rfl (X.sub rfl rfl (by omega)) ?_
            refine L.va rfl (X.assign (by conv => lhs; whnf)) ?_
            refine L.nil ?_
            -- loopend
            refine ⟨((i : Int) - 1, q / dv), At2 (by first | rfl | exact at_int rfl (by omega) | exact at_slice rfl (by omega) | exact at_int rfl (by simp)) (by first | rfl | exact at_int rfl (by omega) | exact at_slice rfl (by omega) | exact at_int rfl (by simp)), (by (iterate 32 refine Agr.lk rfl ?_); exact Agr.lk rfl (Agr.hav rfl Agr.rfl')), ?_⟩
            refine ⟨⟨by dsimp only; omega, by dsimp only; omega, ?_, ?_, he07, hk7⟩, by dsimp only; omega⟩
            · dsimp only; rw [e2]; exact hqn.symm
            · dsimp only; rw [e2]; exact own_setN ho7 (by rw [List.set_set, ← hnx, hcd, show IntKind.i64.wrap ((((i : Int), q) : Int × Int).2 % dv) = q % dv from w64 (by omega)])
        · have ha : a = -1 := by
            have : ¬ 0 ≤ a := hlt
            omega
          subst ha
          refine J.exit ?_
          refine J.seq ?_
          refine J.region ?_
          refine L.va rfl (X.move (by conv => lhs; whnf)) ?_
          refine L.va rfl (X.assign (by conv => lhs; whnf)) ?_
          refine L.va rfl (X.assign (by conv => lhs; whnf)) ?_
          refine L.nil ?_
          -- ret
          refine J.ret ?_
          refine fin2 ?_
          rw [show ((-1 : Int) + 1).toNat = 0 by decide, coU_all] at ho5
          exact ⟨_, _, rfl, ho5, he05⟩
end Sch
end Go.Proofs.Ytmiieppcoknmfaa
