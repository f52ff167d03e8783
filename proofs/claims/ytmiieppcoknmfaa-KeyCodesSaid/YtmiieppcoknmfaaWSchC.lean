/-
  The full set of a schema, and keys counted, in the reference.
-/
import Derived.Test.YtmiieppcoknmfaaWSchB
import Derived.Test.YtmiieppcoknmfaaWMasks
namespace Go.Proofs.Ytmiieppcoknmfaa
set_option maxRecDepth 100000
open Go.RowKit H
set_option linter.unusedVariables false
theorem rfull_any (Ad : Option Addr) (nd cd : Nat) (v1 v2 v3 : Value) (w : World) (hnd : nd < 32) :
    Calls Try.prog 19 #[.agg #[.slice Ad nd cd, v1, v2, v3]] w fun e w' => e = .returned (.int .u32 ((2 ^ nd - 1 : Nat) : Int)) ∧ Ext w w' := by
  have hp : 1 ≤ 2 ^ nd ∧ 2 ^ nd ≤ 2 ^ 31 := ⟨Nat.pow_pos (by decide), Nat.pow_le_pow_right (by decide) (by omega)⟩
  have c1 := rtwo_any nd
  generalize 2 ^ nd = p at *
  have e : IntKind.u32.wrap ((p : Int) - 1) = ((p - 1 : Nat) : Int) := by rw [w32 (by omega)]; omega
  refine enter Try.func19 rfl (by kernel_rfl) ?_
  refine J.seq ?_
  refine J.region ?_
  -- box
  refine L.boxA (l := [_, _, _, _]) rfl rfl ?_
  intro b1 w1 hb1 hs1 hk1 he1
  refine L.va rfl (X.assign (by conv => lhs; whnf)) ?_
  refine L.nil ?_
  refine J.seq ?_
  refine J.region ?_
  refine L.va rfl (X.fieldAddr rfl Try.underlying26 rfl sz_22 (by decide)) ?_
  refine L.va rfl (X.load rfl sc_22 (by first | exact Ld.blk hk1 rfl)) ?_
  refine L.va rfl (X.len rfl Try.underlying22) ?_
  -- callfn bushel/bushelref11.Two
  refine L.call rfl en_65 rfl (c1 _ hnd) ?_
  rintro e _ ⟨rfl, rfl⟩
  refine ⟨_, rfl, ?_⟩
  refine L.va rfl (X.subw rfl rfl) ?_
  refine L.va rfl (X.assign (by conv => lhs; whnf)) ?_
  refine L.nil ?_
  -- ret
  refine J.ret ?_
  refine fin1 ?_
  rw [e]
  exact ⟨rfl, he1⟩
/-- how many keys a set has -/
def kyP (ds : List (ByteArray × Int)) (m : Nat) : Nat → Int
  | 0 => 1
  | i + 1 => if m.testBit i then kyP ds m i * (ds.getD i d0).2 else kyP ds m i
theorem rkeys_any (Ad : Option Addr) (nd cd : Nat) (v1 v2 v3 : Value) (ds : List (ByteArray × Int)) (m : Nat) (w : World) (hd : Reads w w.heap.size 2 Ad nd (dimsV ds)) (hnd : nd ≤ 6) (hm : m < 4294967296) (hds : ∀ i, i < nd → 1 ≤ (ds.getD i d0).2 ∧ (ds.getD i d0).2 ≤ 4096) (hk : ∀ i, i ≤ nd → 0 ≤ kyP ds m i ∧ kyP ds m i ≤ 1099511627776) :
    Calls Try.prog 25 #[.agg #[.slice Ad nd cd, v1, v2, v3], .int .u32 (m : Int)] w fun e w' => e = .returned (.int .u64 (kyP ds m nd)) ∧ Ext w w' := by
  have hl : ds.length = nd := by have := hd.1; rw [dimsV_length] at this; omega
  refine enter Try.func25 rfl (by kernel_rfl) ?_
  refine J.seq ?_
  refine J.region ?_
  -- box
  refine L.boxA (l := [_, _, _, _]) rfl rfl ?_
  intro b1 w1 hb1 hs1 hk1 he1
  have hd1 := hd.ext he1
  refine L.va rfl (X.assign (by conv => lhs; whnf)) ?_
  refine L.nil ?_
  refine J.seq ?_
  refine J.region ?_
  refine L.va rfl (X.assign (by conv => lhs; whnf)) ?_
  refine L.nil ?_
  refine J.seq ?_
  refine J.seq ?_
  refine J.region ?_
  refine L.va rfl (X.assign (by conv => lhs; whnf)) ?_
  refine L.nil ?_
  refine J.block ?_
  -- loop
  refine J.loop (X := Nat × Int) [5, 6, 7, 8, 9, 10, 11, 12, 13, 14, 15, 16, 17, 18, 19, 20, 21, 22, 23, 24, 25] (fun x => [(6, .int .i64 (x.1 : Int)), (5, .int .u64 x.2)]) (fun x w' => w' = w1 ∧ x.1 ≤ nd ∧ x.2 = kyP ds m x.1) (fun x => nd - x.1) ((0, 1)) (At2 (by first | rfl | exact at_int rfl (by omega) | exact at_slice rfl (by omega) | exact at_int rfl (by simp)) (by first | rfl | exact at_int rfl (by omega) | exact at_slice rfl (by omega) | exact at_int rfl (by simp))) ?_ ?_
  · exact ⟨rfl, by dsimp only; omega, rfl⟩
  · rintro ⟨i, z⟩ g w2 ⟨rfl, hi, hz⟩
    dsimp only at hi hz
    have q1 : ((i, z) : Nat × Int).1 = i := rfl
    have q2 : ((i, z) : Nat × Int).2 = z := rfl
    refine J.seq ?_
    refine J.seq ?_
    refine J.region ?_
    refine L.va rfl (X.move (by conv => lhs; whnf)) ?_
    refine L.va rfl (X.fieldAddr rfl Try.underlying26 rfl sz_22 (by decide)) ?_
    refine L.va rfl (X.load rfl sc_22 (by first | exact Ld.blk hk1 rfl | exact Ld.rd hd1 (by omega))) ?_
    refine L.va rfl (X.len rfl Try.underlying22) ?_
    refine L.va rfl (X.lss rfl rfl) ?_
    refine L.nil ?_
    -- cond
    refine J.dec rfl (fun hlt => ?_) (fun hlt => ?_)
    · have hil : i < nd := by dsimp only at hlt; omega
      have hn : kyP ds m (i + 1) = if m.testBit i then kyP ds m i * (ds.getD i d0).2 else kyP ds m i := rfl
      have hb := hk (i + 1) (by omega)
      have hbd := hds i hil
      refine J.skip ?_
      refine J.seq ?_
      refine J.block ?_
      refine J.seq ?_
      refine J.region ?_
      refine L.va rfl (X.move (by conv => lhs; whnf)) ?_
      refine L.va rfl (X.move (by conv => lhs; whnf)) ?_
      -- callfn bushel/bushelref11.In
      refine L.call rfl en_20 rfl (rin_any m i _ hm (by omega)) ?_
      rintro e _ ⟨rfl, rfl⟩
      refine ⟨_, rfl, ?_⟩
      cases ht : m.testBit i
      · rw [ht] at hn
        refine L.nil ?_
        -- cond
        refine J.iteF rfl ?_
        refine J.skip ?_
        refine J.region ?_
        refine L.va rfl (X.move (by conv => lhs; whnf)) ?_
        refine L.va rfl (X.add rfl rfl (by omega)) ?_
        refine L.va rfl (X.assign (by conv => lhs; whnf)) ?_
        refine L.nil ?_
        -- loopend
        refine ⟨(i + 1, z), At2 (by first | rfl | exact at_int rfl (by omega) | exact at_slice rfl (by omega) | exact at_int rfl (by simp)) (by first | rfl | exact at_int rfl (by omega) | exact at_slice rfl (by omega) | exact at_int rfl (by simp)), (by (iterate 11 refine Agr.lk rfl ?_); exact Agr.lk rfl (Agr.hav rfl Agr.rfl')), ?_⟩
        exact ⟨⟨rfl, by dsimp only; omega, by dsimp only; rw [hn, hz]; rfl⟩, by dsimp only; omega⟩
      · rw [ht, if_pos rfl, ← hz] at hn
        rw [hn] at hb
        have hbd' : 1 ≤ (ds.getD ((i, z) : Nat × Int).1 d0).2 ∧ (ds.getD ((i, z) : Nat × Int).1 d0).2 ≤ 4096 := hbd
        have hb' : 0 ≤ ((i, z) : Nat × Int).2 * (ds.getD ((i, z) : Nat × Int).1 d0).2 ∧ ((i, z) : Nat × Int).2 * (ds.getD ((i, z) : Nat × Int).1 d0).2 ≤ 1099511627776 := hb
        -- t23
        refine L.nil ?_
        -- cond
        refine J.iteT rfl ?_
        refine J.region ?_
        refine L.va rfl (X.move (by conv => lhs; whnf)) ?_
        refine L.va rfl (X.fieldAddr rfl Try.underlying26 rfl sz_22 (by decide)) ?_
        refine L.va rfl (X.load rfl sc_22 (by first | exact Ld.blk hk1 rfl | exact Ld.rd hd1 (by omega))) ?_
        refine L.va rfl (X.move (by conv => lhs; whnf)) ?_
        refine L.va rfl ((by first | exact X.indexAddrn rfl rfl Try.underlying22 sz_40 (by first | exact Option.some_ne_none _ | exact hd1.some_ (by omega)) (by omega) | exact X.indexAddr rfl rfl Try.underlying22 sz_40 (by first | exact Option.some_ne_none _ | exact hd1.some_ (by omega)) (by omega))) ?_
        refine L.va rfl (X.fieldP rfl Try.underlying40 rfl sz_3 (by decide) (by first | exact Option.some_ne_none _ | exact hd1.some_ (by omega))) ?_
        refine L.va rfl (X.load rfl sc_3 (Ld.dimN hd1 (by omega))) ?_
        refine L.va rfl ((by first | exact X.convU rfl is_3 Try.underlying31 (by omega) | exact X.convw rfl is_3 Try.underlying31)) ?_
        refine L.va rfl (X.mulU rfl rfl (by omega)) ?_
        refine L.va rfl (X.assign (by conv => lhs; whnf)) ?_
        refine L.nil ?_
        refine J.region ?_
        refine L.va rfl (X.move (by conv => lhs; whnf)) ?_
        refine L.va rfl (X.add rfl rfl (by omega)) ?_
        refine L.va rfl (X.assign (by conv => lhs; whnf)) ?_
        refine L.nil ?_
        -- loopend
        refine ⟨(i + 1, z * (ds.getD i d0).2), At2 (by first | rfl | exact at_int rfl (by omega) | exact at_slice rfl (by omega) | exact at_int rfl (by simp)) (by first | rfl | exact at_int rfl (by omega) | exact at_slice rfl (by omega) | exact at_int rfl (by simp)), (by (iterate 21 refine Agr.lk rfl ?_); exact Agr.lk rfl (Agr.hav rfl Agr.rfl')), ?_⟩
        exact ⟨⟨rfl, by dsimp only; omega, hn.symm⟩, by dsimp only; omega⟩
    · obtain rfl : i = nd := by dsimp only at hlt; omega
      rw [← hz]
      refine J.exit ?_
      refine J.seq ?_
      refine J.region ?_
      refine L.va rfl (X.move (by conv => lhs; whnf)) ?_
      refine L.va rfl (X.assign (by conv => lhs; whnf)) ?_
      refine L.nil ?_
      -- ret
      refine J.ret ?_
      refine fin1 ?_
      exact ⟨rfl, he1⟩
end Go.Proofs.Ytmiieppcoknmfaa
