/-
  What filters and queries ask, in the program and in the reference.
-/
import Derived.Test.YtmnlaekcojblkaaWQryC
import Derived.Test.YtmnlaekcojblkaaNeedPlain
import Derived.Test.YtmnlaekcojblkaaWMasks
import Derived.Laws.BitsAllLaws
namespace Go.Proofs.Ytmnlaekcojblkaa
set_option maxRecDepth 100000
open Go.RowKit H
set_option linter.unusedVariables false
namespace H
section
variable {P : Program} {w : World} {ρ : Operand → Value} {d : Option Tmp} {tx tz ty : TypeId} {x y : Operand} {pos : String} {aft : Array Edge} {g : Option (Nat × Bool)} {k ky : IntKind} {m n z : Int}
theorem X.orE (hx : ρ x = .int k m) (hy : ρ y = .int k n) (h : bits .or k m n = z) : (execOp ρ ⟨d, .binOp .or tx x y tz, ty, pos, aft, g⟩).run P w = .ok (.value (.int k z)) w := by rw [← h]; exact X.or hx hy
theorem X.shlE (hx : ρ x = .int k m) (hy : ρ y = .int ky n) (h0 : 0 ≤ n) (h : k.wrap (m * 2 ^ min n.toNat k.bits) = z) : (execOp ρ ⟨d, .binOp .shl tx x y tz, ty, pos, aft, g⟩).run P w = .ok (.value (.int k z)) w := by rw [← h]; exact X.shl hx hy h0
theorem X.addE (hx : ρ x = .int k m) (hy : ρ y = .int k n) (h : k.wrap (m + n) = z) : (execOp ρ ⟨d, .binOp .add tx x y tz, ty, pos, aft, g⟩).run P w = .ok (.value (.int k z)) w := by rw [← h]; exact X.addw hx hy
end
end H
theorem shl32 {n : Int} (h0 : 0 ≤ n) (h : n < 32) : IntKind.u32.wrap (1 * 2 ^ min n.toNat IntKind.u32.bits) = ((2 ^ n.toNat : Nat) : Int) := by
  have hp := two_pow_lt (d := n.toNat) (by omega)
  have e : min n.toNat IntKind.u32.bits = n.toNat := Nat.min_eq_left (by show n.toNat ≤ 32; omega)
  rw [e, Int.one_mul, show (2 : Int) ^ n.toNat = ((2 ^ n.toNat : Nat) : Int) by simp]
  generalize 2 ^ n.toNat = q at hp ⊢
  rw [w32 (by omega)]
theorem fneed_ (f : Fis) (w : World) (hf : f.At w.heap.size w) : Calls Try.prog 55 #[f.val] w fun e w' => e = .returned (.int .u32 ((fneed f.l : Nat) : Int)) ∧ Ext w w' := by
  have hl := hf.l
  have hm := hf.m
  unfold maxLen at hm
  refine enter Try.func55 rfl (by kernel_rfl) ?_
  refine J.seq ?_
  refine J.region ?_
  refine L.va rfl (X.assign (by conv => lhs; whnf)) ?_
  refine L.nil ?_
  refine J.seq ?_
  refine J.region ?_
  refine L.va rfl (X.assign (by conv => lhs; whnf)) ?_
  refine L.nil ?_
  refine J.seq ?_
  refine J.seq ?_
  refine J.region ?_
  refine L.va rfl (X.move (by conv => lhs; whnf)) ?_
  refine L.va rfl (X.len rfl Try.underlying71) ?_
  refine L.va rfl (X.move (by conv => lhs; whnf)) ?_
  refine L.nil ?_
  refine J.block ?_
  -- loop
  refine J.loop (X := Nat) [3, 5, 8, 9, 10, 11, 12, 13, 14, 15, 16, 17, 18, 19, 20, 21, 22, 23, 24, 25] (fun i => [(8, .int .i64 (i : Int)), (3, .int .u32 ((fneed (f.l.take i) : Nat) : Int))]) (fun i w' => i ≤ f.n ∧ Ext w w') (fun i => f.n - i) (0) (At2 (by first | rfl | exact at_int rfl (by omega) | exact at_slice rfl (by omega) | exact at_int rfl (by simp)) (by first | rfl | exact at_int rfl (by omega) | exact at_slice rfl (by omega) | exact at_int rfl (by simp))) ?_ ?_
  · exact ⟨Nat.zero_le _, Ext.refl _⟩
  · rintro i g w1 ⟨hi, he1⟩
    have z1 := he1.le
    have hf1 := hf.ext he1
    refine J.seq ?_
    refine J.region ?_
    refine L.va rfl (X.lss rfl rfl) ?_
    refine L.nil ?_
    refine J.seq ?_
    -- cond
    refine J.dec rfl (fun hlt => ?_) (fun hlt => ?_)
    · have hin : i < f.n := by omega
      have hA := hf1.r.some_ (by omega)
      obtain ⟨x, hx⟩ : ∃ x, x = f.l.getD i fi0 := ⟨_, rfl⟩
      have hgt := gtF (l := f.l) (i := i) (by omega)
      have hnx := fneed_take (l := f.l) (i := i) (by omega)
      rw [← hx] at hgt hnx
      -- t11
      refine J.skip ?_
      refine J.seq ?_
      refine J.block ?_
      refine J.seq ?_
      refine J.region ?_
      refine L.va rfl ((by first | exact X.indexAddrn rfl rfl Try.underlying71 sz_144 (by first | exact Option.some_ne_none _ | exact hA) (by omega) | exact X.indexAddr rfl rfl Try.underlying71 sz_144 (by first | exact Option.some_ne_none _ | exact hA) (by omega))) ?_
      refine L.va rfl (X.loadRow (cs := x.vs) rfl hf1.r (fun r u hu => flat_row fi_len hgt r u hu) (Nat.zero_lt_succ _) Try.underlying144 rfl (by kernel_rfl)) ?_
      -- alloc
      refine L.alloc rfl zr_144 ?_
      intro b4 w4 hb4 hs4 hk4 he4
      -- store
      refine L.storeAgg (vs := [_, _]) rfl rfl rfl rfl sz_144 (hk4) rfl ?_
      intro w5 hk5 hg5 hs5
      have he15 : Ext w1 w5 := he4.grw hg5 (by intro g hg; injection hg with hg; omega)
      have hk5 : Blk w5 b4 144 x.vs.toArray := hk5
      refine L.nil ?_
      refine J.seq ?_
      refine J.region ?_
      refine L.va rfl (X.fieldAddr rfl Try.underlying144 rfl sz_3 (by decide)) ?_
      refine L.va rfl (X.load rfl sc_3 (by first | exact Ld.blk hk5 rfl | exact hA)) ?_
      refine L.va rfl (X.geq rfl rfl) ?_
      refine L.va rfl (X.move (by conv => lhs; whnf)) ?_
      -- case t15
      refine L.caseDec (k := 15) rfl (fun h1 => ?_) (fun h1 => ?_)
      · refine L.va rfl (X.fieldAddr rfl Try.underlying144 rfl sz_3 (by decide)) ?_
        refine L.va rfl (X.load rfl sc_3 (by first | exact Ld.blk hk5 rfl | exact hA)) ?_
        refine L.va rfl (X.lss rfl rfl) ?_
        refine L.va rfl (X.pickT rfl (by conv => lhs; whnf)) ?_
        refine L.nil ?_
        -- cond
        refine J.dec rfl (fun h2 => ?_) (fun h2 => ?_)
        · have e : bits .or .u32 ((fneed (f.l.take i) : Nat) : Int) ((2 ^ x.d.toNat : Nat) : Int) = ((fneed (f.l.take (i + 1)) : Nat) : Int) := by
            rw [u32_or_nat _ _ (fneed_lt _) (two_pow_lt (by omega)), hnx]; unfold fbit; rw [if_pos ⟨h1, h2⟩]
          -- t23
          -- t24
          refine J.region ?_
          refine L.va rfl (X.move (by conv => lhs; whnf)) ?_
          refine L.va rfl (X.fieldAddr rfl Try.underlying144 rfl sz_3 (by decide)) ?_
          refine L.va rfl (X.load rfl sc_3 (by first | exact Ld.blk hk5 rfl | exact hA)) ?_
          refine L.va rfl (X.shlE rfl rfl h1 (shl32 h1 h2)) ?_
          refine L.va rfl (X.orE rfl rfl e) ?_
          refine L.va rfl (X.assign (by conv => lhs; whnf)) ?_
          refine L.nil ?_
          refine J.region ?_
          refine L.va rfl (X.add rfl rfl (by omega)) ?_
          refine L.va rfl (X.move (by conv => lhs; whnf)) ?_
          refine L.nil ?_
          -- loopend
          refine ⟨i + 1, At2 (by first | rfl | exact at_int rfl (by omega) | exact at_slice rfl (by omega) | exact at_int rfl (by simp)) (by first | rfl | exact at_int rfl (by omega) | exact at_slice rfl (by omega) | exact at_int rfl (by simp)), (by (iterate 21 refine Agr.lk rfl ?_); exact Agr.lk rfl (Agr.hav rfl Agr.rfl')), ?_⟩
          exact ⟨⟨by omega, he1.trans he15⟩, by omega⟩
        · have e : fneed (f.l.take i) = fneed (f.l.take (i + 1)) := by rw [hnx]; unfold fbit; rw [if_neg (fun h => h2 h.2), Nat.or_zero]
          refine J.skip ?_
          refine J.region ?_
          refine L.va rfl (X.add rfl rfl (by omega)) ?_
          refine L.va rfl (X.move (by conv => lhs; whnf)) ?_
          refine L.nil ?_
          -- loopend
          rw [e]
          refine ⟨i + 1, At2 (by first | rfl | exact at_int rfl (by omega) | exact at_slice rfl (by omega) | exact at_int rfl (by simp)) (by first | rfl | exact at_int rfl (by omega) | exact at_slice rfl (by omega) | exact at_int rfl (by simp)), (by (iterate 15 refine Agr.lk rfl ?_); exact Agr.lk rfl (Agr.hav rfl Agr.rfl')), ?_⟩
          exact ⟨⟨by omega, he1.trans he15⟩, by omega⟩
      · have e : fneed (f.l.take i) = fneed (f.l.take (i + 1)) := by rw [hnx]; unfold fbit; rw [if_neg (fun h => h1 h.1), Nat.or_zero]
        refine L.no rfl ?_
        refine L.no rfl ?_
        refine L.no rfl ?_
        refine L.va rfl (X.pickF rfl (by conv => lhs; whnf)) ?_
        refine L.nil ?_
        -- cond
        refine J.iteF rfl ?_
        refine J.skip ?_
        refine J.region ?_
        refine L.va rfl (X.add rfl rfl (by omega)) ?_
        refine L.va rfl (X.move (by conv => lhs; whnf)) ?_
        refine L.nil ?_
        -- loopend
        rw [e]
        refine ⟨i + 1, At2 (by first | rfl | exact at_int rfl (by omega) | exact at_slice rfl (by omega) | exact at_int rfl (by simp)) (by first | rfl | exact at_int rfl (by omega) | exact at_slice rfl (by omega) | exact at_int rfl (by simp)), (by (iterate 15 refine Agr.lk rfl ?_); exact Agr.lk rfl (Agr.hav rfl Agr.rfl')), ?_⟩
        exact ⟨⟨by omega, he1.trans he15⟩, by omega⟩
    · obtain rfl : i = f.n := by omega
      rw [List.take_of_length_le (by omega)]
      refine J.exit ?_
      refine J.seq ?_
      refine J.region ?_
      refine L.va rfl (X.move (by conv => lhs; whnf)) ?_
      refine L.va rfl (X.assign (by conv => lhs; whnf)) ?_
      refine L.nil ?_
      -- ret
      refine J.ret ?_
      refine fin1 ?_
      exact ⟨rfl, he1⟩
theorem any_take_next {l : List Fi} {i : Nat} (h : i < l.length) (p : Fi → Bool) : (l.take (i + 1)).any p = ((l.take i).any p || p (l.getD i fi0)) := by
  rw [List.take_succ_eq_append_getElem h, List.any_append, List.getD, List.getElem?_eq_getElem h]; simp
theorem rfneed_ (f : Fis) (w : World) (hf : f.At w.heap.size w) : Calls Try.prog 56 #[f.val] w fun e w' => e = .returned (.int .u32 ((fneed f.l : Nat) : Int)) ∧ w = w' := by
  have hl := hf.l
  have hm := hf.m
  have hlt32 := fneed_lt f.l
  unfold maxLen at hm
  refine enter Try.func56 rfl (by kernel_rfl) ?_
  refine J.seq ?_
  refine J.region ?_
  refine L.va rfl (X.assign (by conv => lhs; whnf)) ?_
  refine L.nil ?_
  refine J.seq ?_
  refine J.region ?_
  refine L.va rfl (X.assign (by conv => lhs; whnf)) ?_
  refine L.nil ?_
  refine J.seq ?_
  refine J.seq ?_
  refine J.region ?_
  refine L.va rfl (X.assign (by conv => lhs; whnf)) ?_
  refine L.nil ?_
  refine J.block ?_
  -- loop
  refine J.loop (X := Nat) [3, 4, 5, 6, 7, 8, 9, 10, 11, 12, 13, 14, 15, 16, 17, 18, 19, 20, 21, 22, 23, 24, 25, 26] (fun d => [(4, .int .i64 (d : Int)), (3, .int .u32 ((fneed f.l % 2 ^ d : Nat) : Int))]) (fun d w' => w' = w ∧ d ≤ 32) (fun d => 32 - d) (0) (At2 (by first | rfl | exact at_int rfl (by omega) | exact at_slice rfl (by omega) | exact at_int rfl (by simp)) (by first | rfl | exact at_int rfl (by omega) | exact at_slice rfl (by omega) | exact at_int rfl (by simp))) ?_ ?_
  · exact ⟨rfl, Nat.zero_le _⟩
  · rintro d g w1 ⟨rfl, hd⟩
    refine J.seq ?_
    refine J.seq ?_
    refine J.region ?_
    refine L.va rfl (X.move (by conv => lhs; whnf)) ?_
    refine L.va rfl (X.lss rfl rfl) ?_
    refine L.nil ?_
    -- cond
    refine J.dec rfl (fun hlt => ?_) (fun hlt => ?_)
    · have hd32 : d < 32 := by omega
      have hnx := mod_next (fneed f.l) d
      have htest := fneed_test d hd32 f.l
      have h2 := two_pow_lt hd32
      have hmd := mod_lt32 (d := d + 1) hlt32
      refine J.skip ?_
      -- until
      refine J.cut (X := Nat) [3, 5, 10, 11, 12, 13, 14, 15, 16, 17, 18, 19, 20, 21, 22, 23, 24, 25, 26] (fun d' => [(3, .int .u32 ((fneed f.l % 2 ^ (d + 1) : Nat) : Int))]) (fun d' w' => w' = w1) ?_ ?_
      · refine J.block ?_
        refine J.seq ?_
        refine J.region ?_
        refine L.va rfl (X.assign (by conv => lhs; whnf)) ?_
        refine L.nil ?_
        refine J.block ?_
        -- loop
        refine J.loop (X := Nat) [3, 5, 10, 11, 12, 13, 14, 15, 16, 17, 18, 19, 20, 21, 22, 23, 24, 25, 26] (fun i => [(5, .int .i64 (i : Int)), (3, .int .u32 ((fneed f.l % 2 ^ d : Nat) : Int))]) (fun i w' => w' = w1 ∧ i ≤ f.n ∧ ((f.l.take i).any fun f => decide (f.d = (d : Int))) = false) (fun i => f.n - i) (0) (At2 (by first | rfl | exact at_int rfl (by omega) | exact at_slice rfl (by omega) | exact at_int rfl (by simp)) (by first | rfl | exact at_int rfl (by omega) | exact at_slice rfl (by omega) | exact at_int rfl (by simp))) ?_ ?_
        · exact ⟨rfl, Nat.zero_le _, rfl⟩
        · rintro i g w2 ⟨rfl, hi, hP⟩
          refine J.seq ?_
          refine J.seq ?_
          refine J.region ?_
          refine L.va rfl (X.move (by conv => lhs; whnf)) ?_
          refine L.va rfl (X.move (by conv => lhs; whnf)) ?_
          refine L.va rfl (X.len rfl Try.underlying71) ?_
          refine L.va rfl (X.lss rfl rfl) ?_
          refine L.nil ?_
          -- cond
          refine J.dec rfl (fun hlt2 => ?_) (fun hlt2 => ?_)
          · have hin : i < f.n := by omega
            have hA := hf.r.some_ (by omega)
            have hgt := gtF (l := f.l) (i := i) (by omega)
            have han := any_take_next (l := f.l) (i := i) (by omega) fun f => decide (f.d = (d : Int))
            refine J.skip ?_
            refine J.seq ?_
            refine J.block ?_
            refine J.seq ?_
            refine J.region ?_
            refine L.va rfl (X.move (by conv => lhs; whnf)) ?_
            refine L.va rfl (X.move (by conv => lhs; whnf)) ?_
            refine L.va rfl ((by first | exact X.indexAddrn rfl rfl Try.underlying71 sz_144 (by first | exact Option.some_ne_none _ | exact hA) (by omega) | exact X.indexAddr rfl rfl Try.underlying71 sz_144 (by first | exact Option.some_ne_none _ | exact hA) (by omega))) ?_
            refine L.va rfl (X.fieldP rfl Try.underlying144 rfl sz_3 (by decide) (by first | exact Option.some_ne_none _ | exact hA)) ?_
            refine L.va rfl (X.load rfl sc_3 (by first | exact hA | exact Ld.flat2 fi_len hf.r hgt (r := 0) rfl)) ?_
            refine L.va rfl (X.move (by conv => lhs; whnf)) ?_
            refine L.va rfl (X.eql rfl rfl) ?_
            refine L.nil ?_
            -- cond
            refine J.dec rfl (fun heq => ?_) (fun heq => ?_)
            · have hany : (f.l.any fun f => decide (f.d = (d : Int))) = true := List.any_eq_true.2 ⟨_, memF (by omega : i < f.l.length), decide_eq_true heq⟩
              rw [hany] at htest
              rw [htest, if_pos rfl] at hnx
              refine J.seq ?_
              refine J.region ?_
              refine L.va rfl (X.move (by conv => lhs; whnf)) ?_
              refine L.va rfl (X.move (by conv => lhs; whnf)) ?_
              -- callfn bushel/bushelref11.Two
              refine L.call rfl en_104 rfl (rtwo_any d w2 hd32) ?_
              rintro e _ ⟨rfl, rfl⟩
              refine ⟨_, rfl, ?_⟩
              -- t26
              refine L.va rfl (X.addE rfl rfl (show IntKind.u32.wrap (((fneed f.l % 2 ^ d : Nat) : Int) + ((2 ^ d : Nat) : Int)) = ((fneed f.l % 2 ^ (d + 1) : Nat) : Int) by rw [hnx] at hmd ⊢; rw [w32 (by omega)]; omega)) ?_
              refine L.va rfl (X.assign (by conv => lhs; whnf)) ?_
              refine L.nil ?_
              refine J.exit ?_
              -- cutend
              refine ⟨0, At1 (by first | rfl | exact at_int rfl (by omega) | exact at_slice rfl (by omega) | exact at_int rfl (by simp)), (by (iterate 16 refine Agr.lk rfl ?_); refine Agr.lk rfl ?_; refine Agr.hav rfl ?_; (iterate 1 refine Agr.lk rfl ?_); exact Agr.rfl'), ?_⟩
              rfl
            · refine J.skip ?_
              refine J.region ?_
              refine L.va rfl (X.move (by conv => lhs; whnf)) ?_
              refine L.va rfl (X.add rfl rfl (by omega)) ?_
              refine L.va rfl (X.assign (by conv => lhs; whnf)) ?_
              refine L.nil ?_
              -- loopend
              refine ⟨i + 1, At2 (by first | rfl | exact at_int rfl (by omega) | exact at_slice rfl (by omega) | exact at_int rfl (by simp)) (by first | rfl | exact at_int rfl (by omega) | exact at_slice rfl (by omega) | exact at_int rfl (by simp)), (by (iterate 14 refine Agr.lk rfl ?_); exact Agr.lk rfl (Agr.hav rfl Agr.rfl')), ?_⟩
              refine ⟨⟨rfl, by omega, ?_⟩, by omega⟩
              rw [han, hP, Bool.false_or]
              exact decide_eq_false heq
          · have hany : (f.l.any fun f => decide (f.d = (d : Int))) = false := by rwa [List.take_of_length_le (by omega)] at hP
            rw [hany] at htest
            have hnx' : fneed f.l % 2 ^ d = fneed f.l % 2 ^ (d + 1) := by rw [hnx, htest]; rfl
            rw [hnx']
            refine J.exit ?_
            -- cutend
            refine ⟨0, At1 (by first | rfl | exact at_int rfl (by omega) | exact at_slice rfl (by omega) | exact at_int rfl (by simp)), (by (iterate 4 refine Agr.lk rfl ?_); refine Agr.lk rfl ?_; refine Agr.hav rfl ?_; (iterate 1 refine Agr.lk rfl ?_); exact Agr.rfl'), ?_⟩
            rfl
      · rintro d' g w2 rfl
        refine J.region ?_
        refine L.va rfl (X.move (by conv => lhs; whnf)) ?_
        refine L.va rfl (X.add rfl rfl (by omega)) ?_
        refine L.va rfl (X.assign (by conv => lhs; whnf)) ?_
        refine L.nil ?_
        -- loopend
        refine ⟨d + 1, At2 (by first | rfl | exact at_int rfl (by omega) | exact at_slice rfl (by omega) | exact at_int rfl (by simp)) (by first | rfl | exact at_int rfl (by omega) | exact at_slice rfl (by omega) | exact at_int rfl (by simp)), (by (iterate 3 refine Agr.lk rfl ?_); refine Agr.lk rfl ?_; refine Agr.hav rfl ?_; (iterate 2 refine Agr.lk rfl ?_); exact Agr.lk rfl (Agr.hav rfl Agr.rfl')), ?_⟩
        exact ⟨⟨rfl, by omega⟩, by omega⟩
    · obtain rfl : d = 32 := by omega
      rw [mod_all hlt32]
      refine J.exit ?_
      refine J.seq ?_
      refine J.region ?_
      refine L.va rfl (X.move (by conv => lhs; whnf)) ?_
      refine L.va rfl (X.assign (by conv => lhs; whnf)) ?_
      refine L.nil ?_
      -- ret
      refine J.ret ?_
      refine fin1 ?_
      exact ⟨rfl, rfl⟩
end Go.Proofs.Ytmnlaekcojblkaa
