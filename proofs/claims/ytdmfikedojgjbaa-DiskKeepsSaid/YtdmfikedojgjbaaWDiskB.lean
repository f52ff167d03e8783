/-
  A disk's Read and Image.
-/
import Derived.Test.YtdmfikedojgjbaaDiskPlain
namespace Go.Proofs.Ytdmfikedojgjbaa
set_option maxRecDepth 100000
open Go.RowKit H
set_option linter.unusedVariables false
namespace Dk
variable {v : Dk} {N : Nat} {C : Nat → Prop} {w : World}
/-- a sector now -/
def now (v : Dk) (at_ : Nat) : Cell := nowI v.kp c0 v.pp at_ v.pp.length
theorem At.nowDat (h : v.At N C w) {i : Nat} (hi : i < v.kp.length) (k : Nat) (hk : k ≤ v.pp.length) : Dat w (nowI v.kp c0 v.pp i k).1 (nowI v.kp c0 v.pp i k).2 :=
  nowI_mem (p := fun x : Cell => Dat w x.1 x.2) hi h.kd (fun x hx => (h.pd x hx).2) k hk
theorem At.read_no (h : v.At N C w) (a : Int) (he : askD v.off v.kp.length a ≠ 0) : Calls Try.prog 64 #[v.ptr, .int .i64 a] w fun e w' => e = .returned (.tuple #[.slice none 0 0, .int .i64 (askD v.off v.kp.length a)]) ∧ w = w' := by
  refine enter Try.func64 rfl (by kernel_rfl) ?_
  refine J.seq ?_
  refine J.region ?_
  refine L.va rfl (X.assign (by conv => lhs; whnf)) ?_
  refine L.va rfl (X.assign (by conv => lhs; whnf)) ?_
  refine L.nil ?_
  refine J.seq ?_
  refine J.seq ?_
  refine J.region ?_
  refine L.va rfl (X.move (by conv => lhs; whnf)) ?_
  refine L.va rfl (X.move (by conv => lhs; whnf)) ?_
  -- callfn (*bushel/disk.Disk).ask
  refine L.call rfl en_66 rfl (h.ask_ a) ?_
  rintro e _ ⟨rfl, rfl⟩
  refine ⟨_, rfl, ?_⟩
  refine L.va rfl (X.assign (by conv => lhs; whnf)) ?_
  refine L.nil ?_
  refine J.seq ?_
  refine J.region ?_
  refine L.va rfl (X.move (by conv => lhs; whnf)) ?_
  refine L.va rfl (X.neq rfl rfl) ?_
  refine L.nil ?_
  -- cond
  refine J.ndecT rfl (by exact he) ?_
  refine J.seq ?_
  refine J.region ?_
  refine L.va rfl (X.move (by conv => lhs; whnf)) ?_
  refine L.va rfl (X.assign (by conv => lhs; whnf)) ?_
  refine L.va rfl (X.assign (by conv => lhs; whnf)) ?_
  refine L.nil ?_
  -- ret
  refine J.ret ?_
  refine thn_ret <| ?_
  refine fin2 ?_
  exact ⟨rfl, rfl⟩
theorem At.read_ok (h : v.At N C w) (i : Nat) (hi : i < v.kp.length) (ho : v.off = false) (hr : 0 ≤ v.rd ∧ v.rd ≤ 1000000) (hm : v.pp.length ≤ 1000000) : Calls Try.prog 64 #[v.ptr, .int .i64 (i : Int)] w fun e w' =>
    ∃ A c, e = .returned (.tuple #[.slice A 1024 c, .int .i64 0]) ∧ w'.ownsRow w.heap.size 5 1 (.slice A 1024 c) 1024 (nums .u8 (v.now i).2) ∧ At { v with rd := v.rd + 1 } N C w' ∧ Kq v.kb v.d C w w' := by
  have h1 := h.h1
  have he : askD v.off v.kp.length (i : Int) = 0 := by rw [askD, if_neg (by rw [ho]; decide), if_neg (by omega)]
  have hb := h.hb
  have k1 := h.ask_ (i : Int)
  rw [he] at k1
  have hN0 : N ≤ w.heap.size := Nat.le_of_lt (Nat.lt_of_le_of_lt h.hN hb.lt)
  refine enter Try.func64 rfl (by kernel_rfl) ?_
  refine J.seq ?_
  refine J.region ?_
  refine L.va rfl (X.assign (by conv => lhs; whnf)) ?_
  refine L.va rfl (X.assign (by conv => lhs; whnf)) ?_
  refine L.nil ?_
  refine J.seq ?_
  refine J.seq ?_
  refine J.region ?_
  refine L.va rfl (X.move (by conv => lhs; whnf)) ?_
  refine L.va rfl (X.move (by conv => lhs; whnf)) ?_
  -- callfn (*bushel/disk.Disk).ask
  refine L.call rfl en_66 rfl (k1) ?_
  rintro e _ ⟨rfl, rfl⟩
  refine ⟨_, rfl, ?_⟩
  refine L.va rfl (X.assign (by conv => lhs; whnf)) ?_
  refine L.nil ?_
  refine J.seq ?_
  refine J.region ?_
  refine L.va rfl (X.move (by conv => lhs; whnf)) ?_
  refine L.va rfl (X.neq rfl rfl) ?_
  refine L.nil ?_
  -- cond
  refine J.iteF rfl ?_
  refine J.skip ?_
  refine J.seq ?_
  refine J.region ?_
  refine L.va rfl (X.move (by conv => lhs; whnf)) ?_
  refine L.va rfl (X.nilCheck rfl) ?_
  refine L.va rfl (X.fieldAddr rfl Try.underlying58 rfl sz_3 (by decide)) ?_
  refine L.va rfl (X.load rfl sc_3 (by first | exact Ld.blk hb rfl)) ?_
  refine L.va rfl (X.add rfl rfl (by omega)) ?_
  refine L.va rfl (X.nilCheck rfl) ?_
  refine L.va rfl (X.fieldAddr rfl Try.underlying58 rfl sz_3 (by decide)) ?_
  -- store
  refine L.store rfl rfl (by conv => lhs; whnf) rfl sz_3 (hb) (by first | decide | exact Nat.le_of_ble_eq_true rfl) ?_
  intro w1 hb1 hg1 hs1
  obtain ⟨H1, q1⟩ := h.blk (v' := { v with rd := v.rd + 1 }) hg1 hb1 ⟨rfl, rfl, rfl, rfl, rfl, rfl, rfl⟩ h.hl
  have hd0 := H1.kDat hi
  obtain ⟨A0, cc0, e0, hr0⟩ := hd0.slice
  have hl0 := H1.kLd hi
  rw [e0] at hl0
  -- t28
  refine L.nil ?_
  refine J.seq ?_
  refine J.region ?_
  refine L.va rfl (X.move (by conv => lhs; whnf)) ?_
  refine L.va rfl (X.nilCheck rfl) ?_
  refine L.va rfl (X.fieldAddr rfl Try.underlying58 rfl sz_41 (by decide)) ?_
  refine L.va rfl (X.load rfl sc_41 (by first | exact Ld.blk hb1 rfl)) ?_
  refine L.va rfl (X.move (by conv => lhs; whnf)) ?_
  refine L.va rfl ((by first | exact X.index1n rfl rfl Try.underlying41 sz_30 (by first | exact Option.some_ne_none _ ) (by omega) | exact X.index1 rfl rfl Try.underlying41 sz_30 (by first | exact Option.some_ne_none _ ) (by omega))) ?_
  refine L.va rfl (X.load rfl sc_30 hl0) ?_
  refine L.va rfl (X.assign (by conv => lhs; whnf)) ?_
  refine L.nil ?_
  -- until
  refine J.cut (X := Option Addr × Nat) [7, 8, 29, 30, 31, 32, 33, 34, 35, 36, 37, 38, 39, 40, 41, 42, 43, 44, 45, 46, 47, 48, 49, 50, 51, 52, 53, 54, 55, 56] (fun x => [(7, .slice x.1 1024 x.2)]) (fun x w' => w' = w1 ∧ (v.now i).1 = .slice x.1 1024 x.2) ?_ ?_
  · refine J.seq ?_
    refine J.region ?_
    refine L.va rfl (X.move (by conv => lhs; whnf)) ?_
    refine L.va rfl (X.nilCheck rfl) ?_
    refine L.va rfl (X.fieldAddr rfl Try.underlying58 rfl sz_56 (by decide)) ?_
    refine L.va rfl (X.load rfl sc_56 (by first | exact Ld.blk hb1 rfl)) ?_
    refine L.va rfl (X.len rfl Try.underlying56) ?_
    refine L.va rfl (X.sub rfl rfl (by omega)) ?_
    refine L.va rfl (X.assign (by conv => lhs; whnf)) ?_
    refine L.nil ?_
    refine J.block ?_
    -- loop
    refine J.loop (X := Int) [7, 8, 35, 36, 37, 38, 39, 40, 41, 42, 43, 44, 45, 46, 47, 48, 49, 50, 51, 52, 53, 54, 55, 56] (fun a => [(8, .int .i64 a), (7, .slice A0 1024 cc0)]) (fun a w' => w' = w1 ∧ -1 ≤ a ∧ a < v.pp.length ∧ v.now i = nowI v.kp c0 v.pp i (a + 1).toNat) (fun a => (a + 1).toNat) (((v.pp.length : Int) - 1)) (At2 (by first | rfl | exact at_int rfl (by omega) | exact at_slice rfl (by omega) | exact at_int rfl (by simp)) (by first | rfl | exact at_int rfl (by omega) | exact at_slice rfl (by omega) | exact at_int rfl (by simp))) ?_ ?_
    · refine ⟨rfl, by omega, by omega, ?_⟩
      rw [show ((v.pp.length : Int) - 1 + 1).toNat = v.pp.length by omega]
      rfl
    · rintro a g w2 ⟨rfl, ha0, ha1, hn⟩
      refine J.seq ?_
      refine J.seq ?_
      refine J.region ?_
      refine L.va rfl (X.move (by conv => lhs; whnf)) ?_
      refine L.va rfl (X.geq rfl rfl) ?_
      refine L.nil ?_
      -- cond
      refine J.dec rfl (fun hlt => ?_) (fun hlt => ?_)
      · obtain ⟨j, rfl⟩ := Int.eq_ofNat_of_zero_le (show 0 ≤ a from hlt)
        have hj : j < v.pp.length := by omega
        rw [show ((j : Int) + 1).toNat = j + 1 by omega] at hn
        have hpA : v.pA ≠ none := (show Reads w2 w2.heap.size 2 v.pA v.pp.length (pcs v.pp) from H1.pRd).some_ (by omega)
        have hl1 := H1.pLdA hj
        have hl2 := H1.pLdB hj
        have hpd := H1.pDat hj
        obtain ⟨A5, c5, e5, _⟩ := hpd.2.slice
        rw [e5] at hl2
        have hn' : v.now i = if (v.pp.getD j p0).1 = i then (v.pp.getD j p0).2 else nowI v.kp c0 v.pp i j := hn
        -- t46
        -- t56
        refine J.skip ?_
        refine J.seq ?_
        refine J.block ?_
        refine J.seq ?_
        refine J.region ?_
        refine L.va rfl (X.move (by conv => lhs; whnf)) ?_
        refine L.va rfl (X.nilCheck rfl) ?_
        refine L.va rfl (X.fieldAddr rfl Try.underlying58 rfl sz_56 (by decide)) ?_
        refine L.va rfl (X.load rfl sc_56 (by first | exact Ld.blk hb1 rfl | exact hpA)) ?_
        refine L.va rfl (X.move (by conv => lhs; whnf)) ?_
        refine L.va rfl ((by first | exact X.indexAddrn rfl rfl Try.underlying56 sz_123 (by first | exact Option.some_ne_none _ | exact hpA) (by omega) | exact X.indexAddr rfl rfl Try.underlying56 sz_123 (by first | exact Option.some_ne_none _ | exact hpA) (by omega))) ?_
        refine L.va rfl (X.fieldP rfl Try.underlying123 rfl sz_3 (by decide) (by first | exact Option.some_ne_none _ | exact hpA)) ?_
        refine L.va rfl (X.load rfl sc_3 hl1) ?_
        refine L.va rfl (X.move (by conv => lhs; whnf)) ?_
        refine L.va rfl (X.eql rfl rfl) ?_
        refine L.nil ?_
        -- cond
        refine J.dec rfl (fun heq => ?_) (fun heq => ?_)
        · have heq' : (v.pp.getD j p0).1 = i := by have h7 : ((v.pp.getD j p0).1 : Int) = (i : Int) := heq; omega
          rw [if_pos heq'] at hn'
          refine J.seq ?_
          refine J.region ?_
          refine L.va rfl (X.move (by conv => lhs; whnf)) ?_
          refine L.va rfl (X.nilCheck rfl) ?_
          refine L.va rfl (X.fieldAddr rfl Try.underlying58 rfl sz_56 (by decide)) ?_
          refine L.va rfl (X.load rfl sc_56 (by first | exact Ld.blk hb1 rfl | exact hpA)) ?_
          refine L.va rfl (X.move (by conv => lhs; whnf)) ?_
          refine L.va rfl ((by first | exact X.indexAddrn rfl rfl Try.underlying56 sz_123 (by first | exact Option.some_ne_none _ | exact hpA) (by omega) | exact X.indexAddr rfl rfl Try.underlying56 sz_123 (by first | exact Option.some_ne_none _ | exact hpA) (by omega))) ?_
          refine L.va rfl (X.fieldP rfl Try.underlying123 rfl sz_30 (by decide) (by first | exact Option.some_ne_none _ | exact hpA)) ?_
          refine L.va rfl (X.load rfl sc_30 hl2) ?_
          refine L.va rfl (X.assign (by conv => lhs; whnf)) ?_
          refine L.nil ?_
          refine J.exit ?_
          -- cutend
          refine ⟨(A5, c5), At1 (by first | rfl | exact at_int rfl (by omega) | exact at_slice rfl (by omega) | exact at_int rfl (by simp)), (by (iterate 21 refine Agr.lk rfl ?_); refine Agr.lk rfl ?_; refine Agr.hav rfl ?_; (iterate 7 refine Agr.lk rfl ?_); exact Agr.rfl'), ?_⟩
          exact ⟨rfl, by rw [hn']; exact e5⟩
        · have heq' : ¬ (v.pp.getD j p0).1 = i := by
            intro h7
            apply heq
            show ((v.pp.getD j p0).1 : Int) = (i : Int)
            omega
          rw [if_neg heq'] at hn'
          refine J.skip ?_
          refine J.region ?_
          refine L.va rfl (X.move (by conv => lhs; whnf)) ?_
          refine L.va rfl (X.sub rfl rfl (by omega)) ?_
          refine L.va rfl (X.assign (by conv => lhs; whnf)) ?_
          refine L.nil ?_
          -- loopend
          refine ⟨(j : Int) - 1, At2 (by first | rfl | exact at_int rfl (by omega) | exact at_slice rfl (by omega) | exact at_int rfl (by simp)) (by first | rfl | exact at_int rfl (by omega) | exact at_slice rfl (by omega) | exact at_int rfl (by simp)), (by (iterate 15 refine Agr.lk rfl ?_); exact Agr.lk rfl (Agr.hav rfl Agr.rfl')), ?_⟩
          refine ⟨⟨rfl, by omega, by omega, ?_⟩, by omega⟩
          rw [show ((j : Int) - 1 + 1).toNat = j by omega]
          exact hn'
      · have ha : a = -1 := by
          have : ¬ 0 ≤ a := hlt
          omega
        subst ha
        refine J.exit ?_
        -- cutend
        refine ⟨(A0, cc0), At1 (by first | rfl | exact at_int rfl (by omega) | exact at_slice rfl (by omega) | exact at_int rfl (by simp)), (by (iterate 2 refine Agr.lk rfl ?_); refine Agr.lk rfl ?_; refine Agr.hav rfl ?_; (iterate 7 refine Agr.lk rfl ?_); exact Agr.rfl'), ?_⟩
        refine ⟨rfl, ?_⟩
        rw [hn]
        exact e0
  · rintro ⟨A, c⟩ g w2 ⟨rfl, hv⟩
    have hD : Dat w2 (v.now i).1 (v.now i).2 := H1.nowDat hi _ (Nat.le_refl _)
    obtain ⟨A', c', e', hr'⟩ := hD.slice
    rw [hv] at e'
    injection e' with e1 _ e3
    subst e1 e3
    refine J.seq ?_
    refine J.region ?_
    refine L.va rfl (X.move (by conv => lhs; whnf)) ?_
    -- append
    have hz := q1.size
    refine L.appendQ (q := 1024) (ys := (v.now i).2) rfl rfl rfl Try.underlying30 el_5 (own_nilN _ w.heap.size _ _) (hr') (by omega) (by simp) (by unfold maxLen; omega) (by omega) ?_
    intro A3 c3 w3 ho3 hg3 hb3 hor3
    refine L.va rfl (X.assign (by conv => lhs; whnf)) ?_
    refine L.va rfl (X.assign (by conv => lhs; whnf)) ?_
    refine L.nil ?_
    -- ret
    refine J.ret ?_
    refine fin2 ?_
    have hE : Ext w2 w3 := grown_none hg3
    exact ⟨A3, c3, rfl, ho3, H1.ext hE, q1.trans (.of_ext hE)⟩
end Dk
end Go.Proofs.Ytdmfikedojgjbaa
