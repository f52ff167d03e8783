/-
  A disk's Flush and Crash.
-/
import Derived.Test.YtdmfikedojgjbaaWDiskC
namespace Go.Proofs.Ytdmfikedojgjbaa
set_option maxRecDepth 100000
open Go.RowKit H
set_option linter.unusedVariables false
namespace H
theorem Ld.bool {w : World} {B n : Nat} {A : Option Addr} {l : List Bool} (h : Reads w B 1 A n (l.map Value.bool)) {j : Nat} (hj : j < n) : Ld w (pA A j) (.bool (l.getD j false)) := by
  have h1 := Ld.rd h (j := j) (by omega)
  have hl : j < l.length := by have := h.1; simp at this; omega
  have : (l.map Value.bool).getD j undef = .bool (l.getD j false) := by simp [List.getD, hl]
  rwa [this] at h1
end H
namespace Dk
variable {v : Dk} {N : Nat} {C : Nat → Prop} {w : World}
theorem ask0 (h : v.At N C w) (ho : v.off = false) : askD v.off v.kp.length 0 = 0 := by
  have := h.h1
  rw [askD, if_neg (by rw [ho]; decide), if_neg (by omega)]
theorem At.flush_no (h : v.At N C w) (ho : v.off = true) : Calls Try.prog 19 #[v.ptr] w fun e w' => e = .returned (.int .i64 14) ∧ w = w' := by
  have k := h.ask_ 0
  rw [askD, if_pos ho] at k
  refine enter Try.func19 rfl (by kernel_rfl) ?_
  refine J.seq ?_
  refine J.region ?_
  refine L.va rfl (X.assign (by conv => lhs; whnf)) ?_
  refine L.nil ?_
  refine J.seq ?_
  refine J.seq ?_
  refine J.region ?_
  refine L.va rfl (X.move (by conv => lhs; whnf)) ?_
  -- callfn (*bushel/disk.Disk).ask
  refine L.call rfl en_66 rfl (k) ?_
  rintro e _ ⟨rfl, rfl⟩
  refine ⟨_, rfl, ?_⟩
  refine L.va rfl (X.assign (by conv => lhs; whnf)) ?_
  refine L.nil ?_
  refine J.seq ?_
  refine J.region ?_
  refine L.va rfl (X.move (by conv => lhs; whnf)) ?_
  refine L.va rfl (X.neq rfl rfl) ?_
  refine L.nil ?_
  -- cond
  refine J.ndecT rfl (by decide) ?_
  refine J.seq ?_
  refine J.region ?_
  refine L.va rfl (X.move (by conv => lhs; whnf)) ?_
  refine L.va rfl (X.assign (by conv => lhs; whnf)) ?_
  refine L.nil ?_
  -- ret
  refine J.ret ?_
  refine thn_ret <| ?_
  refine fin1 ?_
  exact ⟨rfl, rfl⟩
theorem At.flush_14 (h : v.At N C w) (ho : v.off = false) (h0 : v.left = 0) : Calls Try.prog 19 #[v.ptr] w fun e w' => e = .returned (.int .i64 14) ∧ At { v with off := true } N C w' ∧ Kq v.kb v.d C w w' := by
  have k := h.ask_ 0
  rw [ask0 h ho] at k
  refine enter Try.func19 rfl (by kernel_rfl) ?_
  refine J.seq ?_
  refine J.region ?_
  refine L.va rfl (X.assign (by conv => lhs; whnf)) ?_
  refine L.nil ?_
  refine J.seq ?_
  refine J.seq ?_
  refine J.region ?_
  refine L.va rfl (X.move (by conv => lhs; whnf)) ?_
  -- callfn (*bushel/disk.Disk).ask
  refine L.call rfl en_66 rfl (k) ?_
  rintro e _ ⟨rfl, rfl⟩
  refine ⟨_, rfl, ?_⟩
  refine L.va rfl (X.assign (by conv => lhs; whnf)) ?_
  refine L.nil ?_
  refine J.seq ?_
  refine J.region ?_
  refine L.va rfl (X.move (by conv => lhs; whnf)) ?_
  refine L.va rfl (X.neq rfl rfl) ?_
  refine L.nil ?_
  -- cond
  refine J.iteF rfl ?_
  refine J.skip ?_
  refine J.seq ?_
  refine J.seq ?_
  refine J.region ?_
  refine L.va rfl (X.move (by conv => lhs; whnf)) ?_
  refine L.va rfl (X.nilCheck rfl) ?_
  refine L.va rfl (X.fieldAddr rfl Try.underlying58 rfl sz_55 (by decide)) ?_
  -- callfn (*bushel/disk.power).step
  refine L.call rfl en_67 rfl (h.step_no h0) ?_
  rintro e w1 ⟨rfl, hA, hK⟩
  refine ⟨_, rfl, ?_⟩
  refine L.va rfl (X.not rfl) ?_
  refine L.nil ?_
  -- cond
  refine J.iteT rfl ?_
  refine J.seq ?_
  refine J.region ?_
  refine L.va rfl (X.assign (by conv => lhs; whnf)) ?_
  refine L.nil ?_
  -- ret
  refine J.ret ?_
  refine thn_ret <| ?_
  refine fin1 ?_
  exact ⟨rfl, hA, hK⟩
/-- which pending writes stay at a crash -/
def kpF (l : List Bool) : Nat → Bool := fun i => l.getD i false
/-- a disk some of whose first pending writes are kept, in a flush, in a crash -/
def vf (v : Dk) (i : Nat) : Dk := { v with left := dec1 v.left, fl := v.fl + 1, kp := keI (fun _ => true) v.kp c0 v.pp i }
def vc (v : Dk) (l : List Bool) (i : Nat) : Dk := { v with kp := keI (kpF l) v.kp c0 v.pp i }
theorem At.flush_ok (h : v.At N C w) (ho : v.off = false) (h0 : v.left ≠ 0) (hf : 0 ≤ v.fl ∧ v.fl ≤ 1000000) (hm : v.pp.length ≤ 1000000) : Calls Try.prog 19 #[v.ptr] w fun e w' => e = .returned (.int .i64 0) ∧ At { v with left := dec1 v.left, fl := v.fl + 1, kp := keI (fun _ => true) v.kp c0 v.pp v.pp.length, pA := none, pc := 0, pp := [] } N C w' ∧ Kq v.kb v.d C w w' := by
  have k := h.ask_ 0
  rw [ask0 h ho] at k
  refine enter Try.func19 rfl (by kernel_rfl) ?_
  refine J.seq ?_
  refine J.region ?_
  refine L.va rfl (X.assign (by conv => lhs; whnf)) ?_
  refine L.nil ?_
  refine J.seq ?_
  refine J.seq ?_
  refine J.region ?_
  refine L.va rfl (X.move (by conv => lhs; whnf)) ?_
  -- callfn (*bushel/disk.Disk).ask
  refine L.call rfl en_66 rfl (k) ?_
  rintro e _ ⟨rfl, rfl⟩
  refine ⟨_, rfl, ?_⟩
  refine L.va rfl (X.assign (by conv => lhs; whnf)) ?_
  refine L.nil ?_
  refine J.seq ?_
  refine J.region ?_
  refine L.va rfl (X.move (by conv => lhs; whnf)) ?_
  refine L.va rfl (X.neq rfl rfl) ?_
  refine L.nil ?_
  -- cond
  refine J.iteF rfl ?_
  refine J.skip ?_
  refine J.seq ?_
  refine J.seq ?_
  refine J.region ?_
  refine L.va rfl (X.move (by conv => lhs; whnf)) ?_
  refine L.va rfl (X.nilCheck rfl) ?_
  refine L.va rfl (X.fieldAddr rfl Try.underlying58 rfl sz_55 (by decide)) ?_
  -- callfn (*bushel/disk.power).step
  refine L.call rfl en_67 rfl (h.step_ok h0) ?_
  rintro e w1 ⟨rfl, hA, hK⟩
  refine ⟨_, rfl, ?_⟩
  have hK : Kq v.kb v.d C w w1 := hK
  have hb1 : Blk w1 v.d 58 #[.bool v.off, .int .i64 (dec1 v.left), .bool true, v.kept, v.pend, .int .i64 v.rd, .int .i64 v.wr, .int .i64 v.fl] := hA.hb
  refine L.va rfl (X.not rfl) ?_
  refine L.nil ?_
  -- cond
  refine J.iteF rfl ?_
  refine J.skip ?_
  refine J.seq ?_
  refine J.region ?_
  refine L.va rfl (X.move (by conv => lhs; whnf)) ?_
  refine L.va rfl (X.nilCheck rfl) ?_
  refine L.va rfl (X.fieldAddr rfl Try.underlying58 rfl sz_3 (by decide)) ?_
  refine L.va rfl (X.load rfl sc_3 (by first | exact Ld.blk hb1 rfl)) ?_
  refine L.va rfl (X.add rfl rfl (by omega)) ?_
  refine L.va rfl (X.nilCheck rfl) ?_
  refine L.va rfl (X.fieldAddr rfl Try.underlying58 rfl sz_3 (by decide)) ?_
  -- store
  refine L.store rfl rfl (by conv => lhs; whnf) rfl sz_3 (hb1) (by first | decide | exact Nat.le_of_ble_eq_true rfl) ?_
  intro w2 hb2 hg2 hs2
  obtain ⟨H2, q2⟩ := hA.blk (v' := { v with left := dec1 v.left, fl := v.fl + 1 }) hg2 hb2 ⟨rfl, rfl, rfl, rfl, rfl, rfl, rfl⟩ hA.hl
  have K2 : Kq v.kb v.d C w w2 := hK.trans q2
  have hb2' : Blk w2 v.d 58 #[.bool v.off, .int .i64 (dec1 v.left), .bool true, v.kept, v.pend, .int .i64 v.rd, .int .i64 v.wr, .int .i64 (v.fl + 1)] := H2.hb
  refine L.nil ?_
  refine J.seq ?_
  refine J.seq ?_
  refine J.region ?_
  refine L.va rfl (X.move (by conv => lhs; whnf)) ?_
  refine L.va rfl (X.nilCheck rfl) ?_
  refine L.va rfl (X.fieldAddr rfl Try.underlying58 rfl sz_56 (by decide)) ?_
  refine L.va rfl (X.load rfl sc_56 (by first | exact Ld.blk hb2' rfl)) ?_
  refine L.va rfl (X.len rfl Try.underlying56) ?_
  refine L.va rfl (X.move (by conv => lhs; whnf)) ?_
  refine L.nil ?_
  refine J.block ?_
  -- loop
  -- loop
  refine J.loop (X := Nat) [5, 28, 29, 30, 31, 32, 33, 34, 35, 36, 37, 38, 39, 40, 41] (fun i => [(28, .int .i64 (i : Int))]) (fun i w' => i ≤ v.pp.length ∧ At (vf v i) N C w' ∧ Kq v.kb v.d C w w') (fun i => v.pp.length - i) (0) (At1 (by first | rfl | exact at_int rfl (by omega) | exact at_slice rfl (by omega) | exact at_int rfl (by simp))) ?_ ?_
  · exact ⟨Nat.zero_le _, H2, K2⟩
  · rintro i g w3 ⟨hi, hA3, hK3⟩
    have hb3 : Blk w3 v.d 58 #[.bool v.off, .int .i64 (dec1 v.left), .bool true, .slice (some ⟨v.kb, 0, none⟩) (keI (fun _ => true) v.kp c0 v.pp i).length v.kc, v.pend, .int .i64 v.rd, .int .i64 v.wr, .int .i64 (v.fl + 1)] := hA3.hb
    refine J.seq ?_
    refine J.region ?_
    refine L.va rfl (X.lss rfl rfl) ?_
    refine L.nil ?_
    refine J.seq ?_
    -- cond
    refine J.dec rfl (fun hlt => ?_) (fun hlt => ?_)
    · have hil : i < v.pp.length := by omega
      have hrd : Reads w3 w3.heap.size 2 v.pA v.pp.length (pcs v.pp) := hA3.pRd
      have hpA : v.pA ≠ none := hrd.some_ (by omega)
      have hpd : (v.pp.getD i p0).1 < (keI (fun _ => true) v.kp c0 v.pp i).length ∧ Dat w3 (v.pp.getD i p0).2.1 (v.pp.getD i p0).2.2 := hA3.pDat (i := i) hil
      obtain ⟨A5, c5, e5, _⟩ := hpd.2.slice
      have hrow := pcs_row hil
      rw [e5] at hrow
      -- t31
      refine J.skip ?_
      refine J.seq ?_
      refine J.block ?_
      refine J.seq ?_
      refine J.region ?_
      refine L.va rfl ((by first | exact X.indexAddrn rfl rfl Try.underlying56 sz_123 (by first | exact Option.some_ne_none _ | exact hpA) (by omega) | exact X.indexAddr rfl rfl Try.underlying56 sz_123 (by first | exact Option.some_ne_none _ | exact hpA) (by omega))) ?_
      refine L.va rfl (X.loadRow (cs := [.int .i64 ((v.pp.getD i p0).1 : Int), .slice A5 1024 c5]) rfl hrd hrow (Nat.zero_lt_succ _) Try.underlying123 rfl (by kernel_rfl)) ?_
      -- alloc
      refine L.alloc rfl zr_123 ?_
      intro b4 w4 hb4 hs4 hk4 he4
      -- store
      refine L.storeAgg (vs := [_, _]) rfl rfl rfl rfl sz_123 (hk4) rfl ?_
      intro w5 hk5 hg5 hs5
      have he35 : Ext w3 w5 := he4.grw hg5 (by intro g hg; injection hg with hg; omega)
      have H5 := hA3.ext he35
      have K5 := hK3.trans (.of_ext he35)
      have hb5 := hb3.ext he35
      have hD5 : Dat w5 (v.pp.getD i p0).2.1 (v.pp.getD i p0).2.2 := hpd.2.kq hA3 (.of_ext he35)
      generalize hat : (v.pp.getD i p0).1 = at_ at *
      refine L.nil ?_
      -- draw
      refine J.draw (ℓ := 9) (S := Ext w5) mixed (fun w6 hS hS_h => ?_)
      refine D.va 0 rfl (by kernel_rfl) (fun _ _ _ h => h) rfl (fun w' hw => X.move (by conv => lhs; whnf)) hS ?_
      refine D.va 1 rfl (by kernel_rfl) (fun _ _ _ h => h) rfl (fun w' hw => X.nilCheck rfl) hS ?_
      refine D.va 2 rfl (by kernel_rfl) (fun _ _ _ h => h) rfl (fun w' hw => X.fieldAddr rfl Try.underlying58 rfl sz_41 (by decide)) hS ?_
      refine D.va 3 rfl (by kernel_rfl) (fun _ _ _ h => h) rfl (fun w' hw => X.load rfl sc_41 (by first | exact Ld.blk (hb5.ext hw) rfl | exact Ld.blk (hk5.ext hw) rfl | exact hpA)) hS ?_
      refine D.va 4 rfl (by kernel_rfl) (fun _ _ _ h => h) rfl (fun w' hw => X.fieldAddr rfl Try.underlying123 rfl sz_3 (by decide)) hS ?_
      refine D.va 5 rfl (by kernel_rfl) (fun _ _ _ h => h) rfl (fun w' hw => X.load rfl sc_3 (by first | exact Ld.blk (hb5.ext hw) rfl | exact Ld.blk (hk5.ext hw) rfl | exact hpA)) hS ?_
      refine D.va 6 rfl (by kernel_rfl) (fun _ _ _ h => h) rfl (fun w' hw => X.fieldAddr rfl Try.underlying123 rfl sz_30 (by decide)) hS ?_
      refine D.va 7 rfl (by kernel_rfl) (fun _ _ _ h => h) rfl (fun w' hw => X.load rfl sc_30 (by first | exact Ld.blk (hb5.ext hw) rfl | exact Ld.blk (hk5.ext hw) rfl | exact hpA)) hS ?_
      refine D.va 8 rfl (by kernel_rfl) (fun _ _ _ h => h) rfl (fun w' hw => (by first | exact X.index1n rfl rfl Try.underlying41 sz_30 (by first | exact Option.some_ne_none _ | exact hpA) (by omega) | exact X.index1 rfl rfl Try.underlying41 sz_30 (by first | exact Option.some_ne_none _ | exact hpA) (by omega))) hS ?_
      -- store
      have H6 := H5.ext hS
      have hk6 : w6.ownsRow N 30 1 (.slice (some ⟨v.kb, 0, none⟩) (keI (fun _ => true) v.kp c0 v.pp i).length v.kc) (keI (fun _ => true) v.kp c0 v.pp i).length ((keI (fun _ => true) v.kp c0 v.pp i).map (·.1)) := H6.hk
      have hD6 : Dat w6 (v.pp.getD i p0).2.1 (v.pp.getD i p0).2.2 := hD5.kq H5 (.of_ext hS)
      refine D.one 9 (by kernel_rfl) rfl ?_
      refine L.storeO rfl rfl (by conv => lhs; whnf) rfl sz_30 (hk6) (by omega) ?_
      intro w7 ho7 hg7 hb7 hs7
      refine L.nil ?_
      refine ⟨fun h => absurd rfl h, ?_⟩
      have hS7 := H6.setk (i := at_) (x := (v.pp.getD i p0).2) hD6 (by rw [e5]; exact ho7) hg7
      refine D.done (by kernel_rfl) ?_
      replace hb5 := hb5.ext hS
      replace hk5 := hk5.ext hS
      refine J.region ?_
      refine L.va rfl (X.add rfl rfl (by omega)) ?_
      refine L.va rfl (X.move (by conv => lhs; whnf)) ?_
      refine L.nil ?_
      -- loopend
      refine ⟨i + 1, At1 (by first | rfl | exact at_int rfl (by omega) | exact at_slice rfl (by omega) | exact at_int rfl (by simp)), (by (iterate 15 refine Agr.lk rfl ?_); exact Agr.lk rfl (Agr.hav rfl Agr.rfl')), ?_⟩
      refine ⟨⟨by omega, ?_, (K5.trans (.of_ext hS)).trans hS7.2⟩, by omega⟩
      have e : keI (fun _ => true) v.kp c0 v.pp (i + 1) = (keI (fun _ => true) v.kp c0 v.pp i).set at_ (v.pp.getD i p0).2 := by rw [← hat]; exact rfl
      show At (vf v (i + 1)) N C w7
      unfold vf
      rw [e]
      exact hS7.1
    · obtain rfl : i = v.pp.length := by omega
      refine J.exit ?_
      refine J.seq ?_
      refine J.region ?_
      refine L.va rfl (X.move (by conv => lhs; whnf)) ?_
      refine L.va rfl (X.nilCheck rfl) ?_
      refine L.va rfl (X.fieldAddr rfl Try.underlying58 rfl sz_56 (by decide)) ?_
      -- store
      refine L.store rfl rfl (by conv => lhs; whnf) rfl sz_56 (hb3) (by first | decide | exact Nat.le_of_ble_eq_true rfl) ?_
      intro w4 hb4 hg4 hs4
      have hc := hA3.clr (off' := v.off) (left' := dec1 v.left) hg4 hb4 hA3.hl
      refine L.nil ?_
      refine J.seq ?_
      refine J.region ?_
      refine L.va rfl (X.assign (by conv => lhs; whnf)) ?_
      refine L.nil ?_
      -- ret
      refine J.ret ?_
      refine fin1 ?_
      exact ⟨rfl, hc.1, hK3.trans hc.2⟩
theorem At.crash_ (h : v.At N C w) (A : Option Addr) (n c : Nat) (l : List Bool) (hr : Reads w N 1 A n (l.map Value.bool)) (hm : v.pp.length ≤ 1000000) (hn : n ≤ 1000000) : Calls Try.prog 21 #[v.ptr, .slice A n c] w fun e w' => e = .returned (.tuple #[]) ∧ At { v with off := false, left := -1, kp := keI (kpF l) v.kp c0 v.pp v.pp.length, pA := none, pc := 0, pp := [] } N C w' ∧ Kq v.kb v.d C w w' := by
  have hb1 := h.hb
  have hll : l.length = n := by have := hr.1; simpa using this
  refine enter Try.func21 rfl (by kernel_rfl) ?_
  refine J.seq ?_
  refine J.seq ?_
  refine J.region ?_
  refine L.va rfl (X.move (by conv => lhs; whnf)) ?_
  -- callfn (*bushel/disk.Disk).is
  refine L.call rfl en_68 rfl (h.is) ?_
  rintro e _ ⟨rfl, rfl⟩
  refine ⟨_, rfl, ?_⟩
  refine L.va rfl (X.not rfl) ?_
  refine L.nil ?_
  -- cond
  refine J.iteF rfl ?_
  refine J.skip ?_
  refine J.seq ?_
  refine J.seq ?_
  refine J.region ?_
  refine L.va rfl (X.move (by conv => lhs; whnf)) ?_
  refine L.va rfl (X.nilCheck rfl) ?_
  refine L.va rfl (X.fieldAddr rfl Try.underlying58 rfl sz_56 (by decide)) ?_
  refine L.va rfl (X.load rfl sc_56 (by first | exact Ld.blk hb1 rfl)) ?_
  refine L.va rfl (X.len rfl Try.underlying56) ?_
  refine L.va rfl (X.move (by conv => lhs; whnf)) ?_
  refine L.nil ?_
  refine J.block ?_
  -- loop
  -- loop
  refine J.loop (X := Nat) [4, 5, 14, 15, 16, 17, 18, 19, 20, 21, 22, 23, 24, 25, 26, 27, 28, 29, 30, 31, 32, 33, 34, 35, 36, 37, 38] (fun i => [(14, .int .i64 (i : Int))]) (fun i w' => i ≤ v.pp.length ∧ At (vc v l i) N C w' ∧ Kq v.kb v.d C w w') (fun i => v.pp.length - i) (0) (At1 (by first | rfl | exact at_int rfl (by omega) | exact at_slice rfl (by omega) | exact at_int rfl (by simp))) ?_ ?_
  · exact ⟨Nat.zero_le _, h, Kq.refl _ _ _ _⟩
  · rintro i g w3 ⟨hi, hA3, hK3⟩
    have hb3 : Blk w3 v.d 58 #[.bool v.off, .int .i64 v.left, .bool true, .slice (some ⟨v.kb, 0, none⟩) (keI (kpF l) v.kp c0 v.pp i).length v.kc, v.pend, .int .i64 v.rd, .int .i64 v.wr, .int .i64 v.fl] := hA3.hb
    refine J.seq ?_
    refine J.region ?_
    refine L.va rfl (X.lss rfl rfl) ?_
    refine L.nil ?_
    refine J.seq ?_
    -- cond
    refine J.dec rfl (fun hlt => ?_) (fun hlt => ?_)
    · have hil : i < v.pp.length := by omega
      have hrd : Reads w3 w3.heap.size 2 v.pA v.pp.length (pcs v.pp) := hA3.pRd
      have hpA : v.pA ≠ none := hrd.some_ (by omega)
      have hpd : (v.pp.getD i p0).1 < (keI (kpF l) v.kp c0 v.pp i).length ∧ Dat w3 (v.pp.getD i p0).2.1 (v.pp.getD i p0).2.2 := hA3.pDat (i := i) hil
      obtain ⟨A5, c5, e5, _⟩ := hpd.2.slice
      have hrow := pcs_row hil
      rw [e5] at hrow
      -- t18
      refine J.skip ?_
      refine J.seq ?_
      refine J.block ?_
      refine J.seq ?_
      refine J.region ?_
      refine L.va rfl (X.move (by conv => lhs; whnf)) ?_
      refine L.va rfl ((by first | exact X.indexAddrn rfl rfl Try.underlying56 sz_123 (by first | exact Option.some_ne_none _ | exact hpA) (by omega) | exact X.indexAddr rfl rfl Try.underlying56 sz_123 (by first | exact Option.some_ne_none _ | exact hpA) (by omega))) ?_
      refine L.va rfl (X.loadRow (cs := [.int .i64 ((v.pp.getD i p0).1 : Int), .slice A5 1024 c5]) rfl hrd hrow (Nat.zero_lt_succ _) Try.underlying123 rfl (by kernel_rfl)) ?_
      -- alloc
      refine L.alloc rfl zr_123 ?_
      intro b4 w4 hb4 hs4 hk4 he4
      refine L.va rfl (X.assign (by conv => lhs; whnf)) ?_
      -- store
      refine L.storeAgg (vs := [_, _]) rfl rfl rfl rfl sz_123 (hk4) rfl ?_
      intro w5 hk5 hg5 hs5
      have he35 : Ext w3 w5 := he4.grw hg5 (by intro g hg; injection hg with hg; omega)
      have H5 := hA3.ext he35
      have K5 := hK3.trans (.of_ext he35)
      have hb5 := hb3.ext he35
      have hD5 : Dat w5 (v.pp.getD i p0).2.1 (v.pp.getD i p0).2.2 := hpd.2.kq hA3 (.of_ext he35)
      generalize hat : (v.pp.getD i p0).1 = at_ at *
      refine L.nil ?_
      refine J.seq ?_
      refine J.region ?_
      refine L.va rfl (X.move (by conv => lhs; whnf)) ?_
      refine L.va rfl (X.move (by conv => lhs; whnf)) ?_
      refine L.va rfl (X.len rfl Try.underlying23) ?_
      refine L.va rfl (X.lss rfl rfl) ?_
      refine L.va rfl (X.move (by conv => lhs; whnf)) ?_
      -- case t23
      have hrl : Reads w5 N 1 A n (l.map Value.bool) := hr.low (h.below K5) (Nat.le_refl _)
      refine L.caseDec (k := 23) rfl (fun hlen => ?_) (fun hlen => ?_)
      · have hfi : kpF l i = l.getD i false := rfl
        -- t27
        refine L.va rfl (X.move (by conv => lhs; whnf)) ?_
        refine L.va rfl (X.move (by conv => lhs; whnf)) ?_
        refine L.va rfl ((by first | exact X.index1n rfl rfl Try.underlying23 sz_4 (by first | exact Option.some_ne_none _ | exact hrl.some_ (by omega) | exact hpA) (by omega) | exact X.index1 rfl rfl Try.underlying23 sz_4 (by first | exact Option.some_ne_none _ | exact hrl.some_ (by omega) | exact hpA) (by omega))) ?_
        refine L.va rfl (X.load rfl sc_4 (Ld.bool hrl (by omega))) ?_
        refine L.va rfl (X.pickT rfl (by conv => lhs; whnf)) ?_
        refine L.nil ?_
        -- cond
        cases hfl : l.getD i false
        · refine J.iteF rfl ?_
          refine J.skip ?_
          refine J.region ?_
          refine L.va rfl (X.add rfl rfl (by omega)) ?_
          refine L.va rfl (X.move (by conv => lhs; whnf)) ?_
          refine L.nil ?_
          -- loopend
          refine ⟨i + 1, At1 (by first | rfl | exact at_int rfl (by omega) | exact at_slice rfl (by omega) | exact at_int rfl (by simp)), (by (iterate 19 refine Agr.lk rfl ?_); exact Agr.lk rfl (Agr.hav rfl Agr.rfl')), ?_⟩
          refine ⟨⟨by omega, ?_, K5⟩, by omega⟩
          have e : keI (kpF l) v.kp c0 v.pp (i + 1) = keI (kpF l) v.kp c0 v.pp i := by show (if kpF l i = true then _ else _) = _; rw [hfi, hfl]; rfl
          show At (vc v l (i + 1)) N C w5
          unfold vc
          rw [e]
          exact H5
        · refine J.iteT rfl ?_
          -- draw
          refine J.draw (ℓ := 9) (S := Ext w5) mixed (fun w6 hS hS_h => ?_)
          refine D.va 0 rfl (by kernel_rfl) (fun _ _ _ h => h) rfl (fun w' hw => X.move (by conv => lhs; whnf)) hS ?_
          refine D.va 1 rfl (by kernel_rfl) (fun _ _ _ h => h) rfl (fun w' hw => X.nilCheck rfl) hS ?_
          refine D.va 2 rfl (by kernel_rfl) (fun _ _ _ h => h) rfl (fun w' hw => X.fieldAddr rfl Try.underlying58 rfl sz_41 (by decide)) hS ?_
          refine D.va 3 rfl (by kernel_rfl) (fun _ _ _ h => h) rfl (fun w' hw => X.load rfl sc_41 (by first | exact Ld.blk (hb5.ext hw) rfl | exact Ld.blk (hk5.ext hw) rfl | exact hpA)) hS ?_
          refine D.va 4 rfl (by kernel_rfl) (fun _ _ _ h => h) rfl (fun w' hw => X.fieldAddr rfl Try.underlying123 rfl sz_3 (by decide)) hS ?_
          refine D.va 5 rfl (by kernel_rfl) (fun _ _ _ h => h) rfl (fun w' hw => X.load rfl sc_3 (by first | exact Ld.blk (hb5.ext hw) rfl | exact Ld.blk (hk5.ext hw) rfl | exact hpA)) hS ?_
          refine D.va 6 rfl (by kernel_rfl) (fun _ _ _ h => h) rfl (fun w' hw => X.fieldAddr rfl Try.underlying123 rfl sz_30 (by decide)) hS ?_
          refine D.va 7 rfl (by kernel_rfl) (fun _ _ _ h => h) rfl (fun w' hw => X.load rfl sc_30 (by first | exact Ld.blk (hb5.ext hw) rfl | exact Ld.blk (hk5.ext hw) rfl | exact hpA)) hS ?_
          refine D.va 8 rfl (by kernel_rfl) (fun _ _ _ h => h) rfl (fun w' hw => (by first | exact X.index1n rfl rfl Try.underlying41 sz_30 (by first | exact Option.some_ne_none _ | exact hpA) (by omega) | exact X.index1 rfl rfl Try.underlying41 sz_30 (by first | exact Option.some_ne_none _ | exact hpA) (by omega))) hS ?_
          -- store
          have H6 := H5.ext hS
          have hk6 : w6.ownsRow N 30 1 (.slice (some ⟨v.kb, 0, none⟩) (keI (kpF l) v.kp c0 v.pp i).length v.kc) (keI (kpF l) v.kp c0 v.pp i).length ((keI (kpF l) v.kp c0 v.pp i).map (·.1)) := H6.hk
          have hD6 : Dat w6 (v.pp.getD i p0).2.1 (v.pp.getD i p0).2.2 := hD5.kq H5 (.of_ext hS)
          refine D.one 9 (by kernel_rfl) rfl ?_
          refine L.storeO rfl rfl (by conv => lhs; whnf) rfl sz_30 (hk6) (by omega) ?_
          intro w7 ho7 hg7 hb7 hs7
          refine L.nil ?_
          refine ⟨fun h => absurd rfl h, ?_⟩
          have hS7 := H6.setk (i := at_) (x := (v.pp.getD i p0).2) hD6 (by rw [e5]; exact ho7) hg7
          refine D.done (by kernel_rfl) ?_
          replace hb5 := hb5.ext hS
          replace hk5 := hk5.ext hS
          refine J.region ?_
          refine L.va rfl (X.add rfl rfl (by omega)) ?_
          refine L.va rfl (X.move (by conv => lhs; whnf)) ?_
          refine L.nil ?_
          -- loopend
          refine ⟨i + 1, At1 (by first | rfl | exact at_int rfl (by omega) | exact at_slice rfl (by omega) | exact at_int rfl (by simp)), (by (iterate 28 refine Agr.lk rfl ?_); exact Agr.lk rfl (Agr.hav rfl Agr.rfl')), ?_⟩
          refine ⟨⟨by omega, ?_, (K5.trans (.of_ext hS)).trans hS7.2⟩, by omega⟩
          have e : keI (kpF l) v.kp c0 v.pp (i + 1) = (keI (kpF l) v.kp c0 v.pp i).set at_ (v.pp.getD i p0).2 := by rw [← hat]; exact (by show (if kpF l i = true then _ else _) = _; rw [hfi, hfl]; rfl)
          show At (vc v l (i + 1)) N C w7
          unfold vc
          rw [e]
          exact hS7.1
      · have hfi : kpF l i = false := by unfold kpF; rw [List.getD, List.getElem?_eq_none (by omega)]; rfl
        refine L.no rfl ?_
        refine L.no rfl ?_
        refine L.no rfl ?_
        refine L.no rfl ?_
        refine L.va rfl (X.pickF rfl (by conv => lhs; whnf)) ?_
        refine L.nil ?_
        -- cond
        refine J.iteF rfl ?_
        refine J.skip ?_
        refine J.region ?_
        refine L.va rfl (X.add rfl rfl (by omega)) ?_
        refine L.va rfl (X.move (by conv => lhs; whnf)) ?_
        refine L.nil ?_
        -- loopend
        refine ⟨i + 1, At1 (by first | rfl | exact at_int rfl (by omega) | exact at_slice rfl (by omega) | exact at_int rfl (by simp)), (by (iterate 19 refine Agr.lk rfl ?_); exact Agr.lk rfl (Agr.hav rfl Agr.rfl')), ?_⟩
        refine ⟨⟨by omega, ?_, K5⟩, by omega⟩
        have e : keI (kpF l) v.kp c0 v.pp (i + 1) = keI (kpF l) v.kp c0 v.pp i := by show (if kpF l i = true then _ else _) = _; rw [hfi]; rfl
        show At (vc v l (i + 1)) N C w5
        unfold vc
        rw [e]
        exact H5
    · obtain rfl : i = v.pp.length := by omega
      refine J.exit ?_
      refine J.region ?_
      refine L.va rfl (X.move (by conv => lhs; whnf)) ?_
      refine L.va rfl (X.move (by conv => lhs; whnf)) ?_
      refine L.va rfl (X.build (l := [_, _]) (Evs.cons (by conv => lhs; whnf) Evs.nil) (bld_run Try.underlying55 (bp_55 Try.underlying55) zr_55 rfl)) ?_
      refine L.va rfl (X.nilCheck rfl) ?_
      refine L.va rfl (X.fieldAddr rfl Try.underlying58 rfl sz_56 (by decide)) ?_
      -- store
      refine L.store rfl rfl (by conv => lhs; whnf) rfl sz_56 (hb3) (by first | decide | exact Nat.le_of_ble_eq_true rfl) ?_
      intro w5 hb5 hg5 hs5
      refine L.va rfl (X.nilCheck rfl) ?_
      refine L.va rfl (X.fieldAddr rfl Try.underlying58 rfl sz_55 (by decide)) ?_
      -- store
      refine L.storeC (vs := [.bool false, .int .i64 (-1)]) rfl rfl rfl rfl rfl sz_55 hb5 (Nat.le_of_ble_eq_true rfl) ?_
      intro w6 hb6 hg6 hs6
      refine L.nil ?_
      -- end
      refine fin0 (.inr rfl) ?_
      have hc := hA3.clr (off' := false) (left' := -1) (grb_trans hg5 hg6) hb6 (by decide)
      exact ⟨rfl, hc.1, hK3.trans hc.2⟩
end Dk
end Go.Proofs.Ytdmfikedojgjbaa
