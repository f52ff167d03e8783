/-
  A disk's Write.
-/
import Derived.Test.YtdmfikedojgjbaaWDiskB
namespace Go.Proofs.Ytdmfikedojgjbaa
set_option maxRecDepth 100000
open Go.RowKit H
set_option linter.unusedVariables false
namespace Dk
variable {v : Dk} {N : Nat} {C : Nat → Prop} {w : World}
theorem At.write_no (h : v.At N C w) (a : Int) (A : Option Addr) (n c : Nat) (he : askD v.off v.kp.length a ≠ 0) : Calls Try.prog 63 #[v.ptr, .int .i64 a, .slice A n c] w fun e w' => e = .returned (.int .i64 (askD v.off v.kp.length a)) ∧ w = w' := by
  refine enter Try.func63 rfl (by kernel_rfl) ?_
  refine J.seq ?_
  refine J.region ?_
  refine L.va rfl (X.assign (by conv => lhs; whnf)) ?_
  refine L.nil ?_
  refine J.seq ?_
  refine J.seq ?_
  refine J.region ?_
  refine L.va rfl (X.move (by conv => lhs; whnf)) ?_
  refine L.va rfl (X.move (by conv => lhs; whnf)) ?_
  -- callfn (*bushel/disk.Disk).ask
  refine L.call rfl en_66 rfl (h.ask_ a) ?_
  rintro e _ ⟨rfl, rfl⟩
  refine ⟨_, rfl, ?_⟩
  refine L.va rfl (X.assign (by conv => lhs; whnf)) ?_
  refine L.nil ?_
  refine J.seq ?_
  refine J.region ?_
  refine L.va rfl (X.move (by conv => lhs; whnf)) ?_
  refine L.va rfl (X.neq rfl rfl) ?_
  refine L.nil ?_
  -- cond
  refine J.ndecT rfl (by exact he) ?_
  refine J.seq ?_
  refine J.region ?_
  refine L.va rfl (X.move (by conv => lhs; whnf)) ?_
  refine L.va rfl (X.assign (by conv => lhs; whnf)) ?_
  refine L.nil ?_
  -- ret
  refine J.ret ?_
  refine thn_ret <| ?_
  refine fin1 ?_
  exact ⟨rfl, rfl⟩
theorem At.write_6 (h : v.At N C w) (a : Int) (A : Option Addr) (n c : Nat) (he : askD v.off v.kp.length a = 0) (hn : n ≠ 1024) : Calls Try.prog 63 #[v.ptr, .int .i64 a, .slice A n c] w fun e w' => e = .returned (.int .i64 6) ∧ w = w' := by
  have k := h.ask_ a
  rw [he] at k
  refine enter Try.func63 rfl (by kernel_rfl) ?_
  refine J.seq ?_
  refine J.region ?_
  refine L.va rfl (X.assign (by conv => lhs; whnf)) ?_
  refine L.nil ?_
  refine J.seq ?_
  refine J.seq ?_
  refine J.region ?_
  refine L.va rfl (X.move (by conv => lhs; whnf)) ?_
  refine L.va rfl (X.move (by conv => lhs; whnf)) ?_
  -- callfn (*bushel/disk.Disk).ask
  refine L.call rfl en_66 rfl (k) ?_
  rintro e _ ⟨rfl, rfl⟩
  refine ⟨_, rfl, ?_⟩
  refine L.va rfl (X.assign (by conv => lhs; whnf)) ?_
  refine L.nil ?_
  refine J.seq ?_
  refine J.region ?_
  refine L.va rfl (X.move (by conv => lhs; whnf)) ?_
  refine L.va rfl (X.neq rfl rfl) ?_
  refine L.nil ?_
  -- cond
  refine J.iteF rfl ?_
  refine J.skip ?_
  refine J.seq ?_
  refine J.seq ?_
  refine J.region ?_
  refine L.va rfl (X.move (by conv => lhs; whnf)) ?_
  refine L.va rfl (X.len rfl Try.underlying30) ?_
  refine L.va rfl (X.neq rfl rfl) ?_
  refine L.nil ?_
  -- cond
  refine J.ndecT rfl (by omega) ?_
  refine J.seq ?_
  refine J.region ?_
  refine L.va rfl (X.assign (by conv => lhs; whnf)) ?_
  refine L.nil ?_
  -- ret
  refine J.ret ?_
  refine thn_ret <| ?_
  refine fin1 ?_
  exact ⟨rfl, rfl⟩
theorem At.step_no (h : v.At N C w) (h0 : v.left = 0) : Calls Try.prog 67 #[v.ptr] w fun e w' => e = .returned (.bool false) ∧ At { v with off := true } N C w' ∧ Kq v.kb v.d C w w' :=
  (step_any h.hb h.hl).mono fun e w' ⟨he, hg, hb⟩ => by
    rw [if_pos h0, if_neg (by omega)] at hb
    exact ⟨by rw [he]; simp [h0], h.blk (v' := { v with off := true }) hg hb ⟨rfl, rfl, rfl, rfl, rfl, rfl, rfl⟩ h.hl⟩
/-- a step less -/
def dec1 (l : Int) : Int := if 0 < l then l - 1 else l
theorem At.step_ok (h : v.At N C w) (h0 : v.left ≠ 0) : Calls Try.prog 67 #[v.ptr] w fun e w' => e = .returned (.bool true) ∧ At { v with left := dec1 v.left } N C w' ∧ Kq v.kb v.d C w w' :=
  (step_any h.hb h.hl).mono fun e w' ⟨he, hg, hb⟩ => by
    rw [if_neg h0] at hb
    exact ⟨by rw [he]; simp [h0], h.blk (v' := { v with left := dec1 v.left }) hg hb ⟨rfl, rfl, rfl, rfl, rfl, rfl, rfl⟩ (by
      have := h.hl
      show -1 ≤ dec1 v.left ∧ dec1 v.left ≤ 9223372036854775807
      unfold dec1
      split <;> omega)⟩
theorem At.write_14 (h : v.At N C w) (a : Int) (A : Option Addr) (c : Nat) (he : askD v.off v.kp.length a = 0) (h0 : v.left = 0) : Calls Try.prog 63 #[v.ptr, .int .i64 a, .slice A 1024 c] w fun e w' => e = .returned (.int .i64 14) ∧ At { v with off := true } N C w' ∧ Kq v.kb v.d C w w' := by
  have k := h.ask_ a
  rw [he] at k
  refine enter Try.func63 rfl (by kernel_rfl) ?_
  refine J.seq ?_
  refine J.region ?_
  refine L.va rfl (X.assign (by conv => lhs; whnf)) ?_
  refine L.nil ?_
  refine J.seq ?_
  refine J.seq ?_
  refine J.region ?_
  refine L.va rfl (X.move (by conv => lhs; whnf)) ?_
  refine L.va rfl (X.move (by conv => lhs; whnf)) ?_
  -- callfn (*bushel/disk.Disk).ask
  refine L.call rfl en_66 rfl (k) ?_
  rintro e _ ⟨rfl, rfl⟩
  refine ⟨_, rfl, ?_⟩
  refine L.va rfl (X.assign (by conv => lhs; whnf)) ?_
  refine L.nil ?_
  refine J.seq ?_
  refine J.region ?_
  refine L.va rfl (X.move (by conv => lhs; whnf)) ?_
  refine L.va rfl (X.neq rfl rfl) ?_
  refine L.nil ?_
  -- cond
  refine J.iteF rfl ?_
  refine J.skip ?_
  refine J.seq ?_
  refine J.seq ?_
  refine J.region ?_
  refine L.va rfl (X.move (by conv => lhs; whnf)) ?_
  refine L.va rfl (X.len rfl Try.underlying30) ?_
  refine L.va rfl (X.neq rfl rfl) ?_
  refine L.nil ?_
  -- cond
  refine J.iteF rfl ?_
  refine J.skip ?_
  refine J.seq ?_
  refine J.seq ?_
  refine J.region ?_
  refine L.va rfl (X.move (by conv => lhs; whnf)) ?_
  refine L.va rfl (X.nilCheck rfl) ?_
  refine L.va rfl (X.fieldAddr rfl Try.underlying58 rfl sz_55 (by decide)) ?_
  -- callfn (*bushel/disk.power).step
  refine L.call rfl en_67 rfl (h.step_no h0) ?_
  rintro e w1 ⟨rfl, hA, hK⟩
  refine ⟨_, rfl, ?_⟩
  refine L.va rfl (X.not rfl) ?_
  refine L.nil ?_
  -- cond
  refine J.iteT rfl ?_
  refine J.seq ?_
  refine J.region ?_
  refine L.va rfl (X.assign (by conv => lhs; whnf)) ?_
  refine L.nil ?_
  -- ret
  refine J.ret ?_
  refine thn_ret <| ?_
  refine fin1 ?_
  exact ⟨rfl, hA, hK⟩
theorem At.write_ok (h : v.At N C w) (i : Nat) (hi : i < v.kp.length) (ho : v.off = false) (A : Option Addr) (c : Nat) (zs : List Int) (hr : Reads w w.heap.size 1 A 1024 (nums .u8 zs)) (hr0 : ∀ w', Kq v.kb v.d C w w' → Reads w' w'.heap.size 1 A 1024 (nums .u8 zs)) (h0 : v.left ≠ 0) (hw : 0 ≤ v.wr ∧ v.wr ≤ 1000000) (hm : v.pp.length ≤ 1000000) :
    Calls Try.prog 63 #[v.ptr, .int .i64 (i : Int), .slice A 1024 c] w fun e w' => ∃ A' c' x, e = .returned (.int .i64 0) ∧ At { v with left := dec1 v.left, wr := v.wr + 1, pA := A', pc := c', pp := v.pp ++ [(i, (x, zs))] } N C w' ∧ Kq v.kb v.d C w w' := by
  have he : askD v.off v.kp.length (i : Int) = 0 := by rw [askD, if_neg (by rw [ho]; decide), if_neg (by omega)]
  have k := h.ask_ (i : Int)
  rw [he] at k
  refine enter Try.func63 rfl (by kernel_rfl) ?_
  refine J.seq ?_
  refine J.region ?_
  refine L.va rfl (X.assign (by conv => lhs; whnf)) ?_
  refine L.nil ?_
  refine J.seq ?_
  refine J.seq ?_
  refine J.region ?_
  refine L.va rfl (X.move (by conv => lhs; whnf)) ?_
  refine L.va rfl (X.move (by conv => lhs; whnf)) ?_
  -- callfn (*bushel/disk.Disk).ask
  refine L.call rfl en_66 rfl (k) ?_
  rintro e _ ⟨rfl, rfl⟩
  refine ⟨_, rfl, ?_⟩
  refine L.va rfl (X.assign (by conv => lhs; whnf)) ?_
  refine L.nil ?_
  refine J.seq ?_
  refine J.region ?_
  refine L.va rfl (X.move (by conv => lhs; whnf)) ?_
  refine L.va rfl (X.neq rfl rfl) ?_
  refine L.nil ?_
  -- cond
  refine J.iteF rfl ?_
  refine J.skip ?_
  refine J.seq ?_
  refine J.seq ?_
  refine J.region ?_
  refine L.va rfl (X.move (by conv => lhs; whnf)) ?_
  refine L.va rfl (X.len rfl Try.underlying30) ?_
  refine L.va rfl (X.neq rfl rfl) ?_
  refine L.nil ?_
  -- cond
  refine J.iteF rfl ?_
  refine J.skip ?_
  refine J.seq ?_
  refine J.seq ?_
  refine J.region ?_
  refine L.va rfl (X.move (by conv => lhs; whnf)) ?_
  refine L.va rfl (X.nilCheck rfl) ?_
  refine L.va rfl (X.fieldAddr rfl Try.underlying58 rfl sz_55 (by decide)) ?_
  -- callfn (*bushel/disk.power).step
  refine L.call rfl en_67 rfl (h.step_ok h0) ?_
  rintro e w1 ⟨rfl, hA, hK⟩
  refine ⟨_, rfl, ?_⟩
  have hK : Kq v.kb v.d C w w1 := hK
  have hb1 : Blk w1 v.d 58 #[.bool v.off, .int .i64 (dec1 v.left), .bool true, v.kept, v.pend, .int .i64 v.rd, .int .i64 v.wr, .int .i64 v.fl] := hA.hb
  refine L.va rfl (X.not rfl) ?_
  refine L.nil ?_
  -- cond
  refine J.iteF rfl ?_
  refine J.skip ?_
  refine J.seq ?_
  refine J.region ?_
  refine L.va rfl (X.move (by conv => lhs; whnf)) ?_
  refine L.va rfl (X.nilCheck rfl) ?_
  refine L.va rfl (X.fieldAddr rfl Try.underlying58 rfl sz_3 (by decide)) ?_
  refine L.va rfl (X.load rfl sc_3 (by first | exact Ld.blk hb1 rfl)) ?_
  refine L.va rfl (X.add rfl rfl (by omega)) ?_
  refine L.va rfl (X.nilCheck rfl) ?_
  refine L.va rfl (X.fieldAddr rfl Try.underlying58 rfl sz_3 (by decide)) ?_
  -- store
  refine L.store rfl rfl (by conv => lhs; whnf) rfl sz_3 (hb1) (by first | decide | exact Nat.le_of_ble_eq_true rfl) ?_
  intro w2 hb2 hg2 hs2
  obtain ⟨H2, q2⟩ := hA.blk (v' := { v with left := dec1 v.left, wr := v.wr + 1 }) hg2 hb2 ⟨rfl, rfl, rfl, rfl, rfl, rfl, rfl⟩ hA.hl
  have K2 : Kq v.kb v.d C w w2 := hK.trans q2
  refine L.nil ?_
  refine J.seq ?_
  -- draw
  refine J.draw (ℓ := 13) (S := (fun w' => Blk w' v.d 58 #[.bool v.off, .int .i64 (dec1 v.left), .bool true, v.kept, v.pend, .int .i64 v.rd, .int .i64 (v.wr + 1), .int .i64 v.fl])) mixed (fun w3 hSE hS_h => ?_)
  have hS : ((fun w' => Blk w' v.d 58 #[.bool v.off, .int .i64 (dec1 v.left), .bool true, v.kept, v.pend, .int .i64 v.rd, .int .i64 (v.wr + 1), .int .i64 v.fl])) w3 := hb2.ext hSE
  -- t33
  refine D.va 0 rfl (by kernel_rfl) (fun _ _ _ h => h) rfl (fun w' hw => X.move (by conv => lhs; whnf)) hS ?_
  refine D.va 1 rfl (by kernel_rfl) (fun _ _ _ h => h) rfl (fun w' hw => X.move (by conv => lhs; whnf)) hS ?_
  refine D.va 2 rfl (by kernel_rfl) (fun _ _ _ h => h) rfl (fun w' hw => X.nilCheck rfl) hS ?_
  refine D.va 3 rfl (by kernel_rfl) (fun _ _ _ h => h) rfl (fun w' hw => X.fieldAddr rfl Try.underlying58 rfl sz_56 (by decide)) hS ?_
  refine D.va 4 rfl (by kernel_rfl) (fun _ _ _ h => h) rfl (fun w' hw => X.load rfl sc_56 (Ld.blk hw rfl)) hS ?_
  refine D.va 5 rfl (by kernel_rfl) (fun _ _ _ h => h) rfl (fun w' hw => X.move (by conv => lhs; whnf)) hS ?_
  refine D.va 6 rfl (by kernel_rfl) (fun _ _ _ h => h) rfl (fun w' hw => X.move (by conv => lhs; whnf)) hS ?_
  -- append
  have H3 := H2.ext hSE
  have K3 := K2.trans (.of_ext hSE)
  refine D.one 7 (by kernel_rfl) rfl ?_
  refine L.appendQ (q := 1024) (ys := zs) rfl rfl rfl Try.underlying30 el_5 (own_nilN _ w3.heap.size _ _) (hr0 _ K3) (by omega) (by simp) (by unfold maxLen; omega) (by omega) ?_
  intro A4 c4 w4 ho4 hg4 hb4 hor4
  have hS1 := hS.ext (grown_none hg4)
  refine L.nil ?_
  refine ⟨fun _ => hS1, ?_⟩
  have he4 : Ext w3 w4 := grown_none hg4
  have H4 := H3.ext he4
  have K4 := K3.trans (.of_ext he4)
  have hD4 := Dat.of_own ho4
  refine D.va 8 rfl (by kernel_rfl) (fun _ _ _ h => h) rfl (fun w' hw => X.build (l := [_, _]) (Evs.cons (by conv => lhs; whnf) (Evs.cons (by conv => lhs; whnf) Evs.nil)) (bld_run Try.underlying123 (bp_123 Try.underlying123) zr_123 rfl)) hS1 ?_
  -- buildSlice
  refine D.one 9 (by kernel_rfl) rfl ?_
  refine L.bslice1 (l := [_, _]) rfl rfl rfl Try.underlying56 sz_123 zr_123 rfl ?_
  intro b5 w5 hb5 hs5 hk5 he5
  have hS2 := hS1.ext he5
  refine L.nil ?_
  refine ⟨fun _ => hS2, ?_⟩
  have H5 := H4.ext he5
  have K5 := K4.trans (.of_ext he5)
  have hD5 : Dat w5 (.slice A4 1024 c4) zs := hD4.kq H4 (.of_ext he5)
  have hz5 := H5.nsz
  have hp5 : w5.ownsRow N 123 2 (.slice v.pA v.pp.length v.pc) v.pp.length (pcs v.pp) := H5.hp
  have hne5 : some v.d ≠ Value.ownBlock (.slice v.pA v.pp.length v.pc) := fun e => own_blk_ne H5.hp H5.hb (by decide) e.symm
  -- append
  refine D.one 10 (by kernel_rfl) rfl ?_
  refine L.appendV (q := v.pp.length + 1) (ys := pcs v.pp ++ [.int .i64 (i : Int), .slice A4 1024 c4]) rfl rfl rfl Try.underlying56 el_123 (hp5) ((blk_readsN (sz := 2) (q := 1) (l := [.int .i64 (i : Int), .slice A4 1024 c4]) hk5 (by omega : b5 < w5.heap.size) rfl)) (by first | rfl | exact strs_ones _ | assumption) (by omega) (by simp) (by unfold maxLen; omega) (by omega) ?_
  intro A6 c6 w6 ho6 hg6 hb6 hor6
  have hS3 := hS2.grown hg6 hne5
  refine L.nil ?_
  refine ⟨fun _ => hS3, ?_⟩
  refine D.va 11 rfl (by kernel_rfl) (fun _ _ _ h => h) rfl (fun w' hw => X.nilCheck rfl) hS3 ?_
  refine D.va 12 rfl (by kernel_rfl) (fun _ _ _ h => h) rfl (fun w' hw => X.fieldAddr rfl Try.underlying58 rfl sz_56 (by decide)) hS3 ?_
  -- store
  refine D.one 13 (by kernel_rfl) rfl ?_
  refine L.store rfl rfl (by conv => lhs; whnf) rfl sz_56 (hS3) (by first | decide | exact Nat.le_of_ble_eq_true rfl) ?_
  intro w7 hk7 hg7 hs7
  refine L.nil ?_
  refine ⟨fun h => absurd rfl h, ?_⟩
  refine D.done (by kernel_rfl) ?_
  refine J.seq ?_
  refine J.region ?_
  refine L.va rfl (X.assign (by conv => lhs; whnf)) ?_
  refine L.nil ?_
  -- ret
  refine J.ret ?_
  refine fin1 ?_
  have hP := H5.push (i := i) (x := (.slice A4 1024 c4, zs)) hi hD5 (by rw [← pcs_append]; exact ho6) hg6 hor6 hg7 hk7
  exact ⟨A6, c6, .slice A4 1024 c4, rfl, hP.1, K5.trans hP.2⟩
end Dk
end Go.Proofs.Ytdmfikedojgjbaa
