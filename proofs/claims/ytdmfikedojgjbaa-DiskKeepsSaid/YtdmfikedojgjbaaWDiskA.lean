/-
  A disk's small methods: is, step, ask, Len, Off, Pending, Counts, Stop.
-/
import Derived.Test.YtdmfikedojgjbaaDiskData
namespace Go.Proofs.Ytdmfikedojgjbaa
set_option maxRecDepth 100000
open Go.RowKit H
set_option linter.unusedVariables false
namespace Dk
variable {v : Dk} {N : Nat} {C : Nat → Prop} {w : World}
theorem is_any {d : Nat} {made : Bool} {c0 c1 c3 c4 c5 c6 c7 : Value} (hb : Blk w d 58 #[c0, c1, .bool made, c3, c4, c5, c6, c7]) : Calls Try.prog 68 #[.pointer (some ⟨d, 0, none⟩)] w fun e w' => e = .returned (.bool made) ∧ w = w' := by
  refine enter Try.func68 rfl (by kernel_rfl) ?_
  refine J.seq ?_
  refine J.region ?_
  refine L.va rfl (X.assign (by conv => lhs; whnf)) ?_
  refine L.nil ?_
  refine J.seq ?_
  refine J.region ?_
  refine L.va rfl (X.move (by conv => lhs; whnf)) ?_
  refine L.va rfl (X.neqPn rfl rfl (by kernel_rfl)) ?_
  refine L.va rfl (X.move (by conv => lhs; whnf)) ?_
  -- case t5
  refine L.caseBT (k := 5) rfl (by rfl) ?_
  refine L.va rfl (X.move (by conv => lhs; whnf)) ?_
  refine L.va rfl (X.nilCheck rfl) ?_
  refine L.va rfl (X.fieldAddr rfl Try.underlying58 rfl sz_4 (by decide)) ?_
  refine L.va rfl (X.load rfl sc_4 (by first | exact Ld.blk hb rfl)) ?_
  refine L.va rfl (X.pickT rfl (by conv => lhs; whnf)) ?_
  refine L.va rfl (X.assign (by conv => lhs; whnf)) ?_
  refine L.nil ?_
  -- ret
  refine J.ret ?_
  refine fin1 ?_
  exact ⟨rfl, rfl⟩
theorem is_nil : Calls Try.prog 68 #[.pointer none] w fun e w' => e = .returned (.bool false) ∧ w = w' := by
  refine enter Try.func68 rfl (by kernel_rfl) ?_
  refine J.seq ?_
  refine J.region ?_
  refine L.va rfl (X.assign (by conv => lhs; whnf)) ?_
  refine L.nil ?_
  refine J.seq ?_
  refine J.region ?_
  refine L.va rfl (X.move (by conv => lhs; whnf)) ?_
  refine L.va rfl (X.neqPn rfl rfl (by kernel_rfl)) ?_
  refine L.va rfl (X.move (by conv => lhs; whnf)) ?_
  -- case t5
  refine L.caseBF (k := 5) rfl (by rfl) ?_
  refine L.no rfl ?_
  refine L.no rfl ?_
  refine L.no rfl ?_
  refine L.no rfl ?_
  refine L.va rfl (X.pickF rfl (by conv => lhs; whnf)) ?_
  refine L.va rfl (X.assign (by conv => lhs; whnf)) ?_
  refine L.nil ?_
  -- ret
  refine J.ret ?_
  refine fin1 ?_
  exact ⟨rfl, rfl⟩
theorem At.is (h : v.At N C w) : Calls Try.prog 68 #[v.ptr] w fun e w' => e = .returned (.bool true) ∧ w = w' := is_any h.hb
theorem step_any {d : Nat} {off : Bool} {left : Int} {c2 c3 c4 c5 c6 c7 : Value} (hb : Blk w d 58 #[.bool off, .int .i64 left, c2, c3, c4, c5, c6, c7]) (hl : -1 ≤ left ∧ left ≤ 9223372036854775807) :
    Calls Try.prog 67 #[.pointer (some ⟨d, 0, none⟩)] w fun e w' => e = .returned (.bool (decide (left ≠ 0))) ∧ w.grownBy w' (some d) ∧ Blk w' d 58 #[.bool (if left = 0 then true else off), .int .i64 (if 0 < left then left - 1 else left), c2, c3, c4, c5, c6, c7] := by
  refine enter Try.func67 rfl (by kernel_rfl) ?_
  refine J.seq ?_
  refine J.region ?_
  refine L.va rfl (X.assign (by conv => lhs; whnf)) ?_
  refine L.nil ?_
  refine J.seq ?_
  refine J.seq ?_
  refine J.region ?_
  refine L.va rfl (X.move (by conv => lhs; whnf)) ?_
  refine L.va rfl (X.nilCheck rfl) ?_
  refine L.va rfl (X.fieldAddr rfl Try.underlying55 rfl sz_3 (by decide)) ?_
  refine L.va rfl (X.load rfl sc_3 (by first | exact Ld.blk hb rfl)) ?_
  refine L.va rfl (X.eql rfl rfl) ?_
  refine L.nil ?_
  -- cond
  refine J.dec rfl (fun h0 => ?_) (fun h0 => ?_)
  · have e1 : decide (left ≠ 0) = false := by simp [h0]
    rw [e1, if_pos h0, if_neg (by omega)]
    refine J.seq ?_
    refine J.region ?_
    refine L.va rfl (X.move (by conv => lhs; whnf)) ?_
    refine L.va rfl (X.nilCheck rfl) ?_
    refine L.va rfl (X.fieldAddr rfl Try.underlying55 rfl sz_4 (by decide)) ?_
    -- store
    refine L.store rfl rfl (by conv => lhs; whnf) rfl sz_4 (hb) (by first | decide | exact Nat.le_of_ble_eq_true rfl) ?_
    intro w1 hk1 hg1 hs1
    refine L.nil ?_
    refine J.seq ?_
    refine J.region ?_
    refine L.va rfl (X.assign (by conv => lhs; whnf)) ?_
    refine L.nil ?_
    -- ret
    refine J.ret ?_
    refine thn_ret <| ?_
    refine fin1 ?_
    exact ⟨rfl, hg1, hk1⟩
  · have e1 : decide (left ≠ 0) = true := by simp [h0]
    rw [e1, if_neg h0]
    refine J.skip ?_
    refine J.seq ?_
    refine J.seq ?_
    refine J.region ?_
    refine L.va rfl (X.move (by conv => lhs; whnf)) ?_
    refine L.va rfl (X.nilCheck rfl) ?_
    refine L.va rfl (X.fieldAddr rfl Try.underlying55 rfl sz_3 (by decide)) ?_
    refine L.va rfl (X.load rfl sc_3 (by first | exact Ld.blk hb rfl)) ?_
    refine L.va rfl (X.gtr rfl rfl) ?_
    refine L.nil ?_
    -- cond
    refine J.dec rfl (fun h1 => ?_) (fun h1 => ?_)
    · rw [if_pos h1]
      refine J.region ?_
      refine L.va rfl (X.move (by conv => lhs; whnf)) ?_
      refine L.va rfl (X.nilCheck rfl) ?_
      refine L.va rfl (X.fieldAddr rfl Try.underlying55 rfl sz_3 (by decide)) ?_
      refine L.va rfl (X.load rfl sc_3 (by first | exact Ld.blk hb rfl)) ?_
      refine L.va rfl (X.sub rfl rfl (by omega)) ?_
      refine L.va rfl (X.nilCheck rfl) ?_
      refine L.va rfl (X.fieldAddr rfl Try.underlying55 rfl sz_3 (by decide)) ?_
      -- store
      refine L.store rfl rfl (by conv => lhs; whnf) rfl sz_3 (hb) (by first | decide | exact Nat.le_of_ble_eq_true rfl) ?_
      intro w1 hk1 hg1 hs1
      refine L.nil ?_
      refine J.seq ?_
      refine J.region ?_
      refine L.va rfl (X.assign (by conv => lhs; whnf)) ?_
      refine L.nil ?_
      -- ret
      refine J.ret ?_
      refine fin1 ?_
      exact ⟨rfl, hg1, hk1⟩
    · rw [if_neg h1]
      refine J.skip ?_
      refine J.seq ?_
      refine J.region ?_
      refine L.va rfl (X.assign (by conv => lhs; whnf)) ?_
      refine L.nil ?_
      -- ret
      refine J.ret ?_
      refine fin1 ?_
      exact ⟨rfl, grown_ext (Ext.refl _), hb⟩
theorem At.off_ (h : v.At N C w) : Calls Try.prog 22 #[v.ptr] w fun e w' => e = .returned (.bool v.off) ∧ w = w' := by
  have hb := h.hb
  refine enter Try.func22 rfl (by kernel_rfl) ?_
  refine J.seq ?_
  refine J.region ?_
  refine L.va rfl (X.assign (by conv => lhs; whnf)) ?_
  refine L.nil ?_
  refine J.seq ?_
  refine J.region ?_
  refine L.va rfl (X.move (by conv => lhs; whnf)) ?_
  -- callfn (*bushel/disk.Disk).is
  refine L.call rfl en_68 rfl (h.is) ?_
  rintro e _ ⟨rfl, rfl⟩
  refine ⟨_, rfl, ?_⟩
  refine L.va rfl (X.move (by conv => lhs; whnf)) ?_
  -- case t5
  refine L.caseBT (k := 5) rfl (by rfl) ?_
  refine L.va rfl (X.move (by conv => lhs; whnf)) ?_
  refine L.va rfl (X.nilCheck rfl) ?_
  refine L.va rfl (X.fieldAddr rfl Try.underlying58 rfl sz_55 (by decide)) ?_
  refine L.va rfl (X.fieldAddr rfl Try.underlying55 rfl sz_4 (by decide)) ?_
  refine L.va rfl (X.load rfl sc_4 (by first | exact Ld.blk hb rfl)) ?_
  refine L.va rfl (X.pickT rfl (by conv => lhs; whnf)) ?_
  refine L.va rfl (X.assign (by conv => lhs; whnf)) ?_
  refine L.nil ?_
  -- ret
  refine J.ret ?_
  refine fin1 ?_
  exact ⟨rfl, rfl⟩
theorem At.pending_ (h : v.At N C w) : Calls Try.prog 23 #[v.ptr] w fun e w' => e = .returned (.int .i64 (v.pp.length : Int)) ∧ w = w' := by
  have hb := h.hb
  refine enter Try.func23 rfl (by kernel_rfl) ?_
  refine J.seq ?_
  refine J.region ?_
  refine L.va rfl (X.assign (by conv => lhs; whnf)) ?_
  refine L.nil ?_
  refine J.seq ?_
  refine J.seq ?_
  refine J.region ?_
  refine L.va rfl (X.move (by conv => lhs; whnf)) ?_
  -- callfn (*bushel/disk.Disk).is
  refine L.call rfl en_68 rfl (h.is) ?_
  rintro e _ ⟨rfl, rfl⟩
  refine ⟨_, rfl, ?_⟩
  refine L.va rfl (X.not rfl) ?_
  refine L.nil ?_
  -- cond
  refine J.iteF rfl ?_
  refine J.skip ?_
  refine J.seq ?_
  refine J.region ?_
  refine L.va rfl (X.move (by conv => lhs; whnf)) ?_
  refine L.va rfl (X.nilCheck rfl) ?_
  refine L.va rfl (X.fieldAddr rfl Try.underlying58 rfl sz_56 (by decide)) ?_
  refine L.va rfl (X.load rfl sc_56 (by first | exact Ld.blk hb rfl)) ?_
  refine L.va rfl (X.len rfl Try.underlying56) ?_
  refine L.va rfl (X.assign (by conv => lhs; whnf)) ?_
  refine L.nil ?_
  -- ret
  refine J.ret ?_
  refine fin1 ?_
  exact ⟨rfl, rfl⟩
theorem At.len_ (h : v.At N C w) : Calls Try.prog 31 #[v.ptr] w fun e w' => e = .returned (.int .i64 (v.kp.length : Int)) ∧ w = w' := by
  have hb := h.hb
  refine enter Try.func31 rfl (by kernel_rfl) ?_
  refine J.seq ?_
  refine J.region ?_
  refine L.va rfl (X.assign (by conv => lhs; whnf)) ?_
  refine L.nil ?_
  refine J.seq ?_
  refine J.seq ?_
  refine J.region ?_
  refine L.va rfl (X.move (by conv => lhs; whnf)) ?_
  -- callfn (*bushel/disk.Disk).is
  refine L.call rfl en_68 rfl (h.is) ?_
  rintro e _ ⟨rfl, rfl⟩
  refine ⟨_, rfl, ?_⟩
  refine L.va rfl (X.not rfl) ?_
  refine L.nil ?_
  -- cond
  refine J.iteF rfl ?_
  refine J.skip ?_
  refine J.seq ?_
  refine J.region ?_
  refine L.va rfl (X.move (by conv => lhs; whnf)) ?_
  refine L.va rfl (X.nilCheck rfl) ?_
  refine L.va rfl (X.fieldAddr rfl Try.underlying58 rfl sz_41 (by decide)) ?_
  refine L.va rfl (X.load rfl sc_41 (by first | exact Ld.blk hb rfl)) ?_
  refine L.va rfl (X.len rfl Try.underlying41) ?_
  refine L.va rfl (X.assign (by conv => lhs; whnf)) ?_
  refine L.nil ?_
  -- ret
  refine J.ret ?_
  refine fin1 ?_
  exact ⟨rfl, rfl⟩
theorem At.counts_ (h : v.At N C w) : Calls Try.prog 30 #[v.ptr] w fun e w' => e = .returned (.tuple #[.int .i64 v.rd, .int .i64 v.wr, .int .i64 v.fl]) ∧ Ext w w' := by
  have hb := h.hb
  refine enter Try.func30 rfl (by kernel_rfl) ?_
  refine J.seq ?_
  refine J.region ?_
  refine L.va rfl (X.assign (by conv => lhs; whnf)) ?_
  refine L.va rfl (X.assign (by conv => lhs; whnf)) ?_
  refine L.va rfl (X.assign (by conv => lhs; whnf)) ?_
  refine L.nil ?_
  refine J.seq ?_
  refine J.seq ?_
  refine J.region ?_
  refine L.va rfl (X.move (by conv => lhs; whnf)) ?_
  -- callfn (*bushel/disk.Disk).is
  refine L.call rfl en_68 rfl (h.is) ?_
  rintro e _ ⟨rfl, rfl⟩
  refine ⟨_, rfl, ?_⟩
  refine L.va rfl (X.not rfl) ?_
  refine L.nil ?_
  -- cond
  refine J.iteF rfl ?_
  refine J.skip ?_
  refine J.seq ?_
  -- draw
  refine J.quiet mixed (by kernel_rfl) ?_
  refine Qt.va rfl (fun w' hw => X.move (by conv => lhs; whnf)) ?_
  refine Qt.va rfl (fun w' hw => X.nilCheck rfl) ?_
  refine Qt.va rfl (fun w' hw => X.fieldAddr rfl Try.underlying58 rfl sz_3 (by decide)) ?_
  refine Qt.va rfl (fun w' hw => X.load rfl sc_3 (by first | exact Ld.blk (hb.ext hw) rfl)) ?_
  refine Qt.va rfl (fun w' hw => X.move (by conv => lhs; whnf)) ?_
  refine Qt.va rfl (fun w' hw => X.nilCheck rfl) ?_
  refine Qt.va rfl (fun w' hw => X.fieldAddr rfl Try.underlying58 rfl sz_3 (by decide)) ?_
  refine Qt.va rfl (fun w' hw => X.load rfl sc_3 (by first | exact Ld.blk (hb.ext hw) rfl)) ?_
  refine Qt.va rfl (fun w' hw => X.move (by conv => lhs; whnf)) ?_
  refine Qt.va rfl (fun w' hw => X.nilCheck rfl) ?_
  refine Qt.va rfl (fun w' hw => X.fieldAddr rfl Try.underlying58 rfl sz_3 (by decide)) ?_
  refine Qt.va rfl (fun w' hw => X.load rfl sc_3 (by first | exact Ld.blk (hb.ext hw) rfl)) ?_
  refine Qt.va rfl (fun w' hw => X.assign (by conv => lhs; whnf)) ?_
  refine Qt.va rfl (fun w' hw => X.assign (by conv => lhs; whnf)) ?_
  refine Qt.va rfl (fun w' hw => X.assign (by conv => lhs; whnf)) ?_
  refine Qt.nil (fun w1 hq => ?_)
  replace hb := hb.ext hq
  -- ret
  refine J.ret ?_
  refine fin3 ?_
  exact ⟨rfl, hq⟩
/-- why a sector can't be reached -/
def askD (off : Bool) (n : Nat) (at_ : Int) : Int := if off = true then 14 else if at_ < 0 ∨ (n : Int) ≤ at_ then 2 else 0
theorem At.ask_ (h : v.At N C w) (at_ : Int) : Calls Try.prog 66 #[v.ptr, .int .i64 at_] w fun e w' => e = .returned (.int .i64 (askD v.off v.kp.length at_)) ∧ w = w' := by
  have hb := h.hb
  refine enter Try.func66 rfl (by kernel_rfl) ?_
  refine J.seq ?_
  refine J.region ?_
  refine L.va rfl (X.assign (by conv => lhs; whnf)) ?_
  refine L.nil ?_
  refine J.seq ?_
  refine J.block ?_
  refine J.seq ?_
  refine J.region ?_
  refine L.va rfl (X.move (by conv => lhs; whnf)) ?_
  -- callfn (*bushel/disk.Disk).is
  refine L.call rfl en_68 rfl (h.is) ?_
  rintro e _ ⟨rfl, rfl⟩
  refine ⟨_, rfl, ?_⟩
  refine L.va rfl (X.not rfl) ?_
  refine L.va rfl (X.assign (by conv => lhs; whnf)) ?_
  refine L.nil ?_
  -- cond
  refine J.iteF rfl ?_
  refine J.seq ?_
  refine J.region ?_
  refine L.va rfl (X.move (by conv => lhs; whnf)) ?_
  refine L.va rfl (X.nilCheck rfl) ?_
  refine L.va rfl (X.fieldAddr rfl Try.underlying58 rfl sz_55 (by decide)) ?_
  refine L.va rfl (X.fieldAddr rfl Try.underlying55 rfl sz_4 (by decide)) ?_
  refine L.va rfl (X.load rfl sc_4 (by first | exact Ld.blk hb rfl)) ?_
  refine L.va rfl (X.assign (by conv => lhs; whnf)) ?_
  refine L.nil ?_
  -- cond
  refine J.ite rfl (fun h1 => ?_) (fun h1 => ?_)
  · rw [askD, if_pos h1]
    refine J.seq ?_
    refine J.region ?_
    refine L.va rfl (X.assign (by conv => lhs; whnf)) ?_
    refine L.nil ?_
    -- ret
    refine J.ret ?_
    refine inB_ret <|  thn_ret <| ?_
    refine fin1 ?_
    exact ⟨rfl, rfl⟩
  · rw [askD, if_neg (by rw [h1]; decide)]
    refine J.seq ?_
    refine J.region ?_
    refine L.va rfl (X.move (by conv => lhs; whnf)) ?_
    refine L.va rfl (X.lss rfl rfl) ?_
    refine L.va rfl (X.move (by conv => lhs; whnf)) ?_
    -- case t18
    refine L.caseDec (k := 18) rfl (fun h2 => ?_) (fun h2 => ?_)
    · rw [if_pos (.inl h2)]
      refine L.no rfl ?_
      refine L.no rfl ?_
      refine L.no rfl ?_
      refine L.no rfl ?_
      refine L.no rfl ?_
      refine L.no rfl ?_
      refine L.no rfl ?_
      refine L.va rfl (X.pickT rfl (by conv => lhs; whnf)) ?_
      refine L.va rfl (X.assign (by conv => lhs; whnf)) ?_
      refine L.nil ?_
      -- cond
      refine J.iteT rfl ?_
      refine J.seq ?_
      refine J.region ?_
      refine L.va rfl (X.assign (by conv => lhs; whnf)) ?_
      refine L.nil ?_
      -- ret
      refine J.ret ?_
      refine inB_ret <|  thn_ret <| ?_
      refine fin1 ?_
      exact ⟨rfl, rfl⟩
    · refine L.va rfl (X.move (by conv => lhs; whnf)) ?_
      refine L.va rfl (X.move (by conv => lhs; whnf)) ?_
      refine L.va rfl (X.nilCheck rfl) ?_
      refine L.va rfl (X.fieldAddr rfl Try.underlying58 rfl sz_41 (by decide)) ?_
      refine L.va rfl (X.load rfl sc_41 (by first | exact Ld.blk hb rfl)) ?_
      refine L.va rfl (X.len rfl Try.underlying41) ?_
      refine L.va rfl (X.geq rfl rfl) ?_
      refine L.va rfl (X.pickF rfl (by conv => lhs; whnf)) ?_
      refine L.va rfl (X.assign (by conv => lhs; whnf)) ?_
      refine L.nil ?_
      -- cond
      refine J.dec rfl (fun h3 => ?_) (fun h3 => ?_)
      · rw [if_pos (.inr h3)]
        refine J.seq ?_
        refine J.region ?_
        refine L.va rfl (X.assign (by conv => lhs; whnf)) ?_
        refine L.nil ?_
        -- ret
        refine J.ret ?_
        refine inB_ret <|  thn_ret <| ?_
        refine fin1 ?_
        exact ⟨rfl, rfl⟩
      · rw [if_neg (by omega)]
        refine J.skip ?_
        refine J.seq ?_
        refine J.region ?_
        refine L.va rfl (X.assign (by conv => lhs; whnf)) ?_
        refine L.nil ?_
        -- ret
        refine J.ret ?_
        refine fin1 ?_
        exact ⟨rfl, rfl⟩
theorem At.stop_ (h : v.At N C w) (n : Int) (hn : n ≤ 9223372036854775807) : Calls Try.prog 65 #[v.ptr, .int .i64 n] w fun e w' => e = .returned (.tuple #[]) ∧ At { v with left := max n (-1) } N C w' ∧ Kq v.kb v.d C w w' := by
  have hb := h.hb
  refine enter Try.func65 rfl (by kernel_rfl) ?_
  refine J.seq ?_
  refine J.region ?_
  refine L.va rfl (X.move (by conv => lhs; whnf)) ?_
  -- callfn (*bushel/disk.Disk).is
  refine L.call rfl en_68 rfl (h.is) ?_
  rintro e _ ⟨rfl, rfl⟩
  refine ⟨_, rfl, ?_⟩
  refine L.nil ?_
  -- cond
  refine J.iteT rfl ?_
  -- t8
  refine J.region ?_
  refine L.va rfl (X.move (by conv => lhs; whnf)) ?_
  refine L.va rfl (X.move (by conv => lhs; whnf)) ?_
  refine L.va rfl (X.max2 rfl rfl) ?_
  refine L.va rfl (X.nilCheck rfl) ?_
  refine L.va rfl (X.fieldAddr rfl Try.underlying58 rfl sz_55 (by decide)) ?_
  refine L.va rfl (X.fieldAddr rfl Try.underlying55 rfl sz_3 (by decide)) ?_
  -- store
  refine L.store rfl rfl (by conv => lhs; whnf) rfl sz_3 (hb) (by first | decide | exact Nat.le_of_ble_eq_true rfl) ?_
  intro w1 hk1 hg1 hs1
  refine L.nil ?_
  -- end
  refine fin0 (.inr rfl) ?_
  exact ⟨rfl, h.blk (v' := { v with left := max n (-1) }) hg1 hk1 ⟨rfl, rfl, rfl, rfl, rfl, rfl, rfl⟩ (by dsimp only; omega)⟩
end Dk
end Go.Proofs.Ytdmfikedojgjbaa
