/-
  A disk that is none: nil, or not made.
-/
import Derived.Test.YtdmfikedojgjbaaWDiskM
namespace Go.Proofs.Ytdmfikedojgjbaa
set_option maxRecDepth 100000
open Go.RowKit H
set_option linter.unusedVariables false
/-- a pointer to no disk -/
def Closed (p : Value) (w : World) : Prop := p = .pointer none ∨ ∃ d, p = .pointer (some ⟨d, 0, none⟩) ∧ Blk w d 58 #[.bool false, .int .i64 0, .bool false, .slice none 0 0, .slice none 0 0, .int .i64 0, .int .i64 0, .int .i64 0]
namespace Closed
variable {p : Value} {w w' : World}
theorem ext (h : Closed p w) (he : Ext w w') : Closed p w' := h.imp id fun ⟨d, e, hb⟩ => ⟨d, e, hb.ext he⟩
theorem is_ (h : Closed p w) : Calls Try.prog 68 #[p] w fun e w' => e = .returned (.bool false) ∧ w = w' := by
  rcases h with rfl | ⟨d, rfl, hb⟩
  · exact Dk.is_nil
  · exact Dk.is_any hb
theorem ask_ (h : Closed p w) (a : Int) : Calls Try.prog 66 #[p, .int .i64 a] w fun e w' => e = .returned (.int .i64 15) ∧ w = w' := by
  refine enter Try.func66 rfl (by kernel_rfl) ?_
  refine J.seq ?_
  refine J.region ?_
  refine L.va rfl (X.assign (by conv => lhs; whnf)) ?_
  refine L.nil ?_
  refine J.seq ?_
  refine J.block ?_
  refine J.seq ?_
  refine J.region ?_
  refine L.va rfl (X.move (by conv => lhs; whnf)) ?_
  -- callfn (*bushel/disk.Disk).is
  refine L.call rfl en_68 rfl (h.is_) ?_
  rintro e _ ⟨rfl, rfl⟩
  refine ⟨_, rfl, ?_⟩
  refine L.va rfl (X.not rfl) ?_
  refine L.va rfl (X.assign (by conv => lhs; whnf)) ?_
  refine L.nil ?_
  -- cond
  refine J.iteT rfl ?_
  refine J.seq ?_
  refine J.region ?_
  refine L.va rfl (X.assign (by conv => lhs; whnf)) ?_
  refine L.nil ?_
  -- ret
  refine J.ret ?_
  refine inB_ret <|  thn_ret <| ?_
  refine fin1 ?_
  exact ⟨rfl, rfl⟩
theorem read_ (h : Closed p w) (a : Int) : Calls Try.prog 64 #[p, .int .i64 a] w fun e w' => e = .returned (.tuple #[.slice none 0 0, .int .i64 15]) ∧ w = w' := by
  refine enter Try.func64 rfl (by kernel_rfl) ?_
  refine J.seq ?_
  refine J.region ?_
  refine L.va rfl (X.assign (by conv => lhs; whnf)) ?_
  refine L.va rfl (X.assign (by conv => lhs; whnf)) ?_
  refine L.nil ?_
  refine J.seq ?_
  refine J.seq ?_
  refine J.region ?_
  refine L.va rfl (X.move (by conv => lhs; whnf)) ?_
  refine L.va rfl (X.move (by conv => lhs; whnf)) ?_
  -- callfn (*bushel/disk.Disk).ask
  refine L.call rfl en_66 rfl (h.ask_ a) ?_
  rintro e _ ⟨rfl, rfl⟩
  refine ⟨_, rfl, ?_⟩
  refine L.va rfl (X.assign (by conv => lhs; whnf)) ?_
  refine L.nil ?_
  refine J.seq ?_
  refine J.region ?_
  refine L.va rfl (X.move (by conv => lhs; whnf)) ?_
  refine L.va rfl (X.neq rfl rfl) ?_
  refine L.nil ?_
  -- cond
  refine J.ndecT rfl (by decide) ?_
  refine J.seq ?_
  refine J.region ?_
  refine L.va rfl (X.move (by conv => lhs; whnf)) ?_
  refine L.va rfl (X.assign (by conv => lhs; whnf)) ?_
  refine L.va rfl (X.assign (by conv => lhs; whnf)) ?_
  refine L.nil ?_
  -- ret
  refine J.ret ?_
  refine thn_ret <| ?_
  refine fin2 ?_
  exact ⟨rfl, rfl⟩
theorem write_ (h : Closed p w) (a : Int) (x : Value) : Calls Try.prog 63 #[p, .int .i64 a, x] w fun e w' => e = .returned (.int .i64 15) ∧ w = w' := by
  refine enter Try.func63 rfl (by kernel_rfl) ?_
  refine J.seq ?_
  refine J.region ?_
  refine L.va rfl (X.assign (by conv => lhs; whnf)) ?_
  refine L.nil ?_
  refine J.seq ?_
  refine J.seq ?_
  refine J.region ?_
  refine L.va rfl (X.move (by conv => lhs; whnf)) ?_
  refine L.va rfl (X.move (by conv => lhs; whnf)) ?_
  -- callfn (*bushel/disk.Disk).ask
  refine L.call rfl en_66 rfl (h.ask_ a) ?_
  rintro e _ ⟨rfl, rfl⟩
  refine ⟨_, rfl, ?_⟩
  refine L.va rfl (X.assign (by conv => lhs; whnf)) ?_
  refine L.nil ?_
  refine J.seq ?_
  refine J.region ?_
  refine L.va rfl (X.move (by conv => lhs; whnf)) ?_
  refine L.va rfl (X.neq rfl rfl) ?_
  refine L.nil ?_
  -- cond
  refine J.ndecT rfl (by decide) ?_
  refine J.seq ?_
  refine J.region ?_
  refine L.va rfl (X.move (by conv => lhs; whnf)) ?_
  refine L.va rfl (X.assign (by conv => lhs; whnf)) ?_
  refine L.nil ?_
  -- ret
  refine J.ret ?_
  refine thn_ret <| ?_
  refine fin1 ?_
  exact ⟨rfl, rfl⟩
theorem flush_ (h : Closed p w) : Calls Try.prog 19 #[p] w fun e w' => e = .returned (.int .i64 15) ∧ w = w' := by
  refine enter Try.func19 rfl (by kernel_rfl) ?_
  refine J.seq ?_
  refine J.region ?_
  refine L.va rfl (X.assign (by conv => lhs; whnf)) ?_
  refine L.nil ?_
  refine J.seq ?_
  refine J.seq ?_
  refine J.region ?_
  refine L.va rfl (X.move (by conv => lhs; whnf)) ?_
  -- callfn (*bushel/disk.Disk).ask
  refine L.call rfl en_66 rfl (h.ask_ 0) ?_
  rintro e _ ⟨rfl, rfl⟩
  refine ⟨_, rfl, ?_⟩
  refine L.va rfl (X.assign (by conv => lhs; whnf)) ?_
  refine L.nil ?_
  refine J.seq ?_
  refine J.region ?_
  refine L.va rfl (X.move (by conv => lhs; whnf)) ?_
  refine L.va rfl (X.neq rfl rfl) ?_
  refine L.nil ?_
  -- cond
  refine J.ndecT rfl (by decide) ?_
  refine J.seq ?_
  refine J.region ?_
  refine L.va rfl (X.move (by conv => lhs; whnf)) ?_
  refine L.va rfl (X.assign (by conv => lhs; whnf)) ?_
  refine L.nil ?_
  -- ret
  refine J.ret ?_
  refine thn_ret <| ?_
  refine fin1 ?_
  exact ⟨rfl, rfl⟩
theorem stop_ (h : Closed p w) (a : Int) : Calls Try.prog 65 #[p, .int .i64 a] w fun e w' => e = .returned (.tuple #[]) ∧ w = w' := by
  refine enter Try.func65 rfl (by kernel_rfl) ?_
  refine J.seq ?_
  refine J.region ?_
  refine L.va rfl (X.move (by conv => lhs; whnf)) ?_
  -- callfn (*bushel/disk.Disk).is
  refine L.call rfl en_68 rfl (h.is_) ?_
  rintro e _ ⟨rfl, rfl⟩
  refine ⟨_, rfl, ?_⟩
  refine L.nil ?_
  -- cond
  refine J.iteF rfl ?_
  refine J.skip ?_
  -- end
  refine fin0 (.inr rfl) ?_
  exact ⟨rfl, rfl⟩
theorem crash_ (h : Closed p w) (x : Value) : Calls Try.prog 21 #[p, x] w fun e w' => e = .returned (.tuple #[]) ∧ w = w' := by
  refine enter Try.func21 rfl (by kernel_rfl) ?_
  refine J.seq ?_
  refine J.seq ?_
  refine J.region ?_
  refine L.va rfl (X.move (by conv => lhs; whnf)) ?_
  -- callfn (*bushel/disk.Disk).is
  refine L.call rfl en_68 rfl (h.is_) ?_
  rintro e _ ⟨rfl, rfl⟩
  refine ⟨_, rfl, ?_⟩
  refine L.va rfl (X.not rfl) ?_
  refine L.nil ?_
  -- cond
  refine J.iteT rfl ?_
  -- ret
  refine J.ret ?_
  refine thn_ret <| ?_
  refine fin0 (.inl rfl) ?_
  exact ⟨rfl, rfl⟩
theorem counts_ (h : Closed p w) : Calls Try.prog 30 #[p] w fun e w' => e = .returned (.tuple #[.int .i64 0, .int .i64 0, .int .i64 0]) ∧ w = w' := by
  refine enter Try.func30 rfl (by kernel_rfl) ?_
  refine J.seq ?_
  refine J.region ?_
  refine L.va rfl (X.assign (by conv => lhs; whnf)) ?_
  refine L.va rfl (X.assign (by conv => lhs; whnf)) ?_
  refine L.va rfl (X.assign (by conv => lhs; whnf)) ?_
  refine L.nil ?_
  refine J.seq ?_
  refine J.seq ?_
  refine J.region ?_
  refine L.va rfl (X.move (by conv => lhs; whnf)) ?_
  -- callfn (*bushel/disk.Disk).is
  refine L.call rfl en_68 rfl (h.is_) ?_
  rintro e _ ⟨rfl, rfl⟩
  refine ⟨_, rfl, ?_⟩
  refine L.va rfl (X.not rfl) ?_
  refine L.nil ?_
  -- cond
  refine J.iteT rfl ?_
  refine J.seq ?_
  refine J.region ?_
  refine L.va rfl (X.assign (by conv => lhs; whnf)) ?_
  refine L.va rfl (X.assign (by conv => lhs; whnf)) ?_
  refine L.va rfl (X.assign (by conv => lhs; whnf)) ?_
  refine L.nil ?_
  -- ret
  refine J.ret ?_
  refine thn_ret <| ?_
  refine fin3 ?_
  exact ⟨rfl, rfl⟩
theorem len_ (h : Closed p w) : Calls Try.prog 31 #[p] w fun e w' => e = .returned (.int .i64 0) ∧ w = w' := by
  refine enter Try.func31 rfl (by kernel_rfl) ?_
  refine J.seq ?_
  refine J.region ?_
  refine L.va rfl (X.assign (by conv => lhs; whnf)) ?_
  refine L.nil ?_
  refine J.seq ?_
  refine J.seq ?_
  refine J.region ?_
  refine L.va rfl (X.move (by conv => lhs; whnf)) ?_
  -- callfn (*bushel/disk.Disk).is
  refine L.call rfl en_68 rfl (h.is_) ?_
  rintro e _ ⟨rfl, rfl⟩
  refine ⟨_, rfl, ?_⟩
  refine L.va rfl (X.not rfl) ?_
  refine L.nil ?_
  -- cond
  refine J.iteT rfl ?_
  refine J.seq ?_
  refine J.region ?_
  refine L.va rfl (X.assign (by conv => lhs; whnf)) ?_
  refine L.nil ?_
  -- ret
  refine J.ret ?_
  refine thn_ret <| ?_
  refine fin1 ?_
  exact ⟨rfl, rfl⟩
theorem pending_ (h : Closed p w) : Calls Try.prog 23 #[p] w fun e w' => e = .returned (.int .i64 0) ∧ w = w' := by
  refine enter Try.func23 rfl (by kernel_rfl) ?_
  refine J.seq ?_
  refine J.region ?_
  refine L.va rfl (X.assign (by conv => lhs; whnf)) ?_
  refine L.nil ?_
  refine J.seq ?_
  refine J.seq ?_
  refine J.region ?_
  refine L.va rfl (X.move (by conv => lhs; whnf)) ?_
  -- callfn (*bushel/disk.Disk).is
  refine L.call rfl en_68 rfl (h.is_) ?_
  rintro e _ ⟨rfl, rfl⟩
  refine ⟨_, rfl, ?_⟩
  refine L.va rfl (X.not rfl) ?_
  refine L.nil ?_
  -- cond
  refine J.iteT rfl ?_
  refine J.seq ?_
  refine J.region ?_
  refine L.va rfl (X.assign (by conv => lhs; whnf)) ?_
  refine L.nil ?_
  -- ret
  refine J.ret ?_
  refine thn_ret <| ?_
  refine fin1 ?_
  exact ⟨rfl, rfl⟩
theorem off_ (h : Closed p w) : Calls Try.prog 22 #[p] w fun e w' => e = .returned (.bool false) ∧ w = w' := by
  refine enter Try.func22 rfl (by kernel_rfl) ?_
  refine J.seq ?_
  refine J.region ?_
  refine L.va rfl (X.assign (by conv => lhs; whnf)) ?_
  refine L.nil ?_
  refine J.seq ?_
  refine J.region ?_
  refine L.va rfl (X.move (by conv => lhs; whnf)) ?_
  -- callfn (*bushel/disk.Disk).is
  refine L.call rfl en_68 rfl (h.is_) ?_
  rintro e _ ⟨rfl, rfl⟩
  refine ⟨_, rfl, ?_⟩
  refine L.va rfl (X.move (by conv => lhs; whnf)) ?_
  -- case t5
  refine L.caseBF (k := 5) rfl (by rfl) ?_
  refine L.no rfl ?_
  refine L.no rfl ?_
  refine L.no rfl ?_
  refine L.no rfl ?_
  refine L.no rfl ?_
  refine L.va rfl (X.pickF rfl (by conv => lhs; whnf)) ?_
  refine L.va rfl (X.assign (by conv => lhs; whnf)) ?_
  refine L.nil ?_
  -- ret
  refine J.ret ?_
  refine fin1 ?_
  exact ⟨rfl, rfl⟩
theorem image_ (h : Closed p w) : Calls Try.prog 20 #[p] w fun e w' => e = .returned (.slice none 0 0) ∧ w = w' := by
  refine enter Try.func20 rfl (by kernel_rfl) ?_
  refine J.seq ?_
  refine J.region ?_
  refine L.va rfl (X.assign (by conv => lhs; whnf)) ?_
  refine L.nil ?_
  refine J.seq ?_
  refine J.seq ?_
  refine J.region ?_
  refine L.va rfl (X.move (by conv => lhs; whnf)) ?_
  -- callfn (*bushel/disk.Disk).is
  refine L.call rfl en_68 rfl (h.is_) ?_
  rintro e _ ⟨rfl, rfl⟩
  refine ⟨_, rfl, ?_⟩
  refine L.va rfl (X.not rfl) ?_
  refine L.nil ?_
  -- cond
  refine J.iteT rfl ?_
  refine J.seq ?_
  refine J.region ?_
  refine L.va rfl (X.assign (by conv => lhs; whnf)) ?_
  refine L.nil ?_
  -- ret
  refine J.ret ?_
  refine thn_ret <| ?_
  refine fin1 ?_
  exact ⟨rfl, rfl⟩
theorem clone_ (h : Closed p w) : Calls Try.prog 29 #[p] w fun e w' => e = .returned (.pointer none) ∧ w = w' := by
  refine enter Try.func29 rfl (by kernel_rfl) ?_
  refine J.seq ?_
  refine J.region ?_
  refine L.va rfl (X.assign (by conv => lhs; whnf)) ?_
  refine L.nil ?_
  refine J.seq ?_
  refine J.seq ?_
  refine J.region ?_
  refine L.va rfl (X.move (by conv => lhs; whnf)) ?_
  -- callfn (*bushel/disk.Disk).is
  refine L.call rfl en_68 rfl (h.is_) ?_
  rintro e _ ⟨rfl, rfl⟩
  refine ⟨_, rfl, ?_⟩
  refine L.va rfl (X.not rfl) ?_
  refine L.nil ?_
  -- cond
  refine J.iteT rfl ?_
  refine J.seq ?_
  refine J.region ?_
  refine L.va rfl (X.assign (by conv => lhs; whnf)) ?_
  refine L.nil ?_
  -- ret
  refine J.ret ?_
  refine thn_ret <| ?_
  refine fin1 ?_
  exact ⟨rfl, rfl⟩
/-- the law's Do with no disk -/
theorem lawdo (h : Closed p w) {N : Nat} (x : Dm) (hx : x.At N w) (hN : N ≤ w.heap.size) (hdn : x.dn ≤ 1000000) : Calls Try.prog 18 #[p, x.v] w fun e w' =>
    e = .returned (.tuple #[.slice none 0 0, .int .i64 (if 0 ≤ x.kind ∧ x.kind ≤ 2 then 15 else 0)]) ∧ Ext w w' := by
  refine enter Try.func18 rfl (by kernel_rfl) ?_
  refine J.seq ?_
  refine J.region ?_
  -- box
  refine L.boxA (l := [_, _, _, _, _]) rfl rfl ?_
  intro b1 w1 hb1 hs1 hk1 he1
  have h1 := h.ext he1
  have X1 := hx.low (Below.mono he1 (by omega))
  refine L.va rfl (X.assign (by conv => lhs; whnf)) ?_
  refine L.va rfl (X.assign (by conv => lhs; whnf)) ?_
  refine L.nil ?_
  refine J.seq ?_
  refine J.seq ?_
  refine J.region ?_
  refine L.va rfl (X.fieldAddr rfl Try.underlying34 rfl sz_3 (by decide)) ?_
  refine L.va rfl (X.load rfl sc_3 (by first | exact Ld.blk hk1 rfl)) ?_
  refine L.nil ?_
  refine J.block ?_
  refine J.seq ?_
  refine J.region ?_
  refine L.va rfl (X.eql rfl rfl) ?_
  refine L.va rfl (X.assign (by conv => lhs; whnf)) ?_
  refine L.nil ?_
  -- cond
  refine J.dec rfl (fun k0 => ?_) (fun k0 => ?_)
  · rw [if_pos (by omega)]
    refine J.seq ?_
    refine J.region ?_
    refine L.va rfl (X.move (by conv => lhs; whnf)) ?_
    refine L.va rfl (X.fieldAddr rfl Try.underlying34 rfl sz_3 (by decide)) ?_
    refine L.va rfl (X.load rfl sc_3 (by first | exact Ld.blk hk1 rfl)) ?_
    -- callfn (*bushel/disk.Disk).Read
    refine L.call rfl en_64 rfl (h1.read_ x.n) ?_
    rintro e _ ⟨rfl, rfl⟩
    refine ⟨_, rfl, ?_⟩
    refine L.va rfl (X.extract rfl rfl) ?_
    refine L.va rfl (X.extract rfl rfl) ?_
    refine L.va rfl (X.assign (by conv => lhs; whnf)) ?_
    refine L.va rfl (X.assign (by conv => lhs; whnf)) ?_
    refine L.nil ?_
    -- ret
    refine J.ret ?_
    refine inB_ret <|  thn_ret <| ?_
    refine fin2 ?_
    exact ⟨rfl, he1⟩
  · refine J.seq ?_
    refine J.region ?_
    refine L.va rfl (X.eql rfl rfl) ?_
    refine L.va rfl (X.assign (by conv => lhs; whnf)) ?_
    refine L.nil ?_
    -- cond
    refine J.dec rfl (fun k1 => ?_) (fun k1 => ?_)
    · rw [if_pos (by omega)]
      refine J.seq ?_
      -- draw
      have hk1' : Blk w1 b1 34 #[.int .i64 x.kind, .int .i64 x.n, .slice x.dA x.dn x.dc, .bool x.odd, .slice x.kA x.kn x.kc] := hk1
      refine J.draw (ℓ := 1000000) (S := (fun w' => Blk w' b1 34 #[.int .i64 x.kind, .int .i64 x.n, .slice x.dA x.dn x.dc, .bool x.odd, .slice x.kA x.kn x.kc])) mixed (fun w2 hSE hS_h => ?_)
      have hS : ((fun w' => Blk w' b1 34 #[.int .i64 x.kind, .int .i64 x.n, .slice x.dA x.dn x.dc, .bool x.odd, .slice x.kA x.kn x.kc])) w2 := hk1'.ext hSE
      -- t20
      -- t21
      refine D.va 0 rfl (by kernel_rfl) (fun _ _ _ h => h) rfl (fun w' hw => X.move (by conv => lhs; whnf)) hS ?_
      refine D.va 1 rfl (by kernel_rfl) (fun _ _ _ h => h) rfl (fun w' hw => X.fieldAddr rfl Try.underlying34 rfl sz_3 (by decide)) hS ?_
      refine D.va 2 rfl (by kernel_rfl) (fun _ _ _ h => h) rfl (fun w' hw => X.load rfl sc_3 (Ld.blk hw rfl)) hS ?_
      refine D.va 3 rfl (by kernel_rfl) (fun _ _ _ h => h) rfl (fun w' hw => X.loadAgg rfl (range_l hw) Try.underlying34 rfl (by kernel_rfl)) hS ?_
      -- callfn bushel/bushelref19.Bytes
      have X2 := X1.low (Below.mono hSE (by have := he1.le; omega))
      refine D.one 4 (by kernel_rfl) rfl ?_
      refine L.call rfl en_24 rfl (X2.bytes_ (by have := he1.le; have := Ext.le hSE; omega) hdn) ?_
      rintro e w3 ⟨A3, c3, rfl, hr3, hD3, he3⟩
      refine ⟨_, rfl, ?_⟩
      have hS1 := hS.ext he3
      refine L.nil ?_
      refine ⟨fun _ => hS1, ?_⟩
      have he3 : Ext w2 w3 := he3
      -- callfn (*bushel/disk.Disk).Write
      refine D.one 5 (by kernel_rfl) rfl ?_
      refine L.call rfl en_63 rfl (((h1.ext hSE).ext he3).write_ x.n _) ?_
      rintro e _ ⟨rfl, rfl⟩
      refine ⟨_, rfl, ?_⟩
      have hS2 := hS1
      refine L.nil ?_
      refine ⟨fun _ => hS2, ?_⟩
      refine D.va 6 rfl (by kernel_rfl) (fun _ _ _ h => h) rfl (fun w' hw => X.assign (by conv => lhs; whnf)) hS2 ?_
      refine D.va 7 rfl (by kernel_rfl) (fun _ _ _ h => h) rfl (fun w' hw => X.assign (by conv => lhs; whnf)) hS2 ?_
      refine D.done (by kernel_rfl) ?_
      -- ret
      refine J.ret ?_
      refine inB_ret <|  thn_ret <| ?_
      refine fin2 ?_
      exact ⟨rfl, (he1.trans hSE).trans he3⟩
    · refine J.seq ?_
      refine J.region ?_
      refine L.va rfl (X.eql rfl rfl) ?_
      refine L.va rfl (X.assign (by conv => lhs; whnf)) ?_
      refine L.nil ?_
      -- cond
      refine J.dec rfl (fun k2 => ?_) (fun k2 => ?_)
      · rw [if_pos (by omega)]
        refine J.seq ?_
        refine J.region ?_
        refine L.va rfl (X.move (by conv => lhs; whnf)) ?_
        -- callfn (*bushel/disk.Disk).Flush
        refine L.call rfl en_19 rfl (h1.flush_) ?_
        rintro e _ ⟨rfl, rfl⟩
        refine ⟨_, rfl, ?_⟩
        refine L.va rfl (X.assign (by conv => lhs; whnf)) ?_
        refine L.va rfl (X.assign (by conv => lhs; whnf)) ?_
        refine L.nil ?_
        -- ret
        refine J.ret ?_
        refine inB_ret <|  thn_ret <| ?_
        refine fin2 ?_
        exact ⟨rfl, he1⟩
      · rw [if_neg (by omega)]
        refine J.seq ?_
        refine J.region ?_
        refine L.va rfl (X.eql rfl rfl) ?_
        refine L.va rfl (X.assign (by conv => lhs; whnf)) ?_
        refine L.nil ?_
        -- cond
        refine J.dec rfl (fun k3 => ?_) (fun k3 => ?_)
        · refine J.region ?_
          refine L.va rfl (X.move (by conv => lhs; whnf)) ?_
          refine L.va rfl (X.fieldAddr rfl Try.underlying34 rfl sz_3 (by decide)) ?_
          refine L.va rfl (X.load rfl sc_3 (by first | exact Ld.blk hk1 rfl)) ?_
          -- callfn (*bushel/disk.Disk).Stop
          refine L.call rfl en_65 rfl (h1.stop_ x.n) ?_
          rintro e _ ⟨rfl, rfl⟩
          refine ⟨_, rfl, ?_⟩
          refine L.nil ?_
          refine J.seq ?_
          refine J.region ?_
          refine L.va rfl (X.assign (by conv => lhs; whnf)) ?_
          refine L.va rfl (X.assign (by conv => lhs; whnf)) ?_
          refine L.nil ?_
          -- ret
          refine J.ret ?_
          refine fin2 ?_
          exact ⟨rfl, he1⟩
        · refine J.seq ?_
          refine J.region ?_
          refine L.va rfl (X.eql rfl rfl) ?_
          refine L.va rfl (X.assign (by conv => lhs; whnf)) ?_
          refine L.nil ?_
          -- cond
          refine J.dec rfl (fun k4 => ?_) (fun k4 => ?_)
          · refine J.region ?_
            refine L.va rfl (X.move (by conv => lhs; whnf)) ?_
            refine L.va rfl (X.fieldAddr rfl Try.underlying34 rfl sz_23 (by decide)) ?_
            refine L.va rfl (X.load rfl sc_23 (by first | exact Ld.blk hk1 rfl)) ?_
            -- callfn (*bushel/disk.Disk).Crash
            refine L.call rfl en_21 rfl (h1.crash_ _) ?_
            rintro e _ ⟨rfl, rfl⟩
            refine ⟨_, rfl, ?_⟩
            refine L.nil ?_
            refine J.seq ?_
            refine J.region ?_
            refine L.va rfl (X.assign (by conv => lhs; whnf)) ?_
            refine L.va rfl (X.assign (by conv => lhs; whnf)) ?_
            refine L.nil ?_
            -- ret
            refine J.ret ?_
            refine fin2 ?_
            exact ⟨rfl, he1⟩
          · refine J.skip ?_
            refine J.seq ?_
            refine J.region ?_
            refine L.va rfl (X.assign (by conv => lhs; whnf)) ?_
            refine L.va rfl (X.assign (by conv => lhs; whnf)) ?_
            refine L.nil ?_
            -- ret
            refine J.ret ?_
            refine fin2 ?_
            exact ⟨rfl, he1⟩
end Closed
end Go.Proofs.Ytdmfikedojgjbaa
