/-
  Go's slices.Sort at []int, walked: patterns broken, a range turned round, the pivot chosen.
-/
import Derived.Test.YtlipeplfjkgamaaSrtIB
import Derived.Test.YtlipeplfjkgamaaSrtBits
namespace Go.Proofs.Ytlipeplfjkgamaa
set_option maxRecDepth 100000
open Go.RowKit H
open Srt
set_option linter.unusedVariables false
theorem grb_newI {a b c : World} {r : Option Nat} {g : Nat} (h : a.grownBy b r) (k : b.grownBy c (some g)) (hg : a.heap.size ≤ g) : a.grownBy c r :=
  ⟨k.os.trans h.os, k.tape.trans h.tape, k.output.trans h.output, Nat.le_trans h.size k.size, fun i hi hne => (k.block i (Nat.lt_of_lt_of_le hi h.size) (fun e => by injection e with e; omega)).trans (h.block i hi hne)⟩
theorem X.andEI {P : Program} {w : World} {f : Operand → Value} {x y : Operand} {d : Option Tmp} {tx tz ty : TypeId} {pos : String} {aft : Array Edge} {g : Option (Nat × Bool)} {k : IntKind} {m n z : Int} (hx : f x = .int k m) (hy : f y = .int k n) (h : bits .and k m n = z) : (execOp f ⟨d, .binOp .and tx x y tz, ty, pos, aft, g⟩).run P w = .ok (.value (.int k z)) w := by
  have := X.and (P := P) (w := w) (d := d) (tx := tx) (tz := tz) (ty := ty) (pos := pos) (aft := aft) (g := g) hx hy
  rw [h] at this
  exact this
theorem breakpI (A : Option Addr) (n c N a h : Nat) (l : List Int) (w : World) (ho : w.ownsRow N 3 1 (.slice A n c) n (nums .i64 l)) (hf : a + h ≤ n) (hn : n ≤ 900000) (h0 : 12 < h) :
    Calls Try.prog 289 #[.slice A n c, .int .i64 (a : Int), .int .i64 ((a + h : Nat) : Int)] w fun e w' => e = .returned (.tuple #[]) ∧ ∃ l', SwI w w' A n c N a (a + h) l l' := by
  have hl : l.length = n := by have := ho.1; simpa [nums] using this
  have eh : ((a + h : Nat) : Int) - (a : Int) = (h : Int) := by omega
  refine enter Try.func289 rfl (by kernel_rfl) ?_
  refine J.seq ?_
  refine J.region ?_
  refine L.va rfl (X.move (by conv => lhs; whnf)) ?_
  refine L.va rfl (X.move (by conv => lhs; whnf)) ?_
  refine L.va rfl (X.sub rfl rfl (by omega)) ?_
  refine L.va rfl (X.assign (by conv => lhs; whnf)) ?_
  refine L.nil ?_
  -- until
  rw [eh]
  refine J.seq ?_
  refine J.region ?_
  refine L.va rfl (X.move (by conv => lhs; whnf)) ?_
  refine L.va rfl (X.geq rfl rfl) ?_
  refine L.nil ?_
  -- cond
  refine J.decT rfl (by omega) ?_
  refine J.seq ?_
  refine J.region ?_
  refine L.va rfl (X.move (by conv => lhs; whnf)) ?_
  refine L.va rfl ((by first | exact X.convU rfl is_3 Try.underlying329 (by omega) | exact X.convw rfl is_3 Try.underlying329)) ?_
  -- alloc
  refine L.alloc rfl zr_329 ?_
  intro b7 w1 hb7 hs7 hk7 he1
  have ho1 := ho.ext he1
  have hne1 : Value.ownBlock (.slice A n c) ≠ some b7 := fun e => by have := (ho.lt b7 e).2; omega
  -- store
  refine L.store rfl rfl (by conv => lhs; whnf) rfl sz_329 (hk7) (by first | decide | exact Nat.le_of_ble_eq_true rfl) ?_
  intro w2 hk2 hg2 hs2
  have hk2 : Blk w2 b7 329 #[.int .u64 (h : Int)] := hk2
  have ho2 := ho1.kept hg2 (.inr hne1)
  have g2 : w.grownBy w2 (Value.ownBlock (.slice A n c)) := grb_newI (grown_ext he1) hg2 (by omega)
  refine L.nil ?_
  refine J.seq ?_
  refine J.region ?_
  refine L.va rfl (X.move (by conv => lhs; whnf)) ?_
  -- callfn slices.nextPowerOfTwo
  refine L.call rfl en_281 rfl (nextp h w2 (by omega) (by omega)) ?_
  rintro e _ ⟨m, rfl, hm0, hm, rfl⟩
  refine ⟨_, rfl, ?_⟩
  have hwb : w.heap.size ≤ b7 := by omega
  refine L.va rfl (X.assign (by conv => lhs; whnf)) ?_
  refine L.nil ?_
  refine J.seq ?_
  refine J.region ?_
  refine L.va rfl (X.move (by conv => lhs; whnf)) ?_
  refine L.va rfl (X.move (by conv => lhs; whnf)) ?_
  refine L.va rfl (X.quo rfl rfl (by omega)) ?_
  refine L.va rfl (X.mul rfl rfl (by omega)) ?_
  refine L.va rfl (X.add rfl rfl (by omega)) ?_
  refine L.va rfl (X.sub rfl rfl (by omega)) ?_
  refine L.va rfl (X.assign (by conv => lhs; whnf)) ?_
  refine L.nil ?_
  refine J.block ?_
  -- loop
  refine J.loop (X := Int × Nat × List Int) [9, 10, 26, 27, 28, 29, 30, 31, 32, 33, 34, 35, 36, 37, 38, 39, 40, 41, 42, 43, 44, 45, 46, 47, 48, 49, 50, 51, 52, 53, 54, 55, 56, 57, 58, 59, 60, 61, 62, 63, 64] (fun (i, x, m) => [(9, .int .i64 i)]) (fun (i, x, m) w' => (a : Int) ≤ i ∧ i ≤ a + h / 4 * 2 + 2 ∧ x < 18446744073709551616 ∧ Blk w' b7 329 #[.int .u64 (x : Int)] ∧ SwI w w' A n c N a (a + h) l m) (fun (i, _) => ((a : Int) + h / 4 * 2 + 2 - i).toNat) (((a : Int) + h / 4 * 2 - 1, h, l)) (At1 (by first | rfl | exact at_int rfl (by omega) | exact at_slice rfl (by omega) | exact at_int rfl (by simp))) ?_ ?_
  · exact ⟨by omega, by omega, by omega, hk2, ⟨ho2, g2, .refl _⟩⟩
  · rintro ⟨i, x, q⟩ g w3 ⟨h1, h2, hx, hk, M⟩
    have hml : q.length = n := by rw [M.p.len, hl]
    refine J.seq ?_
    refine J.seq ?_
    refine J.region ?_
    refine L.va rfl (X.move (by conv => lhs; whnf)) ?_
    refine L.va rfl (X.move (by conv => lhs; whnf)) ?_
    refine L.va rfl (X.move (by conv => lhs; whnf)) ?_
    refine L.va rfl (X.quo rfl rfl (by omega)) ?_
    refine L.va rfl (X.mul rfl rfl (by omega)) ?_
    refine L.va rfl (X.add rfl rfl (by omega)) ?_
    refine L.va rfl (X.add rfl rfl (by omega)) ?_
    refine L.va rfl (X.leq rfl rfl) ?_
    refine L.nil ?_
    -- cond
    refine J.dec rfl (fun hle => ?_) (fun hle => ?_)
    · refine J.skip ?_
      refine J.seq ?_
      refine J.block ?_
      refine J.seq ?_
      refine J.region ?_
      -- callfn (*slices.xorshift).Next
      refine L.call rfl en_282 rfl (xnext b7 x w3 hk hx) ?_
      rintro e w4 ⟨y, rfl, hy, hk4, hg4⟩
      refine ⟨_, rfl, ?_⟩
      have ho4 := M.o.kept hg4 (.inr hne1)
      have g4 := grb_newI M.g hg4 hwb
      have hand : y &&& (m - 1) ≤ m - 1 := Nat.and_le_right
      -- t39
      obtain ⟨i', rfl⟩ : ∃ i' : Nat, i = (i' : Int) := ⟨i.toNat, by omega⟩
      have hA := (Reads.of_own ho4).some_ (by omega)
      refine L.va rfl (X.move (by conv => lhs; whnf)) ?_
      refine L.va rfl (X.subU rfl rfl (by omega)) ?_
      refine L.va rfl (X.andEI (z := ((y &&& (m - 1) : Nat) : Int)) rfl rfl (by rw [show ((m : Int) - 1) = ((m - 1 : Nat) : Int) by omega]; exact u64_and_nat y (m - 1) hy (by omega))) ?_
      refine L.va rfl ((by first | exact X.convI rfl is_255 Try.underlying3 (by omega) | exact X.convw rfl is_255 Try.underlying3)) ?_
      refine L.va rfl (X.assign (by conv => lhs; whnf)) ?_
      refine L.nil ?_
      -- until
      refine J.cut (X := Nat) [10, 41, 42, 43, 44, 45, 46] (fun o => [(10, .int .i64 (o : Int))]) (fun o w' => w' = w4 ∧ o < h) ?_ ?_
      · refine J.seq ?_
        refine J.region ?_
        refine L.va rfl (X.move (by conv => lhs; whnf)) ?_
        refine L.va rfl (X.move (by conv => lhs; whnf)) ?_
        refine L.va rfl (X.geq rfl rfl) ?_
        refine L.nil ?_
        -- cond
        refine J.dec rfl (fun hge => ?_) (fun hge => ?_)
        · refine J.region ?_
          refine L.va rfl (X.move (by conv => lhs; whnf)) ?_
          refine L.va rfl (X.move (by conv => lhs; whnf)) ?_
          refine L.va rfl (X.sub rfl rfl (by omega)) ?_
          refine L.va rfl (X.assign (by conv => lhs; whnf)) ?_
          refine L.nil ?_
          -- cutend
          refine ⟨(y &&& (m - 1)) - h, At1 (by first | rfl | exact at_int rfl (by omega) | exact at_slice rfl (by omega) | exact at_int rfl (by simp)), (by (iterate 7 refine Agr.lk rfl ?_); exact Agr.rfl'), ?_⟩
          exact ⟨rfl, by omega⟩
        · refine J.skip ?_
          -- cutend
          refine ⟨y &&& (m - 1), At1 (by first | rfl | exact at_int rfl (by omega) | exact at_slice rfl (by omega) | exact at_int rfl (by simp)), (by (iterate 3 refine Agr.lk rfl ?_); exact Agr.rfl'), ?_⟩
          exact ⟨rfl, by omega⟩
      · rintro o g w4' ⟨rfl, ho'⟩
        -- draw
        refine J.draw (ℓ := 1000000) (S := (fun _ => True)) mixed (fun w5d hSE hS_h => ?_)
        have hS : ((fun _ => True)) w5d := trivial
        have hrw5 := (Reads.of_own ho4).ext hSE
        have hoX := ho4.ext hSE
        have hG : w4'.grownBy w5d (Value.ownBlock (.slice A n c)) := grown_ext hSE
        refine D.va 0 rfl (by kernel_rfl) (fun _ _ _ h => h) rfl (fun w' hw => X.move (by conv => lhs; whnf)) hS ?_
        refine D.va 1 rfl (by kernel_rfl) (fun _ _ _ h => h) rfl (fun w' hw => X.move (by conv => lhs; whnf)) hS ?_
        refine D.va 2 rfl (by kernel_rfl) (fun _ _ _ h => h) rfl (fun w' hw => X.move (by conv => lhs; whnf)) hS ?_
        refine D.va 3 rfl (by kernel_rfl) (fun _ _ _ h => h) rfl (fun w' hw => X.move (by conv => lhs; whnf)) hS ?_
        refine D.va 4 rfl (by kernel_rfl) (fun _ _ _ h => h) rfl (fun w' hw => X.move (by conv => lhs; whnf)) hS ?_
        refine D.va 5 rfl (by kernel_rfl) (fun _ _ _ h => h) rfl (fun w' hw => X.add rfl rfl (by omega)) hS ?_
        refine D.va 6 rfl (by kernel_rfl) (fun _ _ _ h => h) rfl (fun w' hw => X.move (by conv => lhs; whnf)) hS ?_
        refine D.va 7 rfl (by kernel_rfl) (fun _ _ _ h => h) rfl (fun w' hw => X.move (by conv => lhs; whnf)) hS ?_
        refine D.va 8 rfl (by kernel_rfl) (fun _ _ _ h => h) rfl (fun w' hw => X.move (by conv => lhs; whnf)) hS ?_
        refine D.va 9 rfl (by kernel_rfl) (fun _ _ _ h => h) rfl (fun w' hw => X.add rfl rfl (by omega)) hS ?_
        refine D.va 10 rfl (by kernel_rfl) (fun _ _ _ h => h) rfl (fun w' hw => (by first | exact X.index1n rfl rfl Try.underlying23 sz_3 (by first | exact Option.some_ne_none _ | exact hA) (by omega) | exact X.index1 rfl rfl Try.underlying23 sz_3 (by first | exact Option.some_ne_none _ | exact hA) (by omega))) hS ?_
        refine D.va 12 rfl (by kernel_rfl) (fun _ _ _ h => h) rfl (fun w' hw => X.move (by conv => lhs; whnf)) hS ?_
        refine D.va 13 rfl (by kernel_rfl) (fun _ _ _ h => h) rfl (fun w' hw => X.move (by conv => lhs; whnf)) hS ?_
        refine D.va 14 rfl (by kernel_rfl) (fun _ _ _ h => h) rfl (fun w' hw => (by first | exact X.index1n rfl rfl Try.underlying23 sz_3 (by first | exact Option.some_ne_none _ | exact hA) (by omega) | exact X.index1 rfl rfl Try.underlying23 sz_3 (by first | exact Option.some_ne_none _ | exact hA) (by omega))) hS ?_
        refine D.two 11 15 (by kernel_rfl) rfl rfl ?_ ?_
        · refine L.va rfl (X.load rfl sc_3 (Ld.num hrw5 (j := a + o) (by omega))) ?_
          refine L.nil ?_
          refine ⟨fun _ => hS, ?_⟩
          refine D.one 15 (by kernel_rfl) rfl ?_
          refine L.va rfl (X.load rfl sc_3 (Ld.num hrw5 (j := i') (by omega))) ?_
          refine L.nil ?_
          refine ⟨fun _ => hS, ?_⟩
          refine D.va 16 rfl (by kernel_rfl) (fun _ _ _ h => h) rfl (fun w' hw => (by first | exact X.index1n rfl rfl Try.underlying23 sz_3 (by first | exact Option.some_ne_none _ | exact hA) (by omega) | exact X.index1 rfl rfl Try.underlying23 sz_3 (by first | exact Option.some_ne_none _ | exact hA) (by omega))) hS ?_
          refine D.one 17 (by kernel_rfl) rfl ?_
          refine L.storeON rfl rfl (by conv => lhs; whnf) sz_3 (hoX) (by omega) ?_
          intro w5 hoX hg2 hb2 hs2
          have hS1 := trivial
          refine L.nil ?_
          refine ⟨fun _ => hS1, ?_⟩
          replace hG := grb_trans hG hg2
          refine D.va 18 rfl (by kernel_rfl) (fun _ _ _ h => h) rfl (fun w' hw => (by first | exact X.index1n rfl rfl Try.underlying23 sz_3 (by first | exact Option.some_ne_none _ | exact hA) (by omega) | exact X.index1 rfl rfl Try.underlying23 sz_3 (by first | exact Option.some_ne_none _ | exact hA) (by omega))) hS1 ?_
          refine D.one 19 (by kernel_rfl) rfl ?_
          refine L.storeON rfl rfl (by conv => lhs; whnf) sz_3 (hoX) (by omega) ?_
          intro w5 hoX hg2 hb2 hs2
          have hS2 := trivial
          refine L.nil ?_
          refine ⟨fun _ => hS2, ?_⟩
          replace hG := grb_trans hG hg2
          refine D.done (by kernel_rfl) ?_
          refine J.region ?_
          refine L.va rfl (X.move (by conv => lhs; whnf)) ?_
          refine L.va rfl (X.add rfl rfl (by omega)) ?_
          refine L.va rfl (X.assign (by conv => lhs; whnf)) ?_
          refine L.nil ?_
          have hk5 : Blk w5 b7 329 #[.int .u64 (y : Int)] := hk4.grown hG hne1.symm
          -- loopend
          refine ⟨((i' : Int) + 1, y, swp q i' (a + o)), At1 (by first | rfl | exact at_int rfl (by omega) | exact at_slice rfl (by omega) | exact at_int rfl (by simp)), (by (iterate 21 refine Agr.lk rfl ?_); refine Agr.lk rfl ?_; refine Agr.hav rfl ?_; (iterate 14 refine Agr.lk rfl ?_); exact Agr.lk rfl (Agr.hav rfl Agr.rfl')), ?_⟩
          exact ⟨⟨by omega, by omega, hy, hk5, ⟨hoX, grb_trans g4 hG, .step M.p ⟨by omega, by omega⟩ ⟨by omega, by omega⟩ (by omega)⟩⟩, by show ((a : Int) + h / 4 * 2 + 2 - ((i' : Int) + 1)).toNat < ((a : Int) + h / 4 * 2 + 2 - (i' : Int)).toNat; omega⟩
        · refine L.va rfl (X.load rfl sc_3 (Ld.num hrw5 (j := i') (by omega))) ?_
          refine L.nil ?_
          refine ⟨fun _ => hS, ?_⟩
          refine D.one 11 (by kernel_rfl) rfl ?_
          refine L.va rfl (X.load rfl sc_3 (Ld.num hrw5 (j := a + o) (by omega))) ?_
          refine L.nil ?_
          refine ⟨fun _ => hS, ?_⟩
          refine D.va 16 rfl (by kernel_rfl) (fun _ _ _ h => h) rfl (fun w' hw => (by first | exact X.index1n rfl rfl Try.underlying23 sz_3 (by first | exact Option.some_ne_none _ | exact hA) (by omega) | exact X.index1 rfl rfl Try.underlying23 sz_3 (by first | exact Option.some_ne_none _ | exact hA) (by omega))) hS ?_
          refine D.one 17 (by kernel_rfl) rfl ?_
          refine L.storeON rfl rfl (by conv => lhs; whnf) sz_3 (hoX) (by omega) ?_
          intro w5 hoX hg2 hb2 hs2
          have hS1 := trivial
          refine L.nil ?_
          refine ⟨fun _ => hS1, ?_⟩
          replace hG := grb_trans hG hg2
          refine D.va 18 rfl (by kernel_rfl) (fun _ _ _ h => h) rfl (fun w' hw => (by first | exact X.index1n rfl rfl Try.underlying23 sz_3 (by first | exact Option.some_ne_none _ | exact hA) (by omega) | exact X.index1 rfl rfl Try.underlying23 sz_3 (by first | exact Option.some_ne_none _ | exact hA) (by omega))) hS1 ?_
          refine D.one 19 (by kernel_rfl) rfl ?_
          refine L.storeON rfl rfl (by conv => lhs; whnf) sz_3 (hoX) (by omega) ?_
          intro w5 hoX hg2 hb2 hs2
          have hS2 := trivial
          refine L.nil ?_
          refine ⟨fun _ => hS2, ?_⟩
          replace hG := grb_trans hG hg2
          refine D.done (by kernel_rfl) ?_
          refine J.region ?_
          refine L.va rfl (X.move (by conv => lhs; whnf)) ?_
          refine L.va rfl (X.add rfl rfl (by omega)) ?_
          refine L.va rfl (X.assign (by conv => lhs; whnf)) ?_
          refine L.nil ?_
          have hk5 : Blk w5 b7 329 #[.int .u64 (y : Int)] := hk4.grown hG hne1.symm
          -- loopend
          refine ⟨((i' : Int) + 1, y, swp q i' (a + o)), At1 (by first | rfl | exact at_int rfl (by omega) | exact at_slice rfl (by omega) | exact at_int rfl (by simp)), (by (iterate 21 refine Agr.lk rfl ?_); refine Agr.lk rfl ?_; refine Agr.hav rfl ?_; (iterate 14 refine Agr.lk rfl ?_); exact Agr.lk rfl (Agr.hav rfl Agr.rfl')), ?_⟩
          exact ⟨⟨by omega, by omega, hy, hk5, ⟨hoX, grb_trans g4 hG, .step M.p ⟨by omega, by omega⟩ ⟨by omega, by omega⟩ (by omega)⟩⟩, by show ((a : Int) + h / 4 * 2 + 2 - ((i' : Int) + 1)).toNat < ((a : Int) + h / 4 * 2 + 2 - (i' : Int)).toNat; omega⟩
    · refine J.exit ?_
      refine thn_exit <| thn_exit <| inB_eq ?_
      -- end
      refine fin0 (.inr rfl) ?_
      exact ⟨rfl, q, M⟩
theorem reverseI (A : Option Addr) (n c N a h : Nat) (l : List Int) (w : World) (ho : w.ownsRow N 3 1 (.slice A n c) n (nums .i64 l)) (hf : a + h ≤ n) (hn : n ≤ 900000) (h0 : 0 < h) :
    Calls Try.prog 291 #[.slice A n c, .int .i64 (a : Int), .int .i64 ((a + h : Nat) : Int)] w fun e w' => e = .returned (.tuple #[]) ∧ ∃ l', SwI w w' A n c N a (a + h) l l' := by
  have hl : l.length = n := by have := ho.1; simpa [nums] using this
  refine enter Try.func291 rfl (by kernel_rfl) ?_
  refine J.seq ?_
  refine J.region ?_
  refine L.va rfl (X.move (by conv => lhs; whnf)) ?_
  refine L.va rfl (X.assign (by conv => lhs; whnf)) ?_
  refine L.nil ?_
  refine J.seq ?_
  refine J.region ?_
  refine L.va rfl (X.move (by conv => lhs; whnf)) ?_
  refine L.va rfl (X.sub rfl rfl (by omega)) ?_
  refine L.va rfl (X.assign (by conv => lhs; whnf)) ?_
  refine L.nil ?_
  refine J.block ?_
  -- loop
  refine J.loop (X := Nat × Int × List Int) [6, 7, 11, 12, 13, 14, 15, 16, 17, 18, 19, 20, 21, 22, 23, 24, 25, 26, 27, 28, 29, 30, 31] (fun (i, j, m) => [(6, .int .i64 (i : Int)), (7, .int .i64 j)]) (fun (i, j, m) w' => a ≤ i ∧ i ≤ a + h ∧ j < a + h ∧ (a : Int) - 1 ≤ j ∧ SwI w w' A n c N a (a + h) l m) (fun (i, _) => a + h - i) ((a, ((a + h : Nat) : Int) - 1, l)) (At2 (by first | rfl | exact at_int rfl (by omega) | exact at_slice rfl (by omega) | exact at_int rfl (by simp)) (by first | rfl | exact at_int rfl (by omega) | exact at_slice rfl (by omega) | exact at_int rfl (by simp))) ?_ ?_
  · exact ⟨Nat.le_refl _, by omega, by omega, by omega, ⟨ho, grown_ext (Ext.refl _), .refl _⟩⟩
  · rintro ⟨i, j, m⟩ g w2 ⟨h1, h2, h3, h4, M⟩
    have hml : m.length = n := by rw [M.p.len, hl]
    refine J.seq ?_
    refine J.seq ?_
    refine J.region ?_
    refine L.va rfl (X.move (by conv => lhs; whnf)) ?_
    refine L.va rfl (X.move (by conv => lhs; whnf)) ?_
    refine L.va rfl (X.lss rfl rfl) ?_
    refine L.nil ?_
    -- cond
    refine J.dec rfl (fun hlt => ?_) (fun hlt => ?_)
    · obtain ⟨k, rfl⟩ : ∃ k : Nat, j = (k : Int) := ⟨j.toNat, by omega⟩
      have ho2 := M.o
      have hA := (Reads.of_own ho2).some_ (by omega)
      refine J.skip ?_
      refine J.block ?_
      refine J.seq ?_
      -- draw
      refine J.draw (ℓ := 1000000) (S := (fun _ => True)) mixed (fun w5d hSE hS_h => ?_)
      have hS : ((fun _ => True)) w5d := trivial
      have hrw5 := (Reads.of_own ho2).ext hSE
      have hoX := ho2.ext hSE
      have hG : w2.grownBy w5d (Value.ownBlock (.slice A n c)) := grown_ext hSE
      refine D.va 0 rfl (by kernel_rfl) (fun _ _ _ h => h) rfl (fun w' hw => X.move (by conv => lhs; whnf)) hS ?_
      refine D.va 1 rfl (by kernel_rfl) (fun _ _ _ h => h) rfl (fun w' hw => X.move (by conv => lhs; whnf)) hS ?_
      refine D.va 2 rfl (by kernel_rfl) (fun _ _ _ h => h) rfl (fun w' hw => X.move (by conv => lhs; whnf)) hS ?_
      refine D.va 3 rfl (by kernel_rfl) (fun _ _ _ h => h) rfl (fun w' hw => X.move (by conv => lhs; whnf)) hS ?_
      refine D.va 4 rfl (by kernel_rfl) (fun _ _ _ h => h) rfl (fun w' hw => X.move (by conv => lhs; whnf)) hS ?_
      refine D.va 5 rfl (by kernel_rfl) (fun _ _ _ h => h) rfl (fun w' hw => X.move (by conv => lhs; whnf)) hS ?_
      refine D.va 6 rfl (by kernel_rfl) (fun _ _ _ h => h) rfl (fun w' hw => (by first | exact X.index1n rfl rfl Try.underlying23 sz_3 (by first | exact Option.some_ne_none _ | exact hA) (by omega) | exact X.index1 rfl rfl Try.underlying23 sz_3 (by first | exact Option.some_ne_none _ | exact hA) (by omega))) hS ?_
      refine D.va 8 rfl (by kernel_rfl) (fun _ _ _ h => h) rfl (fun w' hw => X.move (by conv => lhs; whnf)) hS ?_
      refine D.va 9 rfl (by kernel_rfl) (fun _ _ _ h => h) rfl (fun w' hw => X.move (by conv => lhs; whnf)) hS ?_
      refine D.va 10 rfl (by kernel_rfl) (fun _ _ _ h => h) rfl (fun w' hw => (by first | exact X.index1n rfl rfl Try.underlying23 sz_3 (by first | exact Option.some_ne_none _ | exact hA) (by omega) | exact X.index1 rfl rfl Try.underlying23 sz_3 (by first | exact Option.some_ne_none _ | exact hA) (by omega))) hS ?_
      refine D.two 7 11 (by kernel_rfl) rfl rfl ?_ ?_
      · refine L.va rfl (X.load rfl sc_3 (Ld.num hrw5 (j := k) (by omega))) ?_
        refine L.nil ?_
        refine ⟨fun _ => hS, ?_⟩
        refine D.one 11 (by kernel_rfl) rfl ?_
        refine L.va rfl (X.load rfl sc_3 (Ld.num hrw5 (j := i) (by omega))) ?_
        refine L.nil ?_
        refine ⟨fun _ => hS, ?_⟩
        refine D.va 12 rfl (by kernel_rfl) (fun _ _ _ h => h) rfl (fun w' hw => (by first | exact X.index1n rfl rfl Try.underlying23 sz_3 (by first | exact Option.some_ne_none _ | exact hA) (by omega) | exact X.index1 rfl rfl Try.underlying23 sz_3 (by first | exact Option.some_ne_none _ | exact hA) (by omega))) hS ?_
        refine D.one 13 (by kernel_rfl) rfl ?_
        refine L.storeON rfl rfl (by conv => lhs; whnf) sz_3 (hoX) (by omega) ?_
        intro w5 hoX hg2 hb2 hs2
        have hS1 := trivial
        refine L.nil ?_
        refine ⟨fun _ => hS1, ?_⟩
        replace hG := grb_trans hG hg2
        refine D.va 14 rfl (by kernel_rfl) (fun _ _ _ h => h) rfl (fun w' hw => (by first | exact X.index1n rfl rfl Try.underlying23 sz_3 (by first | exact Option.some_ne_none _ | exact hA) (by omega) | exact X.index1 rfl rfl Try.underlying23 sz_3 (by first | exact Option.some_ne_none _ | exact hA) (by omega))) hS1 ?_
        refine D.one 15 (by kernel_rfl) rfl ?_
        refine L.storeON rfl rfl (by conv => lhs; whnf) sz_3 (hoX) (by omega) ?_
        intro w5 hoX hg2 hb2 hs2
        have hS2 := trivial
        refine L.nil ?_
        refine ⟨fun _ => hS2, ?_⟩
        replace hG := grb_trans hG hg2
        refine D.done (by kernel_rfl) ?_
        refine J.seq ?_
        refine J.region ?_
        refine L.va rfl (X.move (by conv => lhs; whnf)) ?_
        refine L.va rfl (X.add rfl rfl (by omega)) ?_
        refine L.va rfl (X.assign (by conv => lhs; whnf)) ?_
        refine L.nil ?_
        refine J.region ?_
        refine L.va rfl (X.move (by conv => lhs; whnf)) ?_
        refine L.va rfl (X.sub rfl rfl (by omega)) ?_
        refine L.va rfl (X.assign (by conv => lhs; whnf)) ?_
        refine L.nil ?_
        -- loopend
        refine ⟨(i + 1, (k : Int) - 1, swp m i k), At2 (by first | rfl | exact at_int rfl (by omega) | exact at_slice rfl (by omega) | exact at_int rfl (by simp)) (by first | rfl | exact at_int rfl (by omega) | exact at_slice rfl (by omega) | exact at_int rfl (by simp)), (by (iterate 23 refine Agr.lk rfl ?_); exact Agr.lk rfl (Agr.hav rfl Agr.rfl')), ?_⟩
        exact ⟨⟨by omega, by omega, by omega, by omega, ⟨hoX, grb_trans M.g hG, .step M.p ⟨by omega, by omega⟩ ⟨by omega, by omega⟩ (by omega)⟩⟩, by show a + h - (i + 1) < a + h - i; omega⟩
      · refine L.va rfl (X.load rfl sc_3 (Ld.num hrw5 (j := i) (by omega))) ?_
        refine L.nil ?_
        refine ⟨fun _ => hS, ?_⟩
        refine D.one 7 (by kernel_rfl) rfl ?_
        refine L.va rfl (X.load rfl sc_3 (Ld.num hrw5 (j := k) (by omega))) ?_
        refine L.nil ?_
        refine ⟨fun _ => hS, ?_⟩
        refine D.va 12 rfl (by kernel_rfl) (fun _ _ _ h => h) rfl (fun w' hw => (by first | exact X.index1n rfl rfl Try.underlying23 sz_3 (by first | exact Option.some_ne_none _ | exact hA) (by omega) | exact X.index1 rfl rfl Try.underlying23 sz_3 (by first | exact Option.some_ne_none _ | exact hA) (by omega))) hS ?_
        refine D.one 13 (by kernel_rfl) rfl ?_
        refine L.storeON rfl rfl (by conv => lhs; whnf) sz_3 (hoX) (by omega) ?_
        intro w5 hoX hg2 hb2 hs2
        have hS1 := trivial
        refine L.nil ?_
        refine ⟨fun _ => hS1, ?_⟩
        replace hG := grb_trans hG hg2
        refine D.va 14 rfl (by kernel_rfl) (fun _ _ _ h => h) rfl (fun w' hw => (by first | exact X.index1n rfl rfl Try.underlying23 sz_3 (by first | exact Option.some_ne_none _ | exact hA) (by omega) | exact X.index1 rfl rfl Try.underlying23 sz_3 (by first | exact Option.some_ne_none _ | exact hA) (by omega))) hS1 ?_
        refine D.one 15 (by kernel_rfl) rfl ?_
        refine L.storeON rfl rfl (by conv => lhs; whnf) sz_3 (hoX) (by omega) ?_
        intro w5 hoX hg2 hb2 hs2
        have hS2 := trivial
        refine L.nil ?_
        refine ⟨fun _ => hS2, ?_⟩
        replace hG := grb_trans hG hg2
        refine D.done (by kernel_rfl) ?_
        refine J.seq ?_
        refine J.region ?_
        refine L.va rfl (X.move (by conv => lhs; whnf)) ?_
        refine L.va rfl (X.add rfl rfl (by omega)) ?_
        refine L.va rfl (X.assign (by conv => lhs; whnf)) ?_
        refine L.nil ?_
        refine J.region ?_
        refine L.va rfl (X.move (by conv => lhs; whnf)) ?_
        refine L.va rfl (X.sub rfl rfl (by omega)) ?_
        refine L.va rfl (X.assign (by conv => lhs; whnf)) ?_
        refine L.nil ?_
        -- loopend
        refine ⟨(i + 1, (k : Int) - 1, swp m i k), At2 (by first | rfl | exact at_int rfl (by omega) | exact at_slice rfl (by omega) | exact at_int rfl (by simp)) (by first | rfl | exact at_int rfl (by omega) | exact at_slice rfl (by omega) | exact at_int rfl (by simp)), (by (iterate 23 refine Agr.lk rfl ?_); exact Agr.lk rfl (Agr.hav rfl Agr.rfl')), ?_⟩
        exact ⟨⟨by omega, by omega, by omega, by omega, ⟨hoX, grb_trans M.g hG, .step M.p ⟨by omega, by omega⟩ ⟨by omega, by omega⟩ (by omega)⟩⟩, by show a + h - (i + 1) < a + h - i; omega⟩
    · refine J.exit ?_
      refine thn_exit <| thn_exit <| inB_eq ?_
      -- end
      refine fin0 (.inr rfl) ?_
      exact ⟨rfl, m, M⟩
theorem order2I (A : Option Addr) (n c a b sb s : Nat) (l : List Int) (w : World) (hr : Reads w sb 1 A n (nums .i64 l)) (hk : Blk w sb 3 #[.int .i64 (s : Int)]) (hs : s ≤ 1000) (ha : a < n) (hb : b < n) (hn : n ≤ 900000) :
    Calls Try.prog 308 #[.slice A n c, .int .i64 (a : Int), .int .i64 (b : Int), .pointer (some ⟨sb, 0, none⟩)] w fun e w' => ∃ x y s' : Nat, e = .returned (.tuple #[.int .i64 (x : Int), .int .i64 (y : Int)]) ∧ (x = a ∨ x = b) ∧ (y = a ∨ y = b) ∧ s' ≤ s + 1 ∧ Blk w' sb 3 #[.int .i64 (s' : Int)] ∧ Reads w' sb 1 A n (nums .i64 l) ∧ w.grownBy w' (some sb) := by
  have hA := hr.some_ (by omega)
  refine enter Try.func308 rfl (by kernel_rfl) ?_
  refine J.seq ?_
  refine J.region ?_
  refine L.va rfl (X.assign (by conv => lhs; whnf)) ?_
  refine L.va rfl (X.assign (by conv => lhs; whnf)) ?_
  refine L.nil ?_
  refine J.seq ?_
  refine J.seq ?_
  -- draw
  refine J.quiet mixed (by kernel_rfl) ?_
  refine Qt.va rfl (fun w' hw => X.move (by conv => lhs; whnf)) ?_
  refine Qt.va rfl (fun w' hw => X.move (by conv => lhs; whnf)) ?_
  refine Qt.va rfl (fun w' hw => (by first | exact X.index1n rfl rfl Try.underlying23 sz_3 (by first | exact Option.some_ne_none _ | exact hr.some_ (by omega) | exact hA) (by omega) | exact X.index1 rfl rfl Try.underlying23 sz_3 (by first | exact Option.some_ne_none _ | exact hr.some_ (by omega) | exact hA) (by omega))) ?_
  refine Qt.va rfl (fun w' hw => X.load rfl sc_3 (by first | exact Ld.num (hr.ext hw) (by omega) | exact hA)) ?_
  refine Qt.va rfl (fun w' hw => X.move (by conv => lhs; whnf)) ?_
  refine Qt.va rfl (fun w' hw => X.move (by conv => lhs; whnf)) ?_
  refine Qt.va rfl (fun w' hw => (by first | exact X.index1n rfl rfl Try.underlying23 sz_3 (by first | exact Option.some_ne_none _ | exact hr.some_ (by omega) | exact hA) (by omega) | exact X.index1 rfl rfl Try.underlying23 sz_3 (by first | exact Option.some_ne_none _ | exact hr.some_ (by omega) | exact hA) (by omega))) ?_
  refine Qt.va rfl (fun w' hw => X.load rfl sc_3 (by first | exact Ld.num (hr.ext hw) (by omega) | exact hA)) ?_
  -- callfn cmp.Less[int]
  refine Qt.call rfl en_293 rfl (fun w' hw => calls_same hw (clessI (l.getD b 0) (l.getD a 0) w')) ?_
  refine Qt.nil (fun w1 hq => ?_)
  -- cond
  have hk1 := hk.ext hq
  have hr1 := hr.ext hq
  refine J.ite rfl (fun hd => ?_) (fun hd => ?_)
  · skip
    refine J.seq ?_
    refine J.region ?_
    refine L.va rfl (X.move (by conv => lhs; whnf)) ?_
    refine L.va rfl (X.nilCheck rfl) ?_
    refine L.va rfl (X.load rfl sc_3 (by first | exact Ld.blk hk1 rfl | exact hA)) ?_
    refine L.va rfl (X.add rfl rfl (by omega)) ?_
    refine L.va rfl (X.nilCheck rfl) ?_
    -- store
    refine L.store rfl rfl (by conv => lhs; whnf) rfl sz_3 (hk1) (by first | decide | exact Nat.le_of_ble_eq_true rfl) ?_
    intro w2 hk2 hg2 hs2
    have hk2 : Blk w2 sb 3 #[.int .i64 ((s : Int) + 1)] := hk2
    refine L.nil ?_
    refine J.seq ?_
    refine J.region ?_
    refine L.va rfl (X.move (by conv => lhs; whnf)) ?_
    refine L.va rfl (X.move (by conv => lhs; whnf)) ?_
    refine L.va rfl (X.assign (by conv => lhs; whnf)) ?_
    refine L.va rfl (X.assign (by conv => lhs; whnf)) ?_
    refine L.nil ?_
    -- ret
    refine J.ret ?_
    refine thn_ret <| ?_
    refine fin2 ?_
    exact ⟨b, a, s + 1, rfl, .inr rfl, .inl rfl, Nat.le_refl _, hk2, hr1.grown hg2 (Nat.le_of_lt hk1.lt) (fun g hg => by injection hg with hg; omega), grb_trans (grown_ext hq) hg2⟩
  · refine J.skip ?_
    refine J.seq ?_
    refine J.region ?_
    refine L.va rfl (X.move (by conv => lhs; whnf)) ?_
    refine L.va rfl (X.move (by conv => lhs; whnf)) ?_
    refine L.va rfl (X.assign (by conv => lhs; whnf)) ?_
    refine L.va rfl (X.assign (by conv => lhs; whnf)) ?_
    refine L.nil ?_
    -- ret
    refine J.ret ?_
    refine fin2 ?_
    exact ⟨a, b, s, rfl, .inl rfl, .inr rfl, by omega, hk1, hr1, grown_ext hq⟩
theorem medianI (A : Option Addr) (n c a b d sb s : Nat) (l : List Int) (w : World) (hr : Reads w sb 1 A n (nums .i64 l)) (hk : Blk w sb 3 #[.int .i64 (s : Int)]) (hs : s ≤ 900) (ha : a < n) (hb : b < n) (hd : d < n) (hn : n ≤ 900000) :
    Calls Try.prog 305 #[.slice A n c, .int .i64 (a : Int), .int .i64 (b : Int), .int .i64 (d : Int), .pointer (some ⟨sb, 0, none⟩)] w fun e w' => ∃ x s' : Nat, e = .returned (.int .i64 (x : Int)) ∧ (x = a ∨ x = b ∨ x = d) ∧ s' ≤ s + 3 ∧ Blk w' sb 3 #[.int .i64 (s' : Int)] ∧ Reads w' sb 1 A n (nums .i64 l) ∧ w.grownBy w' (some sb) := by
  refine enter Try.func305 rfl (by kernel_rfl) ?_
  refine J.seq ?_
  refine J.region ?_
  refine L.va rfl (X.assign (by conv => lhs; whnf)) ?_
  refine L.nil ?_
  refine J.seq ?_
  refine J.region ?_
  refine L.va rfl (X.move (by conv => lhs; whnf)) ?_
  refine L.va rfl (X.move (by conv => lhs; whnf)) ?_
  refine L.va rfl (X.move (by conv => lhs; whnf)) ?_
  refine L.va rfl (X.move (by conv => lhs; whnf)) ?_
  -- callfn slices.order2Ordered[int]
  refine L.call rfl en_308 rfl (order2I A n c a b sb s l w hr hk (by omega) ha hb hn) ?_
  rintro e w1 ⟨x1, y1, s1, rfl, hx1, hy1, hs1, hk1, hr1, hg1⟩
  refine ⟨_, rfl, ?_⟩
  refine L.va rfl (X.move (by conv => lhs; whnf)) ?_
  refine L.va rfl (X.extract rfl rfl) ?_
  refine L.va rfl (X.extract rfl rfl) ?_
  refine L.va rfl (X.assign (by conv => lhs; whnf)) ?_
  refine L.va rfl (X.assign (by conv => lhs; whnf)) ?_
  refine L.nil ?_
  refine J.seq ?_
  refine J.region ?_
  refine L.va rfl (X.move (by conv => lhs; whnf)) ?_
  refine L.va rfl (X.move (by conv => lhs; whnf)) ?_
  refine L.va rfl (X.move (by conv => lhs; whnf)) ?_
  refine L.va rfl (X.move (by conv => lhs; whnf)) ?_
  -- callfn slices.order2Ordered[int]
  refine L.call rfl en_308 rfl (order2I A n c y1 d sb s1 l w1 hr1 hk1 (by omega) (by omega) hd hn) ?_
  rintro e w2 ⟨x2, y2, s2, rfl, hx2, hy2, hs2, hk2, hr2, hg2⟩
  refine ⟨_, rfl, ?_⟩
  refine L.va rfl (X.move (by conv => lhs; whnf)) ?_
  refine L.va rfl (X.extract rfl rfl) ?_
  refine L.va rfl (X.extract rfl rfl) ?_
  refine L.va rfl (X.assign (by conv => lhs; whnf)) ?_
  refine L.va rfl (X.assign (by conv => lhs; whnf)) ?_
  refine L.nil ?_
  refine J.seq ?_
  refine J.region ?_
  refine L.va rfl (X.move (by conv => lhs; whnf)) ?_
  refine L.va rfl (X.move (by conv => lhs; whnf)) ?_
  refine L.va rfl (X.move (by conv => lhs; whnf)) ?_
  refine L.va rfl (X.move (by conv => lhs; whnf)) ?_
  -- callfn slices.order2Ordered[int]
  refine L.call rfl en_308 rfl (order2I A n c x1 x2 sb s2 l w2 hr2 hk2 (by omega) (by omega) (by omega) hn) ?_
  rintro e w3 ⟨x3, y3, s3, rfl, hx3, hy3, hs3, hk3, hr3, hg3⟩
  refine ⟨_, rfl, ?_⟩
  refine L.va rfl (X.move (by conv => lhs; whnf)) ?_
  refine L.va rfl (X.extract rfl rfl) ?_
  refine L.va rfl (X.extract rfl rfl) ?_
  refine L.va rfl (X.assign (by conv => lhs; whnf)) ?_
  refine L.va rfl (X.assign (by conv => lhs; whnf)) ?_
  refine L.nil ?_
  refine J.seq ?_
  refine J.region ?_
  refine L.va rfl (X.move (by conv => lhs; whnf)) ?_
  refine L.va rfl (X.assign (by conv => lhs; whnf)) ?_
  refine L.nil ?_
  -- ret
  refine J.ret ?_
  refine fin1 ?_
  exact ⟨y3, s3, rfl, by omega, by omega, hk3, hr3, grb_trans (grb_trans hg1 hg2) hg3⟩
theorem medadjI (A : Option Addr) (n c a sb s : Nat) (l : List Int) (w : World) (hr : Reads w sb 1 A n (nums .i64 l)) (hk : Blk w sb 3 #[.int .i64 (s : Int)]) (hs : s ≤ 900) (ha : a + 2 < n) (hn : n ≤ 900000) :
    Calls Try.prog 304 #[.slice A n c, .int .i64 ((a + 1 : Nat) : Int), .pointer (some ⟨sb, 0, none⟩)] w fun e w' => ∃ x s' : Nat, e = .returned (.int .i64 (x : Int)) ∧ a ≤ x ∧ x ≤ a + 2 ∧ s' ≤ s + 3 ∧ Blk w' sb 3 #[.int .i64 (s' : Int)] ∧ Reads w' sb 1 A n (nums .i64 l) ∧ w.grownBy w' (some sb) := by
  have e1 : ((a + 1 : Nat) : Int) - 1 = (a : Int) := by omega
  have e2 : ((a + 1 : Nat) : Int) + 1 = ((a + 2 : Nat) : Int) := by omega
  have c1 := medianI A n c a (a + 1) (a + 2) sb s l w hr hk hs (by omega) (by omega) (by omega) hn
  rw [← e1, ← e2] at c1
  refine enter Try.func304 rfl (by kernel_rfl) ?_
  refine J.seq ?_
  refine J.region ?_
  refine L.va rfl (X.assign (by conv => lhs; whnf)) ?_
  refine L.nil ?_
  refine J.seq ?_
  refine J.region ?_
  refine L.va rfl (X.move (by conv => lhs; whnf)) ?_
  refine L.va rfl (X.move (by conv => lhs; whnf)) ?_
  refine L.va rfl (X.sub rfl rfl (by omega)) ?_
  refine L.va rfl (X.move (by conv => lhs; whnf)) ?_
  refine L.va rfl (X.move (by conv => lhs; whnf)) ?_
  refine L.va rfl (X.add rfl rfl (by omega)) ?_
  refine L.va rfl (X.move (by conv => lhs; whnf)) ?_
  -- callfn slices.medianOrdered[int]
  refine L.call rfl en_305 rfl (c1) ?_
  rintro e w1 ⟨x, s', rfl, hx, hs', hk1, hr1, hg1⟩
  refine ⟨_, rfl, ?_⟩
  refine L.va rfl (X.assign (by conv => lhs; whnf)) ?_
  refine L.nil ?_
  -- ret
  refine J.ret ?_
  refine fin1 ?_
  exact ⟨x, s', rfl, by omega, by omega, hs', hk1, hr1, hg1⟩
theorem pivotI (A : Option Addr) (n c N a h : Nat) (l : List Int) (w : World) (ho : w.ownsRow N 3 1 (.slice A n c) n (nums .i64 l)) (hf : a + h ≤ n) (hn : n ≤ 900000) (h0 : 12 < h) :
    Calls Try.prog 290 #[.slice A n c, .int .i64 (a : Int), .int .i64 ((a + h : Nat) : Int)] w fun e w' => ∃ p k : Nat, e = .returned (.tuple #[.int .i64 (p : Int), .int .i64 (k : Int)]) ∧ a ≤ p ∧ p < a + h ∧ k ≤ 2 ∧ Ext w w' := by
  have eh : ((a + h : Nat) : Int) - (a : Int) = (h : Int) := by omega
  have e1 : (a : Int) + (h : Int) / 4 * 1 = ((a + h / 4 : Nat) : Int) := by omega
  have e2 : (a : Int) + (h : Int) / 4 * 2 = ((a + h / 4 * 2 : Nat) : Int) := by omega
  have e3 : (a : Int) + (h : Int) / 4 * 3 = ((a + h / 4 * 3 : Nat) : Int) := by omega
  refine enter Try.func290 rfl (by kernel_rfl) ?_
  refine J.seq ?_
  refine J.region ?_
  refine L.va rfl (X.assign (by conv => lhs; whnf)) ?_
  refine L.va rfl (X.assign (by conv => lhs; whnf)) ?_
  refine L.nil ?_
  refine J.seq ?_
  refine J.region ?_
  refine L.va rfl (X.move (by conv => lhs; whnf)) ?_
  refine L.va rfl (X.move (by conv => lhs; whnf)) ?_
  refine L.va rfl (X.sub rfl rfl (by omega)) ?_
  refine L.va rfl (X.assign (by conv => lhs; whnf)) ?_
  refine L.nil ?_
  -- until
  rw [eh]
  refine J.seq ?_
  refine J.region ?_
  -- alloc
  refine L.alloc rfl zr_3 ?_
  intro sb w1 hsb hs1 hk1 he1
  have hr1 : Reads w1 sb 1 A n (nums .i64 l) := by
    have := (Reads.of_own ho).ext he1
    rwa [← hsb] at this
  have hwb : w.heap.size ≤ sb := by omega
  have hk1 : Blk w1 sb 3 #[.int .i64 ((0 : Nat) : Int)] := hk1
  refine L.nil ?_
  refine J.seq ?_
  refine J.region ?_
  refine L.va rfl (X.move (by conv => lhs; whnf)) ?_
  refine L.va rfl (X.move (by conv => lhs; whnf)) ?_
  refine L.va rfl (X.quo rfl rfl (by omega)) ?_
  refine L.va rfl (X.mul rfl rfl (by omega)) ?_
  refine L.va rfl (X.add rfl rfl (by omega)) ?_
  refine L.va rfl (X.assign (by conv => lhs; whnf)) ?_
  refine L.nil ?_
  -- until
  rw [e1]
  refine J.seq ?_
  refine J.region ?_
  refine L.va rfl (X.move (by conv => lhs; whnf)) ?_
  refine L.va rfl (X.move (by conv => lhs; whnf)) ?_
  refine L.va rfl (X.quo rfl rfl (by omega)) ?_
  refine L.va rfl (X.mul rfl rfl (by omega)) ?_
  refine L.va rfl (X.add rfl rfl (by omega)) ?_
  refine L.va rfl (X.assign (by conv => lhs; whnf)) ?_
  refine L.nil ?_
  -- until
  rw [e2]
  refine J.seq ?_
  refine J.region ?_
  refine L.va rfl (X.move (by conv => lhs; whnf)) ?_
  refine L.va rfl (X.move (by conv => lhs; whnf)) ?_
  refine L.va rfl (X.quo rfl rfl (by omega)) ?_
  refine L.va rfl (X.mul rfl rfl (by omega)) ?_
  refine L.va rfl (X.add rfl rfl (by omega)) ?_
  refine L.va rfl (X.assign (by conv => lhs; whnf)) ?_
  refine L.nil ?_
  -- until
  rw [e3]
  refine J.seq ?_
  refine J.seq ?_
  refine J.region ?_
  refine L.va rfl (X.move (by conv => lhs; whnf)) ?_
  refine L.va rfl (X.geq rfl rfl) ?_
  refine L.nil ?_
  -- cond
  refine J.decT rfl (by omega) ?_
  -- until
  refine J.cut (X := Nat × Nat × Nat × Nat) [10, 11, 12, 33, 34, 35, 36, 37, 38, 39, 40, 41, 42, 43] (fun (i, j, k, s) => [(10, .int .i64 (i : Int)), (11, .int .i64 (j : Int)), (12, .int .i64 (k : Int))]) (fun (i, j, k, s) w' => a ≤ i ∧ i < a + h ∧ a ≤ j ∧ j < a + h ∧ a ≤ k ∧ k < a + h ∧ s ≤ 9 ∧ Blk w' sb 3 #[.int .i64 (s : Int)] ∧ Reads w' sb 1 A n (nums .i64 l) ∧ w1.grownBy w' (some sb)) ?_ ?_
  · refine J.seq ?_
    refine J.region ?_
    refine L.va rfl (X.move (by conv => lhs; whnf)) ?_
    refine L.va rfl (X.geq rfl rfl) ?_
    refine L.nil ?_
    -- cond
    refine J.dec rfl (fun h50 => ?_) (fun h50 => ?_)
    · have q1 : a + h / 4 = (a + h / 4 - 1) + 1 := by omega
      have q2 : a + h / 4 * 2 = (a + h / 4 * 2 - 1) + 1 := by omega
      have q3 : a + h / 4 * 3 = (a + h / 4 * 3 - 1) + 1 := by omega
      have c1 := medadjI A n c (a + h / 4 - 1) sb 0 l w1 hr1 hk1 (by omega) (by omega) hn
      rw [← q1] at c1
      refine J.seq ?_
      refine J.region ?_
      refine L.va rfl (X.move (by conv => lhs; whnf)) ?_
      refine L.va rfl (X.move (by conv => lhs; whnf)) ?_
      -- callfn slices.medianAdjacentOrdered[int]
      refine L.call rfl en_304 rfl (c1) ?_
      rintro e w2 ⟨x1, s1, rfl, hx1, hy1, hs1, hk2, hr2, hg2⟩
      refine ⟨_, rfl, ?_⟩
      have c2 := medadjI A n c (a + h / 4 * 2 - 1) sb s1 l w2 hr2 hk2 (by omega) (by omega) hn
      rw [← q2] at c2
      refine L.va rfl (X.assign (by conv => lhs; whnf)) ?_
      refine L.nil ?_
      refine J.seq ?_
      refine J.region ?_
      refine L.va rfl (X.move (by conv => lhs; whnf)) ?_
      refine L.va rfl (X.move (by conv => lhs; whnf)) ?_
      -- callfn slices.medianAdjacentOrdered[int]
      refine L.call rfl en_304 rfl (c2) ?_
      rintro e w3 ⟨x2, s2, rfl, hx2, hy2, hs2, hk3, hr3, hg3⟩
      refine ⟨_, rfl, ?_⟩
      have c3 := medadjI A n c (a + h / 4 * 3 - 1) sb s2 l w3 hr3 hk3 (by omega) (by omega) hn
      rw [← q3] at c3
      refine L.va rfl (X.assign (by conv => lhs; whnf)) ?_
      refine L.nil ?_
      refine J.region ?_
      refine L.va rfl (X.move (by conv => lhs; whnf)) ?_
      refine L.va rfl (X.move (by conv => lhs; whnf)) ?_
      -- callfn slices.medianAdjacentOrdered[int]
      refine L.call rfl en_304 rfl (c3) ?_
      rintro e w4 ⟨x3, s3, rfl, hx3, hy3, hs3, hk4, hr4, hg4⟩
      refine ⟨_, rfl, ?_⟩
      refine L.va rfl (X.assign (by conv => lhs; whnf)) ?_
      refine L.nil ?_
      -- cutend
      refine ⟨(x1, x2, x3, s3), At3 (by first | rfl | exact at_int rfl (by omega) | exact at_slice rfl (by omega) | exact at_int rfl (by simp)) (by first | rfl | exact at_int rfl (by omega) | exact at_slice rfl (by omega) | exact at_int rfl (by simp)) (by first | rfl | exact at_int rfl (by omega) | exact at_slice rfl (by omega) | exact at_int rfl (by simp)), (by (iterate 14 refine Agr.lk rfl ?_); exact Agr.rfl'), ?_⟩
      exact ⟨by omega, by omega, by omega, by omega, by omega, by omega, by omega, hk4, hr4, grb_trans (grb_trans hg2 hg3) hg4⟩
    · refine J.skip ?_
      -- cutend
      refine ⟨(a + h / 4, a + h / 4 * 2, a + h / 4 * 3, 0), At3 (by first | rfl | exact at_int rfl (by omega) | exact at_slice rfl (by omega) | exact at_int rfl (by simp)) (by first | rfl | exact at_int rfl (by omega) | exact at_slice rfl (by omega) | exact at_int rfl (by simp)) (by first | rfl | exact at_int rfl (by omega) | exact at_slice rfl (by omega) | exact at_int rfl (by simp)), (by (iterate 2 refine Agr.lk rfl ?_); exact Agr.rfl'), ?_⟩
      exact ⟨by omega, by omega, by omega, by omega, by omega, by omega, by omega, hk1, hr1, grown_ext (Ext.refl _)⟩
  · rintro ⟨i, j, k, s⟩ g w2 ⟨i1, i2, j1, j2, k1, k2, hs, hk2, hr2, hg2⟩
    refine J.region ?_
    refine L.va rfl (X.move (by conv => lhs; whnf)) ?_
    refine L.va rfl (X.move (by conv => lhs; whnf)) ?_
    refine L.va rfl (X.move (by conv => lhs; whnf)) ?_
    refine L.va rfl (X.move (by conv => lhs; whnf)) ?_
    -- callfn slices.medianOrdered[int]
    refine L.call rfl en_305 rfl (medianI A n c i j k sb s l w2 hr2 hk2 (by omega) (by omega) (by omega) (by omega) hn) ?_
    rintro e w3 ⟨x, s', rfl, hx, hs', hk3, hr3, hg3⟩
    refine ⟨_, rfl, ?_⟩
    have hE : Ext w w3 := he1.grw (grb_trans hg2 hg3) (by intro g hg; injection hg with hg; omega)
    refine L.va rfl (X.assign (by conv => lhs; whnf)) ?_
    refine L.nil ?_
    refine J.seq ?_
    refine J.region ?_
    refine L.va rfl (X.load rfl sc_3 (by first | exact Ld.blk hk3 rfl)) ?_
    refine L.nil ?_
    refine J.block ?_
    refine J.seq ?_
    refine J.region ?_
    refine L.va rfl (X.eql rfl rfl) ?_
    refine L.va rfl (X.assign (by conv => lhs; whnf)) ?_
    refine L.nil ?_
    -- cond
    refine J.dec rfl (fun hz => ?_) (fun hz => ?_)
    · refine J.seq ?_
      refine J.region ?_
      refine L.va rfl (X.move (by conv => lhs; whnf)) ?_
      refine L.va rfl (X.assign (by conv => lhs; whnf)) ?_
      refine L.va rfl (X.assign (by conv => lhs; whnf)) ?_
      refine L.nil ?_
      -- ret
      refine J.ret ?_
      refine inB_ret <| ?_
      refine fin2 ?_
      exact ⟨x, 1, rfl, by omega, by omega, by omega, hE⟩
    · refine J.seq ?_
      refine J.region ?_
      refine L.va rfl (X.eql rfl rfl) ?_
      refine L.va rfl (X.assign (by conv => lhs; whnf)) ?_
      refine L.nil ?_
      -- cond
      refine J.dec rfl (fun hz => ?_) (fun hz => ?_)
      · refine J.seq ?_
        refine J.region ?_
        refine L.va rfl (X.move (by conv => lhs; whnf)) ?_
        refine L.va rfl (X.assign (by conv => lhs; whnf)) ?_
        refine L.va rfl (X.assign (by conv => lhs; whnf)) ?_
        refine L.nil ?_
        -- ret
        refine J.ret ?_
        refine inB_ret <| ?_
        refine fin2 ?_
        exact ⟨x, 2, rfl, by omega, by omega, by omega, hE⟩
      · refine J.seq ?_
        refine J.region ?_
        refine L.va rfl (X.move (by conv => lhs; whnf)) ?_
        refine L.va rfl (X.assign (by conv => lhs; whnf)) ?_
        refine L.va rfl (X.assign (by conv => lhs; whnf)) ?_
        refine L.nil ?_
        -- ret
        refine J.ret ?_
        refine inB_ret <| ?_
        refine fin2 ?_
        exact ⟨x, 0, rfl, by omega, by omega, by omega, hE⟩
end Go.Proofs.Ytlipeplfjkgamaa
