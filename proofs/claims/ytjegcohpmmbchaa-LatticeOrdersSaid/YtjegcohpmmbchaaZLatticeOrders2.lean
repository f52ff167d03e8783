import Derived.Test.YtjegcohpmmbchaaZLatticeOrders1
/-
  What the law leans on, part 2: SrtUC, SrtUE, SrtUD, SrtUF.
-/
namespace Go.Proofs.Ytjegcohpmmbchaa
set_option maxRecDepth 100000
open Go.RowKit H
open Srt
set_option linter.unusedVariables false
theorem grb_newU {a b c : World} {r : Option Nat} {g : Nat} (h : a.grownBy b r) (k : b.grownBy c (some g)) (hg : a.heap.size ≤ g) : a.grownBy c r :=
  ⟨k.os.trans h.os, k.tape.trans h.tape, k.output.trans h.output, Nat.le_trans h.size k.size, fun i hi hne => (k.block i (Nat.lt_of_lt_of_le hi h.size) (fun e => by injection e with e; omega)).trans (h.block i hi hne)⟩
theorem X.andEU {P : Program} {w : World} {f : Operand → Value} {x y : Operand} {d : Option Tmp} {tx tz ty : TypeId} {pos : String} {aft : Array Edge} {g : Option (Nat × Bool)} {k : IntKind} {m n z : Int} (hx : f x = .int k m) (hy : f y = .int k n) (h : bits .and k m n = z) : (execOp f ⟨d, .binOp .and tx x y tz, ty, pos, aft, g⟩).run P w = .ok (.value (.int k z)) w := by
  have := X.and (P := P) (w := w) (d := d) (tx := tx) (tz := tz) (ty := ty) (pos := pos) (aft := aft) (g := g) hx hy
  rw [h] at this
  exact this
theorem breakpU (A : Option Addr) (n c N a h : Nat) (l : List Int) (w : World) (ho : w.ownsRow N 30 1 (.slice A n c) n (nums .u32 l)) (hf : a + h ≤ n) (hn : n ≤ 900000) (h0 : 12 < h) :
    Calls Try.prog 40 #[.slice A n c, .int .i64 (a : Int), .int .i64 ((a + h : Nat) : Int)] w fun e w' => e = .returned (.tuple #[]) ∧ ∃ l', SwU w w' A n c N a (a + h) l l' := by
  have hl : l.length = n := by have := ho.1; simpa [nums] using this
  have eh : ((a + h : Nat) : Int) - (a : Int) = (h : Int) := by omega
  refine enter Try.func40 rfl (by kernel_rfl) ?_
  refine J.seq ?_
  refine J.region ?_
  refine L.va rfl (X.move (by conv => lhs; whnf)) ?_
  refine L.va rfl (X.move (by conv => lhs; whnf)) ?_
  refine L.va rfl (X.sub rfl rfl (by omega)) ?_
  refine L.va rfl (X.assign (by conv => lhs; whnf)) ?_
  refine L.nil ?_
  rw [eh]
  refine J.seq ?_
  refine J.region ?_
  refine L.va rfl (X.move (by conv => lhs; whnf)) ?_
  refine L.va rfl (X.geq rfl rfl) ?_
  refine L.nil ?_
  refine J.decT rfl (by omega) ?_
  refine J.seq ?_
  refine J.region ?_
  refine L.va rfl (X.move (by conv => lhs; whnf)) ?_
  refine L.va rfl ((by first | exact X.convU rfl is_3 Try.underlying65 (by omega) | exact X.convw rfl is_3 Try.underlying65)) ?_
  refine L.alloc rfl zr_65 ?_
  intro b7 w1 hb7 hs7 hk7 he1
  have ho1 := ho.ext he1
  have hne1 : Value.ownBlock (.slice A n c) ≠ some b7 := fun e => by have := (ho.lt b7 e).2; omega
  refine L.store rfl rfl (by conv => lhs; whnf) rfl sz_65 (hk7) (by first | decide | exact Nat.le_of_ble_eq_true rfl) ?_
  intro w2 hk2 hg2 hs2
  have hk2 : Blk w2 b7 65 #[.int .u64 (h : Int)] := hk2
  have ho2 := ho1.kept hg2 (.inr hne1)
  have g2 : w.grownBy w2 (Value.ownBlock (.slice A n c)) := grb_newU (grown_ext he1) hg2 (by omega)
  refine L.nil ?_
  refine J.seq ?_
  refine J.region ?_
  refine L.va rfl (X.move (by conv => lhs; whnf)) ?_
  refine L.call rfl en_48 rfl (nextp h w2 (by omega) (by omega)) ?_
  rintro e _ ⟨m, rfl, hm0, hm, rfl⟩
  refine ⟨_, rfl, ?_⟩
  have hwb : w.heap.size ≤ b7 := by omega
  refine L.va rfl (X.assign (by conv => lhs; whnf)) ?_
  refine L.nil ?_
  refine J.seq ?_
  refine J.region ?_
  refine L.va rfl (X.move (by conv => lhs; whnf)) ?_
  refine L.va rfl (X.move (by conv => lhs; whnf)) ?_
  refine L.va rfl (X.quo rfl rfl (by omega)) ?_
  refine L.va rfl (X.mul rfl rfl (by omega)) ?_
  refine L.va rfl (X.add rfl rfl (by omega)) ?_
  refine L.va rfl (X.sub rfl rfl (by omega)) ?_
  refine L.va rfl (X.assign (by conv => lhs; whnf)) ?_
  refine L.nil ?_
  refine J.block ?_
  refine J.loop (X := Int × Nat × List Int) [9, 10, 26, 27, 28, 29, 30, 31, 32, 33, 34, 35, 36, 37, 38, 39, 40, 41, 42, 43, 44, 45, 46, 47, 48, 49, 50, 51, 52, 53, 54, 55, 56, 57, 58, 59, 60, 61, 62, 63, 64] (fun (i, x, m) => [(9, .int .i64 i)]) (fun (i, x, m) w' => (a : Int) ≤ i ∧ i ≤ a + h / 4 * 2 + 2 ∧ x < 18446744073709551616 ∧ Blk w' b7 65 #[.int .u64 (x : Int)] ∧ SwU w w' A n c N a (a + h) l m) (fun (i, _) => ((a : Int) + h / 4 * 2 + 2 - i).toNat) (((a : Int) + h / 4 * 2 - 1, h, l)) (At1 (by first | rfl | exact at_int rfl (by omega) | exact at_slice rfl (by omega) | exact at_int rfl (by simp))) ?_ ?_
  · exact ⟨by omega, by omega, by omega, hk2, ⟨ho2, g2, .refl _⟩⟩
  · rintro ⟨i, x, q⟩ g w3 ⟨h1, h2, hx, hk, M⟩
    have hml : q.length = n := by rw [M.p.len, hl]
    refine J.seq ?_
    refine J.seq ?_
    refine J.region ?_
    refine L.va rfl (X.move (by conv => lhs; whnf)) ?_
    refine L.va rfl (X.move (by conv => lhs; whnf)) ?_
    refine L.va rfl (X.move (by conv => lhs; whnf)) ?_
    refine L.va rfl (X.quo rfl rfl (by omega)) ?_
    refine L.va rfl (X.mul rfl rfl (by omega)) ?_
    refine L.va rfl (X.add rfl rfl (by omega)) ?_
    refine L.va rfl (X.add rfl rfl (by omega)) ?_
    refine L.va rfl (X.leq rfl rfl) ?_
    refine L.nil ?_
    refine J.dec rfl (fun hle => ?_) (fun hle => ?_)
    · refine J.skip ?_
      refine J.seq ?_
      refine J.block ?_
      refine J.seq ?_
      refine J.region ?_
      refine L.call rfl en_49 rfl (xnext b7 x w3 hk hx) ?_
      rintro e w4 ⟨y, rfl, hy, hk4, hg4⟩
      refine ⟨_, rfl, ?_⟩
      have ho4 := M.o.kept hg4 (.inr hne1)
      have g4 := grb_newU M.g hg4 hwb
      have hand : y &&& (m - 1) ≤ m - 1 := Nat.and_le_right
      obtain ⟨i', rfl⟩ : ∃ i' : Nat, i = (i' : Int) := ⟨i.toNat, by omega⟩
      have hA := (Reads.of_own ho4).some_ (by omega)
      refine L.va rfl (X.move (by conv => lhs; whnf)) ?_
      refine L.va rfl (X.subU rfl rfl (by omega)) ?_
      refine L.va rfl (X.andEU (z := ((y &&& (m - 1) : Nat) : Int)) rfl rfl (by rw [show ((m : Int) - 1) = ((m - 1 : Nat) : Int) by omega]; exact u64_and_nat y (m - 1) hy (by omega))) ?_
      refine L.va rfl ((by first | exact X.convI rfl is_46 Try.underlying3 (by omega) | exact X.convw rfl is_46 Try.underlying3)) ?_
      refine L.va rfl (X.assign (by conv => lhs; whnf)) ?_
      refine L.nil ?_
      refine J.cut (X := Nat) [10, 41, 42, 43, 44, 45, 46] (fun o => [(10, .int .i64 (o : Int))]) (fun o w' => w' = w4 ∧ o < h) ?_ ?_
      · refine J.seq ?_
        refine J.region ?_
        refine L.va rfl (X.move (by conv => lhs; whnf)) ?_
        refine L.va rfl (X.move (by conv => lhs; whnf)) ?_
        refine L.va rfl (X.geq rfl rfl) ?_
        refine L.nil ?_
        refine J.dec rfl (fun hge => ?_) (fun hge => ?_)
        · refine J.region ?_
          refine L.va rfl (X.move (by conv => lhs; whnf)) ?_
          refine L.va rfl (X.move (by conv => lhs; whnf)) ?_
          refine L.va rfl (X.sub rfl rfl (by omega)) ?_
          refine L.va rfl (X.assign (by conv => lhs; whnf)) ?_
          refine L.nil ?_
          refine ⟨(y &&& (m - 1)) - h, At1 (by first | rfl | exact at_int rfl (by omega) | exact at_slice rfl (by omega) | exact at_int rfl (by simp)), (by (iterate 7 refine Agr.lk rfl ?_); exact Agr.rfl'), ?_⟩
          exact ⟨rfl, by omega⟩
        · refine J.skip ?_
          refine ⟨y &&& (m - 1), At1 (by first | rfl | exact at_int rfl (by omega) | exact at_slice rfl (by omega) | exact at_int rfl (by simp)), (by (iterate 3 refine Agr.lk rfl ?_); exact Agr.rfl'), ?_⟩
          exact ⟨rfl, by omega⟩
      · rintro o g w4' ⟨rfl, ho'⟩
        refine J.draw (ℓ := 1000000) (S := (fun _ => True)) mixed (fun w5d hSE hS_h => ?_)
        have hS : ((fun _ => True)) w5d := trivial
        have hrw5 := (Reads.of_own ho4).ext hSE
        have hoX := ho4.ext hSE
        have hG : w4'.grownBy w5d (Value.ownBlock (.slice A n c)) := grown_ext hSE
        refine D.va 0 rfl (by kernel_rfl) (fun _ _ _ h => h) rfl (fun w' hw => X.move (by conv => lhs; whnf)) hS ?_
        refine D.va 1 rfl (by kernel_rfl) (fun _ _ _ h => h) rfl (fun w' hw => X.move (by conv => lhs; whnf)) hS ?_
        refine D.va 2 rfl (by kernel_rfl) (fun _ _ _ h => h) rfl (fun w' hw => X.move (by conv => lhs; whnf)) hS ?_
        refine D.va 3 rfl (by kernel_rfl) (fun _ _ _ h => h) rfl (fun w' hw => X.move (by conv => lhs; whnf)) hS ?_
        refine D.va 4 rfl (by kernel_rfl) (fun _ _ _ h => h) rfl (fun w' hw => X.move (by conv => lhs; whnf)) hS ?_
        refine D.va 5 rfl (by kernel_rfl) (fun _ _ _ h => h) rfl (fun w' hw => X.add rfl rfl (by omega)) hS ?_
        refine D.va 6 rfl (by kernel_rfl) (fun _ _ _ h => h) rfl (fun w' hw => X.move (by conv => lhs; whnf)) hS ?_
        refine D.va 7 rfl (by kernel_rfl) (fun _ _ _ h => h) rfl (fun w' hw => X.move (by conv => lhs; whnf)) hS ?_
        refine D.va 8 rfl (by kernel_rfl) (fun _ _ _ h => h) rfl (fun w' hw => X.move (by conv => lhs; whnf)) hS ?_
        refine D.va 9 rfl (by kernel_rfl) (fun _ _ _ h => h) rfl (fun w' hw => X.add rfl rfl (by omega)) hS ?_
        refine D.va 10 rfl (by kernel_rfl) (fun _ _ _ h => h) rfl (fun w' hw => (by first | exact X.index1n rfl rfl Try.underlying22 sz_30 (by first | exact Option.some_ne_none _ | exact hA) (by omega) | exact X.index1 rfl rfl Try.underlying22 sz_30 (by first | exact Option.some_ne_none _ | exact hA) (by omega))) hS ?_
        refine D.va 12 rfl (by kernel_rfl) (fun _ _ _ h => h) rfl (fun w' hw => X.move (by conv => lhs; whnf)) hS ?_
        refine D.va 13 rfl (by kernel_rfl) (fun _ _ _ h => h) rfl (fun w' hw => X.move (by conv => lhs; whnf)) hS ?_
        refine D.va 14 rfl (by kernel_rfl) (fun _ _ _ h => h) rfl (fun w' hw => (by first | exact X.index1n rfl rfl Try.underlying22 sz_30 (by first | exact Option.some_ne_none _ | exact hA) (by omega) | exact X.index1 rfl rfl Try.underlying22 sz_30 (by first | exact Option.some_ne_none _ | exact hA) (by omega))) hS ?_
        refine D.two 11 15 (by kernel_rfl) rfl rfl ?_ ?_
        · refine L.va rfl (X.load rfl sc_30 (Ld.num hrw5 (j := a + o) (by omega))) ?_
          refine L.nil ?_
          refine ⟨fun _ => hS, ?_⟩
          refine D.one 15 (by kernel_rfl) rfl ?_
          refine L.va rfl (X.load rfl sc_30 (Ld.num hrw5 (j := i') (by omega))) ?_
          refine L.nil ?_
          refine ⟨fun _ => hS, ?_⟩
          refine D.va 16 rfl (by kernel_rfl) (fun _ _ _ h => h) rfl (fun w' hw => (by first | exact X.index1n rfl rfl Try.underlying22 sz_30 (by first | exact Option.some_ne_none _ | exact hA) (by omega) | exact X.index1 rfl rfl Try.underlying22 sz_30 (by first | exact Option.some_ne_none _ | exact hA) (by omega))) hS ?_
          refine D.one 17 (by kernel_rfl) rfl ?_
          refine L.storeON rfl rfl (by conv => lhs; whnf) sz_30 (hoX) (by omega) ?_
          intro w5 hoX hg2 hb2 hs2
          have hS1 := trivial
          refine L.nil ?_
          refine ⟨fun _ => hS1, ?_⟩
          replace hG := grb_trans hG hg2
          refine D.va 18 rfl (by kernel_rfl) (fun _ _ _ h => h) rfl (fun w' hw => (by first | exact X.index1n rfl rfl Try.underlying22 sz_30 (by first | exact Option.some_ne_none _ | exact hA) (by omega) | exact X.index1 rfl rfl Try.underlying22 sz_30 (by first | exact Option.some_ne_none _ | exact hA) (by omega))) hS1 ?_
          refine D.one 19 (by kernel_rfl) rfl ?_
          refine L.storeON rfl rfl (by conv => lhs; whnf) sz_30 (hoX) (by omega) ?_
          intro w5 hoX hg2 hb2 hs2
          have hS2 := trivial
          refine L.nil ?_
          refine ⟨fun _ => hS2, ?_⟩
          replace hG := grb_trans hG hg2
          refine D.done (by kernel_rfl) ?_
          refine J.region ?_
          refine L.va rfl (X.move (by conv => lhs; whnf)) ?_
          refine L.va rfl (X.add rfl rfl (by omega)) ?_
          refine L.va rfl (X.assign (by conv => lhs; whnf)) ?_
          refine L.nil ?_
          have hk5 : Blk w5 b7 65 #[.int .u64 (y : Int)] := hk4.grown hG hne1.symm
          refine ⟨((i' : Int) + 1, y, swp q i' (a + o)), At1 (by first | rfl | exact at_int rfl (by omega) | exact at_slice rfl (by omega) | exact at_int rfl (by simp)), (by (iterate 21 refine Agr.lk rfl ?_); refine Agr.lk rfl ?_; refine Agr.hav rfl ?_; (iterate 14 refine Agr.lk rfl ?_); exact Agr.lk rfl (Agr.hav rfl Agr.rfl')), ?_⟩
          exact ⟨⟨by omega, by omega, hy, hk5, ⟨hoX, grb_trans g4 hG, .step M.p ⟨by omega, by omega⟩ ⟨by omega, by omega⟩ (by omega)⟩⟩, by show ((a : Int) + h / 4 * 2 + 2 - ((i' : Int) + 1)).toNat < ((a : Int) + h / 4 * 2 + 2 - (i' : Int)).toNat; omega⟩
        · refine L.va rfl (X.load rfl sc_30 (Ld.num hrw5 (j := i') (by omega))) ?_
          refine L.nil ?_
          refine ⟨fun _ => hS, ?_⟩
          refine D.one 11 (by kernel_rfl) rfl ?_
          refine L.va rfl (X.load rfl sc_30 (Ld.num hrw5 (j := a + o) (by omega))) ?_
          refine L.nil ?_
          refine ⟨fun _ => hS, ?_⟩
          refine D.va 16 rfl (by kernel_rfl) (fun _ _ _ h => h) rfl (fun w' hw => (by first | exact X.index1n rfl rfl Try.underlying22 sz_30 (by first | exact Option.some_ne_none _ | exact hA) (by omega) | exact X.index1 rfl rfl Try.underlying22 sz_30 (by first | exact Option.some_ne_none _ | exact hA) (by omega))) hS ?_
          refine D.one 17 (by kernel_rfl) rfl ?_
          refine L.storeON rfl rfl (by conv => lhs; whnf) sz_30 (hoX) (by omega) ?_
          intro w5 hoX hg2 hb2 hs2
          have hS1 := trivial
          refine L.nil ?_
          refine ⟨fun _ => hS1, ?_⟩
          replace hG := grb_trans hG hg2
          refine D.va 18 rfl (by kernel_rfl) (fun _ _ _ h => h) rfl (fun w' hw => (by first | exact X.index1n rfl rfl Try.underlying22 sz_30 (by first | exact Option.some_ne_none _ | exact hA) (by omega) | exact X.index1 rfl rfl Try.underlying22 sz_30 (by first | exact Option.some_ne_none _ | exact hA) (by omega))) hS1 ?_
          refine D.one 19 (by kernel_rfl) rfl ?_
          refine L.storeON rfl rfl (by conv => lhs; whnf) sz_30 (hoX) (by omega) ?_
          intro w5 hoX hg2 hb2 hs2
          have hS2 := trivial
          refine L.nil ?_
          refine ⟨fun _ => hS2, ?_⟩
          replace hG := grb_trans hG hg2
          refine D.done (by kernel_rfl) ?_
          refine J.region ?_
          refine L.va rfl (X.move (by conv => lhs; whnf)) ?_
          refine L.va rfl (X.add rfl rfl (by omega)) ?_
          refine L.va rfl (X.assign (by conv => lhs; whnf)) ?_
          refine L.nil ?_
          have hk5 : Blk w5 b7 65 #[.int .u64 (y : Int)] := hk4.grown hG hne1.symm
          refine ⟨((i' : Int) + 1, y, swp q i' (a + o)), At1 (by first | rfl | exact at_int rfl (by omega) | exact at_slice rfl (by omega) | exact at_int rfl (by simp)), (by (iterate 21 refine Agr.lk rfl ?_); refine Agr.lk rfl ?_; refine Agr.hav rfl ?_; (iterate 14 refine Agr.lk rfl ?_); exact Agr.lk rfl (Agr.hav rfl Agr.rfl')), ?_⟩
          exact ⟨⟨by omega, by omega, hy, hk5, ⟨hoX, grb_trans g4 hG, .step M.p ⟨by omega, by omega⟩ ⟨by omega, by omega⟩ (by omega)⟩⟩, by show ((a : Int) + h / 4 * 2 + 2 - ((i' : Int) + 1)).toNat < ((a : Int) + h / 4 * 2 + 2 - (i' : Int)).toNat; omega⟩
    · refine J.exit ?_
      refine thn_exit <| thn_exit <| inB_eq ?_
      refine fin0 (.inr rfl) ?_
      exact ⟨rfl, q, M⟩
theorem reverseU (A : Option Addr) (n c N a h : Nat) (l : List Int) (w : World) (ho : w.ownsRow N 30 1 (.slice A n c) n (nums .u32 l)) (hf : a + h ≤ n) (hn : n ≤ 900000) (h0 : 0 < h) :
    Calls Try.prog 42 #[.slice A n c, .int .i64 (a : Int), .int .i64 ((a + h : Nat) : Int)] w fun e w' => e = .returned (.tuple #[]) ∧ ∃ l', SwU w w' A n c N a (a + h) l l' := by
  have hl : l.length = n := by have := ho.1; simpa [nums] using this
  refine enter Try.func42 rfl (by kernel_rfl) ?_
  refine J.seq ?_
  refine J.region ?_
  refine L.va rfl (X.move (by conv => lhs; whnf)) ?_
  refine L.va rfl (X.assign (by conv => lhs; whnf)) ?_
  refine L.nil ?_
  refine J.seq ?_
  refine J.region ?_
  refine L.va rfl (X.move (by conv => lhs; whnf)) ?_
  refine L.va rfl (X.sub rfl rfl (by omega)) ?_
  refine L.va rfl (X.assign (by conv => lhs; whnf)) ?_
  refine L.nil ?_
  refine J.block ?_
  refine J.loop (X := Nat × Int × List Int) [6, 7, 11, 12, 13, 14, 15, 16, 17, 18, 19, 20, 21, 22, 23, 24, 25, 26, 27, 28, 29, 30, 31] (fun (i, j, m) => [(6, .int .i64 (i : Int)), (7, .int .i64 j)]) (fun (i, j, m) w' => a ≤ i ∧ i ≤ a + h ∧ j < a + h ∧ (a : Int) - 1 ≤ j ∧ SwU w w' A n c N a (a + h) l m) (fun (i, _) => a + h - i) ((a, ((a + h : Nat) : Int) - 1, l)) (At2 (by first | rfl | exact at_int rfl (by omega) | exact at_slice rfl (by omega) | exact at_int rfl (by simp)) (by first | rfl | exact at_int rfl (by omega) | exact at_slice rfl (by omega) | exact at_int rfl (by simp))) ?_ ?_
  · exact ⟨Nat.le_refl _, by omega, by omega, by omega, ⟨ho, grown_ext (Ext.refl _), .refl _⟩⟩
  · rintro ⟨i, j, m⟩ g w2 ⟨h1, h2, h3, h4, M⟩
    have hml : m.length = n := by rw [M.p.len, hl]
    refine J.seq ?_
    refine J.seq ?_
    refine J.region ?_
    refine L.va rfl (X.move (by conv => lhs; whnf)) ?_
    refine L.va rfl (X.move (by conv => lhs; whnf)) ?_
    refine L.va rfl (X.lss rfl rfl) ?_
    refine L.nil ?_
    refine J.dec rfl (fun hlt => ?_) (fun hlt => ?_)
    · obtain ⟨k, rfl⟩ : ∃ k : Nat, j = (k : Int) := ⟨j.toNat, by omega⟩
      have ho2 := M.o
      have hA := (Reads.of_own ho2).some_ (by omega)
      refine J.skip ?_
      refine J.block ?_
      refine J.seq ?_
      refine J.draw (ℓ := 1000000) (S := (fun _ => True)) mixed (fun w5d hSE hS_h => ?_)
      have hS : ((fun _ => True)) w5d := trivial
      have hrw5 := (Reads.of_own ho2).ext hSE
      have hoX := ho2.ext hSE
      have hG : w2.grownBy w5d (Value.ownBlock (.slice A n c)) := grown_ext hSE
      refine D.va 0 rfl (by kernel_rfl) (fun _ _ _ h => h) rfl (fun w' hw => X.move (by conv => lhs; whnf)) hS ?_
      refine D.va 1 rfl (by kernel_rfl) (fun _ _ _ h => h) rfl (fun w' hw => X.move (by conv => lhs; whnf)) hS ?_
      refine D.va 2 rfl (by kernel_rfl) (fun _ _ _ h => h) rfl (fun w' hw => X.move (by conv => lhs; whnf)) hS ?_
      refine D.va 3 rfl (by kernel_rfl) (fun _ _ _ h => h) rfl (fun w' hw => X.move (by conv => lhs; whnf)) hS ?_
      refine D.va 4 rfl (by kernel_rfl) (fun _ _ _ h => h) rfl (fun w' hw => X.move (by conv => lhs; whnf)) hS ?_
      refine D.va 5 rfl (by kernel_rfl) (fun _ _ _ h => h) rfl (fun w' hw => X.move (by conv => lhs; whnf)) hS ?_
      refine D.va 6 rfl (by kernel_rfl) (fun _ _ _ h => h) rfl (fun w' hw => (by first | exact X.index1n rfl rfl Try.underlying22 sz_30 (by first | exact Option.some_ne_none _ | exact hA) (by omega) | exact X.index1 rfl rfl Try.underlying22 sz_30 (by first | exact Option.some_ne_none _ | exact hA) (by omega))) hS ?_
      refine D.va 8 rfl (by kernel_rfl) (fun _ _ _ h => h) rfl (fun w' hw => X.move (by conv => lhs; whnf)) hS ?_
      refine D.va 9 rfl (by kernel_rfl) (fun _ _ _ h => h) rfl (fun w' hw => X.move (by conv => lhs; whnf)) hS ?_
      refine D.va 10 rfl (by kernel_rfl) (fun _ _ _ h => h) rfl (fun w' hw => (by first | exact X.index1n rfl rfl Try.underlying22 sz_30 (by first | exact Option.some_ne_none _ | exact hA) (by omega) | exact X.index1 rfl rfl Try.underlying22 sz_30 (by first | exact Option.some_ne_none _ | exact hA) (by omega))) hS ?_
      refine D.two 7 11 (by kernel_rfl) rfl rfl ?_ ?_
      · refine L.va rfl (X.load rfl sc_30 (Ld.num hrw5 (j := k) (by omega))) ?_
        refine L.nil ?_
        refine ⟨fun _ => hS, ?_⟩
        refine D.one 11 (by kernel_rfl) rfl ?_
        refine L.va rfl (X.load rfl sc_30 (Ld.num hrw5 (j := i) (by omega))) ?_
        refine L.nil ?_
        refine ⟨fun _ => hS, ?_⟩
        refine D.va 12 rfl (by kernel_rfl) (fun _ _ _ h => h) rfl (fun w' hw => (by first | exact X.index1n rfl rfl Try.underlying22 sz_30 (by first | exact Option.some_ne_none _ | exact hA) (by omega) | exact X.index1 rfl rfl Try.underlying22 sz_30 (by first | exact Option.some_ne_none _ | exact hA) (by omega))) hS ?_
        refine D.one 13 (by kernel_rfl) rfl ?_
        refine L.storeON rfl rfl (by conv => lhs; whnf) sz_30 (hoX) (by omega) ?_
        intro w5 hoX hg2 hb2 hs2
        have hS1 := trivial
        refine L.nil ?_
        refine ⟨fun _ => hS1, ?_⟩
        replace hG := grb_trans hG hg2
        refine D.va 14 rfl (by kernel_rfl) (fun _ _ _ h => h) rfl (fun w' hw => (by first | exact X.index1n rfl rfl Try.underlying22 sz_30 (by first | exact Option.some_ne_none _ | exact hA) (by omega) | exact X.index1 rfl rfl Try.underlying22 sz_30 (by first | exact Option.some_ne_none _ | exact hA) (by omega))) hS1 ?_
        refine D.one 15 (by kernel_rfl) rfl ?_
        refine L.storeON rfl rfl (by conv => lhs; whnf) sz_30 (hoX) (by omega) ?_
        intro w5 hoX hg2 hb2 hs2
        have hS2 := trivial
        refine L.nil ?_
        refine ⟨fun _ => hS2, ?_⟩
        replace hG := grb_trans hG hg2
        refine D.done (by kernel_rfl) ?_
        refine J.seq ?_
        refine J.region ?_
        refine L.va rfl (X.move (by conv => lhs; whnf)) ?_
        refine L.va rfl (X.add rfl rfl (by omega)) ?_
        refine L.va rfl (X.assign (by conv => lhs; whnf)) ?_
        refine L.nil ?_
        refine J.region ?_
        refine L.va rfl (X.move (by conv => lhs; whnf)) ?_
        refine L.va rfl (X.sub rfl rfl (by omega)) ?_
        refine L.va rfl (X.assign (by conv => lhs; whnf)) ?_
        refine L.nil ?_
        refine ⟨(i + 1, (k : Int) - 1, swp m i k), At2 (by first | rfl | exact at_int rfl (by omega) | exact at_slice rfl (by omega) | exact at_int rfl (by simp)) (by first | rfl | exact at_int rfl (by omega) | exact at_slice rfl (by omega) | exact at_int rfl (by simp)), (by (iterate 23 refine Agr.lk rfl ?_); exact Agr.lk rfl (Agr.hav rfl Agr.rfl')), ?_⟩
        exact ⟨⟨by omega, by omega, by omega, by omega, ⟨hoX, grb_trans M.g hG, .step M.p ⟨by omega, by omega⟩ ⟨by omega, by omega⟩ (by omega)⟩⟩, by show a + h - (i + 1) < a + h - i; omega⟩
      · refine L.va rfl (X.load rfl sc_30 (Ld.num hrw5 (j := i) (by omega))) ?_
        refine L.nil ?_
        refine ⟨fun _ => hS, ?_⟩
        refine D.one 7 (by kernel_rfl) rfl ?_
        refine L.va rfl (X.load rfl sc_30 (Ld.num hrw5 (j := k) (by omega))) ?_
        refine L.nil ?_
        refine ⟨fun _ => hS, ?_⟩
        refine D.va 12 rfl (by kernel_rfl) (fun _ _ _ h => h) rfl (fun w' hw => (by first | exact X.index1n rfl rfl Try.underlying22 sz_30 (by first | exact Option.some_ne_none _ | exact hA) (by omega) | exact X.index1 rfl rfl Try.underlying22 sz_30 (by first | exact Option.some_ne_none _ | exact hA) (by omega))) hS ?_
        refine D.one 13 (by kernel_rfl) rfl ?_
        refine L.storeON rfl rfl (by conv => lhs; whnf) sz_30 (hoX) (by omega) ?_
        intro w5 hoX hg2 hb2 hs2
        have hS1 := trivial
        refine L.nil ?_
        refine ⟨fun _ => hS1, ?_⟩
        replace hG := grb_trans hG hg2
        refine D.va 14 rfl (by kernel_rfl) (fun _ _ _ h => h) rfl (fun w' hw => (by first | exact X.index1n rfl rfl Try.underlying22 sz_30 (by first | exact Option.some_ne_none _ | exact hA) (by omega) | exact X.index1 rfl rfl Try.underlying22 sz_30 (by first | exact Option.some_ne_none _ | exact hA) (by omega))) hS1 ?_
        refine D.one 15 (by kernel_rfl) rfl ?_
        refine L.storeON rfl rfl (by conv => lhs; whnf) sz_30 (hoX) (by omega) ?_
        intro w5 hoX hg2 hb2 hs2
        have hS2 := trivial
        refine L.nil ?_
        refine ⟨fun _ => hS2, ?_⟩
        replace hG := grb_trans hG hg2
        refine D.done (by kernel_rfl) ?_
        refine J.seq ?_
        refine J.region ?_
        refine L.va rfl (X.move (by conv => lhs; whnf)) ?_
        refine L.va rfl (X.add rfl rfl (by omega)) ?_
        refine L.va rfl (X.assign (by conv => lhs; whnf)) ?_
        refine L.nil ?_
        refine J.region ?_
        refine L.va rfl (X.move (by conv => lhs; whnf)) ?_
        refine L.va rfl (X.sub rfl rfl (by omega)) ?_
        refine L.va rfl (X.assign (by conv => lhs; whnf)) ?_
        refine L.nil ?_
        refine ⟨(i + 1, (k : Int) - 1, swp m i k), At2 (by first | rfl | exact at_int rfl (by omega) | exact at_slice rfl (by omega) | exact at_int rfl (by simp)) (by first | rfl | exact at_int rfl (by omega) | exact at_slice rfl (by omega) | exact at_int rfl (by simp)), (by (iterate 23 refine Agr.lk rfl ?_); exact Agr.lk rfl (Agr.hav rfl Agr.rfl')), ?_⟩
        exact ⟨⟨by omega, by omega, by omega, by omega, ⟨hoX, grb_trans M.g hG, .step M.p ⟨by omega, by omega⟩ ⟨by omega, by omega⟩ (by omega)⟩⟩, by show a + h - (i + 1) < a + h - i; omega⟩
    · refine J.exit ?_
      refine thn_exit <| thn_exit <| inB_eq ?_
      refine fin0 (.inr rfl) ?_
      exact ⟨rfl, m, M⟩
theorem order2U (A : Option Addr) (n c a b sb s : Nat) (l : List Int) (w : World) (hr : Reads w sb 1 A n (nums .u32 l)) (hk : Blk w sb 3 #[.int .i64 (s : Int)]) (hs : s ≤ 1000) (ha : a < n) (hb : b < n) (hn : n ≤ 900000) :
    Calls Try.prog 57 #[.slice A n c, .int .i64 (a : Int), .int .i64 (b : Int), .pointer (some ⟨sb, 0, none⟩)] w fun e w' => ∃ x y s' : Nat, e = .returned (.tuple #[.int .i64 (x : Int), .int .i64 (y : Int)]) ∧ (x = a ∨ x = b) ∧ (y = a ∨ y = b) ∧ s' ≤ s + 1 ∧ Blk w' sb 3 #[.int .i64 (s' : Int)] ∧ Reads w' sb 1 A n (nums .u32 l) ∧ w.grownBy w' (some sb) := by
  have hA := hr.some_ (by omega)
  refine enter Try.func57 rfl (by kernel_rfl) ?_
  refine J.seq ?_
  refine J.region ?_
  refine L.va rfl (X.assign (by conv => lhs; whnf)) ?_
  refine L.va rfl (X.assign (by conv => lhs; whnf)) ?_
  refine L.nil ?_
  refine J.seq ?_
  refine J.seq ?_
  refine J.quiet mixed (by kernel_rfl) ?_
  refine Qt.va rfl (fun w' hw => X.move (by conv => lhs; whnf)) ?_
  refine Qt.va rfl (fun w' hw => X.move (by conv => lhs; whnf)) ?_
  refine Qt.va rfl (fun w' hw => (by first | exact X.index1n rfl rfl Try.underlying22 sz_30 (by first | exact Option.some_ne_none _ | exact hr.some_ (by omega) | exact hA) (by omega) | exact X.index1 rfl rfl Try.underlying22 sz_30 (by first | exact Option.some_ne_none _ | exact hr.some_ (by omega) | exact hA) (by omega))) ?_
  refine Qt.va rfl (fun w' hw => X.load rfl sc_30 (by first | exact Ld.num (hr.ext hw) (by omega) | exact hA)) ?_
  refine Qt.va rfl (fun w' hw => X.move (by conv => lhs; whnf)) ?_
  refine Qt.va rfl (fun w' hw => X.move (by conv => lhs; whnf)) ?_
  refine Qt.va rfl (fun w' hw => (by first | exact X.index1n rfl rfl Try.underlying22 sz_30 (by first | exact Option.some_ne_none _ | exact hr.some_ (by omega) | exact hA) (by omega) | exact X.index1 rfl rfl Try.underlying22 sz_30 (by first | exact Option.some_ne_none _ | exact hr.some_ (by omega) | exact hA) (by omega))) ?_
  refine Qt.va rfl (fun w' hw => X.load rfl sc_30 (by first | exact Ld.num (hr.ext hw) (by omega) | exact hA)) ?_
  refine Qt.call rfl en_44 rfl (fun w' hw => calls_same hw (clessU (l.getD b 0) (l.getD a 0) w')) ?_
  refine Qt.nil (fun w1 hq => ?_)
  have hk1 := hk.ext hq
  have hr1 := hr.ext hq
  refine J.ite rfl (fun hd => ?_) (fun hd => ?_)
  · skip
    refine J.seq ?_
    refine J.region ?_
    refine L.va rfl (X.move (by conv => lhs; whnf)) ?_
    refine L.va rfl (X.nilCheck rfl) ?_
    refine L.va rfl (X.load rfl sc_3 (by first | exact Ld.blk hk1 rfl | exact hA)) ?_
    refine L.va rfl (X.add rfl rfl (by omega)) ?_
    refine L.va rfl (X.nilCheck rfl) ?_
    refine L.store rfl rfl (by conv => lhs; whnf) rfl sz_3 (hk1) (by first | decide | exact Nat.le_of_ble_eq_true rfl) ?_
    intro w2 hk2 hg2 hs2
    have hk2 : Blk w2 sb 3 #[.int .i64 ((s : Int) + 1)] := hk2
    refine L.nil ?_
    refine J.seq ?_
    refine J.region ?_
    refine L.va rfl (X.move (by conv => lhs; whnf)) ?_
    refine L.va rfl (X.move (by conv => lhs; whnf)) ?_
    refine L.va rfl (X.assign (by conv => lhs; whnf)) ?_
    refine L.va rfl (X.assign (by conv => lhs; whnf)) ?_
    refine L.nil ?_
    refine J.ret ?_
    refine thn_ret <| ?_
    refine fin2 ?_
    exact ⟨b, a, s + 1, rfl, .inr rfl, .inl rfl, Nat.le_refl _, hk2, hr1.grown hg2 (Nat.le_of_lt hk1.lt) (fun g hg => by injection hg with hg; omega), grb_trans (grown_ext hq) hg2⟩
  · refine J.skip ?_
    refine J.seq ?_
    refine J.region ?_
    refine L.va rfl (X.move (by conv => lhs; whnf)) ?_
    refine L.va rfl (X.move (by conv => lhs; whnf)) ?_
    refine L.va rfl (X.assign (by conv => lhs; whnf)) ?_
    refine L.va rfl (X.assign (by conv => lhs; whnf)) ?_
    refine L.nil ?_
    refine J.ret ?_
    refine fin2 ?_
    exact ⟨a, b, s, rfl, .inl rfl, .inr rfl, by omega, hk1, hr1, grown_ext hq⟩
theorem medianU (A : Option Addr) (n c a b d sb s : Nat) (l : List Int) (w : World) (hr : Reads w sb 1 A n (nums .u32 l)) (hk : Blk w sb 3 #[.int .i64 (s : Int)]) (hs : s ≤ 900) (ha : a < n) (hb : b < n) (hd : d < n) (hn : n ≤ 900000) :
    Calls Try.prog 54 #[.slice A n c, .int .i64 (a : Int), .int .i64 (b : Int), .int .i64 (d : Int), .pointer (some ⟨sb, 0, none⟩)] w fun e w' => ∃ x s' : Nat, e = .returned (.int .i64 (x : Int)) ∧ (x = a ∨ x = b ∨ x = d) ∧ s' ≤ s + 3 ∧ Blk w' sb 3 #[.int .i64 (s' : Int)] ∧ Reads w' sb 1 A n (nums .u32 l) ∧ w.grownBy w' (some sb) := by
  refine enter Try.func54 rfl (by kernel_rfl) ?_
  refine J.seq ?_
  refine J.region ?_
  refine L.va rfl (X.assign (by conv => lhs; whnf)) ?_
  refine L.nil ?_
  refine J.seq ?_
  refine J.region ?_
  refine L.va rfl (X.move (by conv => lhs; whnf)) ?_
  refine L.va rfl (X.move (by conv => lhs; whnf)) ?_
  refine L.va rfl (X.move (by conv => lhs; whnf)) ?_
  refine L.va rfl (X.move (by conv => lhs; whnf)) ?_
  refine L.call rfl en_57 rfl (order2U A n c a b sb s l w hr hk (by omega) ha hb hn) ?_
  rintro e w1 ⟨x1, y1, s1, rfl, hx1, hy1, hs1, hk1, hr1, hg1⟩
  refine ⟨_, rfl, ?_⟩
  refine L.va rfl (X.move (by conv => lhs; whnf)) ?_
  refine L.va rfl (X.extract rfl rfl) ?_
  refine L.va rfl (X.extract rfl rfl) ?_
  refine L.va rfl (X.assign (by conv => lhs; whnf)) ?_
  refine L.va rfl (X.assign (by conv => lhs; whnf)) ?_
  refine L.nil ?_
  refine J.seq ?_
  refine J.region ?_
  refine L.va rfl (X.move (by conv => lhs; whnf)) ?_
  refine L.va rfl (X.move (by conv => lhs; whnf)) ?_
  refine L.va rfl (X.move (by conv => lhs; whnf)) ?_
  refine L.va rfl (X.move (by conv => lhs; whnf)) ?_
  refine L.call rfl en_57 rfl (order2U A n c y1 d sb s1 l w1 hr1 hk1 (by omega) (by omega) hd hn) ?_
  rintro e w2 ⟨x2, y2, s2, rfl, hx2, hy2, hs2, hk2, hr2, hg2⟩
  refine ⟨_, rfl, ?_⟩
  refine L.va rfl (X.move (by conv => lhs; whnf)) ?_
  refine L.va rfl (X.extract rfl rfl) ?_
  refine L.va rfl (X.extract rfl rfl) ?_
  refine L.va rfl (X.assign (by conv => lhs; whnf)) ?_
  refine L.va rfl (X.assign (by conv => lhs; whnf)) ?_
  refine L.nil ?_
  refine J.seq ?_
  refine J.region ?_
  refine L.va rfl (X.move (by conv => lhs; whnf)) ?_
  refine L.va rfl (X.move (by conv => lhs; whnf)) ?_
  refine L.va rfl (X.move (by conv => lhs; whnf)) ?_
  refine L.va rfl (X.move (by conv => lhs; whnf)) ?_
  refine L.call rfl en_57 rfl (order2U A n c x1 x2 sb s2 l w2 hr2 hk2 (by omega) (by omega) (by omega) hn) ?_
  rintro e w3 ⟨x3, y3, s3, rfl, hx3, hy3, hs3, hk3, hr3, hg3⟩
  refine ⟨_, rfl, ?_⟩
  refine L.va rfl (X.move (by conv => lhs; whnf)) ?_
  refine L.va rfl (X.extract rfl rfl) ?_
  refine L.va rfl (X.extract rfl rfl) ?_
  refine L.va rfl (X.assign (by conv => lhs; whnf)) ?_
  refine L.va rfl (X.assign (by conv => lhs; whnf)) ?_
  refine L.nil ?_
  refine J.seq ?_
  refine J.region ?_
  refine L.va rfl (X.move (by conv => lhs; whnf)) ?_
  refine L.va rfl (X.assign (by conv => lhs; whnf)) ?_
  refine L.nil ?_
  refine J.ret ?_
  refine fin1 ?_
  exact ⟨y3, s3, rfl, by omega, by omega, hk3, hr3, grb_trans (grb_trans hg1 hg2) hg3⟩
theorem medadjU (A : Option Addr) (n c a sb s : Nat) (l : List Int) (w : World) (hr : Reads w sb 1 A n (nums .u32 l)) (hk : Blk w sb 3 #[.int .i64 (s : Int)]) (hs : s ≤ 900) (ha : a + 2 < n) (hn : n ≤ 900000) :
    Calls Try.prog 53 #[.slice A n c, .int .i64 ((a + 1 : Nat) : Int), .pointer (some ⟨sb, 0, none⟩)] w fun e w' => ∃ x s' : Nat, e = .returned (.int .i64 (x : Int)) ∧ a ≤ x ∧ x ≤ a + 2 ∧ s' ≤ s + 3 ∧ Blk w' sb 3 #[.int .i64 (s' : Int)] ∧ Reads w' sb 1 A n (nums .u32 l) ∧ w.grownBy w' (some sb) := by
  have e1 : ((a + 1 : Nat) : Int) - 1 = (a : Int) := by omega
  have e2 : ((a + 1 : Nat) : Int) + 1 = ((a + 2 : Nat) : Int) := by omega
  have c1 := medianU A n c a (a + 1) (a + 2) sb s l w hr hk hs (by omega) (by omega) (by omega) hn
  rw [← e1, ← e2] at c1
  refine enter Try.func53 rfl (by kernel_rfl) ?_
  refine J.seq ?_
  refine J.region ?_
  refine L.va rfl (X.assign (by conv => lhs; whnf)) ?_
  refine L.nil ?_
  refine J.seq ?_
  refine J.region ?_
  refine L.va rfl (X.move (by conv => lhs; whnf)) ?_
  refine L.va rfl (X.move (by conv => lhs; whnf)) ?_
  refine L.va rfl (X.sub rfl rfl (by omega)) ?_
  refine L.va rfl (X.move (by conv => lhs; whnf)) ?_
  refine L.va rfl (X.move (by conv => lhs; whnf)) ?_
  refine L.va rfl (X.add rfl rfl (by omega)) ?_
  refine L.va rfl (X.move (by conv => lhs; whnf)) ?_
  refine L.call rfl en_54 rfl (c1) ?_
  rintro e w1 ⟨x, s', rfl, hx, hs', hk1, hr1, hg1⟩
  refine ⟨_, rfl, ?_⟩
  refine L.va rfl (X.assign (by conv => lhs; whnf)) ?_
  refine L.nil ?_
  refine J.ret ?_
  refine fin1 ?_
  exact ⟨x, s', rfl, by omega, by omega, hs', hk1, hr1, hg1⟩
theorem pivotU (A : Option Addr) (n c N a h : Nat) (l : List Int) (w : World) (ho : w.ownsRow N 30 1 (.slice A n c) n (nums .u32 l)) (hf : a + h ≤ n) (hn : n ≤ 900000) (h0 : 12 < h) :
    Calls Try.prog 41 #[.slice A n c, .int .i64 (a : Int), .int .i64 ((a + h : Nat) : Int)] w fun e w' => ∃ p k : Nat, e = .returned (.tuple #[.int .i64 (p : Int), .int .i64 (k : Int)]) ∧ a ≤ p ∧ p < a + h ∧ k ≤ 2 ∧ Ext w w' := by
  have eh : ((a + h : Nat) : Int) - (a : Int) = (h : Int) := by omega
  have e1 : (a : Int) + (h : Int) / 4 * 1 = ((a + h / 4 : Nat) : Int) := by omega
  have e2 : (a : Int) + (h : Int) / 4 * 2 = ((a + h / 4 * 2 : Nat) : Int) := by omega
  have e3 : (a : Int) + (h : Int) / 4 * 3 = ((a + h / 4 * 3 : Nat) : Int) := by omega
  refine enter Try.func41 rfl (by kernel_rfl) ?_
  refine J.seq ?_
  refine J.region ?_
  refine L.va rfl (X.assign (by conv => lhs; whnf)) ?_
  refine L.va rfl (X.assign (by conv => lhs; whnf)) ?_
  refine L.nil ?_
  refine J.seq ?_
  refine J.region ?_
  refine L.va rfl (X.move (by conv => lhs; whnf)) ?_
  refine L.va rfl (X.move (by conv => lhs; whnf)) ?_
  refine L.va rfl (X.sub rfl rfl (by omega)) ?_
  refine L.va rfl (X.assign (by conv => lhs; whnf)) ?_
  refine L.nil ?_
  rw [eh]
  refine J.seq ?_
  refine J.region ?_
  refine L.alloc rfl zr_3 ?_
  intro sb w1 hsb hs1 hk1 he1
  have hr1 : Reads w1 sb 1 A n (nums .u32 l) := by
    have := (Reads.of_own ho).ext he1
    rwa [← hsb] at this
  have hwb : w.heap.size ≤ sb := by omega
  have hk1 : Blk w1 sb 3 #[.int .i64 ((0 : Nat) : Int)] := hk1
  refine L.nil ?_
  refine J.seq ?_
  refine J.region ?_
  refine L.va rfl (X.move (by conv => lhs; whnf)) ?_
  refine L.va rfl (X.move (by conv => lhs; whnf)) ?_
  refine L.va rfl (X.quo rfl rfl (by omega)) ?_
  refine L.va rfl (X.mul rfl rfl (by omega)) ?_
  refine L.va rfl (X.add rfl rfl (by omega)) ?_
  refine L.va rfl (X.assign (by conv => lhs; whnf)) ?_
  refine L.nil ?_
  rw [e1]
  refine J.seq ?_
  refine J.region ?_
  refine L.va rfl (X.move (by conv => lhs; whnf)) ?_
  refine L.va rfl (X.move (by conv => lhs; whnf)) ?_
  refine L.va rfl (X.quo rfl rfl (by omega)) ?_
  refine L.va rfl (X.mul rfl rfl (by omega)) ?_
  refine L.va rfl (X.add rfl rfl (by omega)) ?_
  refine L.va rfl (X.assign (by conv => lhs; whnf)) ?_
  refine L.nil ?_
  rw [e2]
  refine J.seq ?_
  refine J.region ?_
  refine L.va rfl (X.move (by conv => lhs; whnf)) ?_
  refine L.va rfl (X.move (by conv => lhs; whnf)) ?_
  refine L.va rfl (X.quo rfl rfl (by omega)) ?_
  refine L.va rfl (X.mul rfl rfl (by omega)) ?_
  refine L.va rfl (X.add rfl rfl (by omega)) ?_
  refine L.va rfl (X.assign (by conv => lhs; whnf)) ?_
  refine L.nil ?_
  rw [e3]
  refine J.seq ?_
  refine J.seq ?_
  refine J.region ?_
  refine L.va rfl (X.move (by conv => lhs; whnf)) ?_
  refine L.va rfl (X.geq rfl rfl) ?_
  refine L.nil ?_
  refine J.decT rfl (by omega) ?_
  refine J.cut (X := Nat × Nat × Nat × Nat) [10, 11, 12, 33, 34, 35, 36, 37, 38, 39, 40, 41, 42, 43] (fun (i, j, k, s) => [(10, .int .i64 (i : Int)), (11, .int .i64 (j : Int)), (12, .int .i64 (k : Int))]) (fun (i, j, k, s) w' => a ≤ i ∧ i < a + h ∧ a ≤ j ∧ j < a + h ∧ a ≤ k ∧ k < a + h ∧ s ≤ 9 ∧ Blk w' sb 3 #[.int .i64 (s : Int)] ∧ Reads w' sb 1 A n (nums .u32 l) ∧ w1.grownBy w' (some sb)) ?_ ?_
  · refine J.seq ?_
    refine J.region ?_
    refine L.va rfl (X.move (by conv => lhs; whnf)) ?_
    refine L.va rfl (X.geq rfl rfl) ?_
    refine L.nil ?_
    refine J.dec rfl (fun h50 => ?_) (fun h50 => ?_)
    · have q1 : a + h / 4 = (a + h / 4 - 1) + 1 := by omega
      have q2 : a + h / 4 * 2 = (a + h / 4 * 2 - 1) + 1 := by omega
      have q3 : a + h / 4 * 3 = (a + h / 4 * 3 - 1) + 1 := by omega
      have c1 := medadjU A n c (a + h / 4 - 1) sb 0 l w1 hr1 hk1 (by omega) (by omega) hn
      rw [← q1] at c1
      refine J.seq ?_
      refine J.region ?_
      refine L.va rfl (X.move (by conv => lhs; whnf)) ?_
      refine L.va rfl (X.move (by conv => lhs; whnf)) ?_
      refine L.call rfl en_53 rfl (c1) ?_
      rintro e w2 ⟨x1, s1, rfl, hx1, hy1, hs1, hk2, hr2, hg2⟩
      refine ⟨_, rfl, ?_⟩
      have c2 := medadjU A n c (a + h / 4 * 2 - 1) sb s1 l w2 hr2 hk2 (by omega) (by omega) hn
      rw [← q2] at c2
      refine L.va rfl (X.assign (by conv => lhs; whnf)) ?_
      refine L.nil ?_
      refine J.seq ?_
      refine J.region ?_
      refine L.va rfl (X.move (by conv => lhs; whnf)) ?_
      refine L.va rfl (X.move (by conv => lhs; whnf)) ?_
      refine L.call rfl en_53 rfl (c2) ?_
      rintro e w3 ⟨x2, s2, rfl, hx2, hy2, hs2, hk3, hr3, hg3⟩
      refine ⟨_, rfl, ?_⟩
      have c3 := medadjU A n c (a + h / 4 * 3 - 1) sb s2 l w3 hr3 hk3 (by omega) (by omega) hn
      rw [← q3] at c3
      refine L.va rfl (X.assign (by conv => lhs; whnf)) ?_
      refine L.nil ?_
      refine J.region ?_
      refine L.va rfl (X.move (by conv => lhs; whnf)) ?_
      refine L.va rfl (X.move (by conv => lhs; whnf)) ?_
      refine L.call rfl en_53 rfl (c3) ?_
      rintro e w4 ⟨x3, s3, rfl, hx3, hy3, hs3, hk4, hr4, hg4⟩
      refine ⟨_, rfl, ?_⟩
      refine L.va rfl (X.assign (by conv => lhs; whnf)) ?_
      refine L.nil ?_
      refine ⟨(x1, x2, x3, s3), At3 (by first | rfl | exact at_int rfl (by omega) | exact at_slice rfl (by omega) | exact at_int rfl (by simp)) (by first | rfl | exact at_int rfl (by omega) | exact at_slice rfl (by omega) | exact at_int rfl (by simp)) (by first | rfl | exact at_int rfl (by omega) | exact at_slice rfl (by omega) | exact at_int rfl (by simp)), (by (iterate 14 refine Agr.lk rfl ?_); exact Agr.rfl'), ?_⟩
      exact ⟨by omega, by omega, by omega, by omega, by omega, by omega, by omega, hk4, hr4, grb_trans (grb_trans hg2 hg3) hg4⟩
    · refine J.skip ?_
      refine ⟨(a + h / 4, a + h / 4 * 2, a + h / 4 * 3, 0), At3 (by first | rfl | exact at_int rfl (by omega) | exact at_slice rfl (by omega) | exact at_int rfl (by simp)) (by first | rfl | exact at_int rfl (by omega) | exact at_slice rfl (by omega) | exact at_int rfl (by simp)) (by first | rfl | exact at_int rfl (by omega) | exact at_slice rfl (by omega) | exact at_int rfl (by simp)), (by (iterate 2 refine Agr.lk rfl ?_); exact Agr.rfl'), ?_⟩
      exact ⟨by omega, by omega, by omega, by omega, by omega, by omega, by omega, hk1, hr1, grown_ext (Ext.refl _)⟩
  · rintro ⟨i, j, k, s⟩ g w2 ⟨i1, i2, j1, j2, k1, k2, hs, hk2, hr2, hg2⟩
    refine J.region ?_
    refine L.va rfl (X.move (by conv => lhs; whnf)) ?_
    refine L.va rfl (X.move (by conv => lhs; whnf)) ?_
    refine L.va rfl (X.move (by conv => lhs; whnf)) ?_
    refine L.va rfl (X.move (by conv => lhs; whnf)) ?_
    refine L.call rfl en_54 rfl (medianU A n c i j k sb s l w2 hr2 hk2 (by omega) (by omega) (by omega) (by omega) hn) ?_
    rintro e w3 ⟨x, s', rfl, hx, hs', hk3, hr3, hg3⟩
    refine ⟨_, rfl, ?_⟩
    have hE : Ext w w3 := he1.grw (grb_trans hg2 hg3) (by intro g hg; injection hg with hg; omega)
    refine L.va rfl (X.assign (by conv => lhs; whnf)) ?_
    refine L.nil ?_
    refine J.seq ?_
    refine J.region ?_
    refine L.va rfl (X.load rfl sc_3 (by first | exact Ld.blk hk3 rfl)) ?_
    refine L.nil ?_
    refine J.block ?_
    refine J.seq ?_
    refine J.region ?_
    refine L.va rfl (X.eql rfl rfl) ?_
    refine L.va rfl (X.assign (by conv => lhs; whnf)) ?_
    refine L.nil ?_
    refine J.dec rfl (fun hz => ?_) (fun hz => ?_)
    · refine J.seq ?_
      refine J.region ?_
      refine L.va rfl (X.move (by conv => lhs; whnf)) ?_
      refine L.va rfl (X.assign (by conv => lhs; whnf)) ?_
      refine L.va rfl (X.assign (by conv => lhs; whnf)) ?_
      refine L.nil ?_
      refine J.ret ?_
      refine inB_ret <| ?_
      refine fin2 ?_
      exact ⟨x, 1, rfl, by omega, by omega, by omega, hE⟩
    · refine J.seq ?_
      refine J.region ?_
      refine L.va rfl (X.eql rfl rfl) ?_
      refine L.va rfl (X.assign (by conv => lhs; whnf)) ?_
      refine L.nil ?_
      refine J.dec rfl (fun hz => ?_) (fun hz => ?_)
      · refine J.seq ?_
        refine J.region ?_
        refine L.va rfl (X.move (by conv => lhs; whnf)) ?_
        refine L.va rfl (X.assign (by conv => lhs; whnf)) ?_
        refine L.va rfl (X.assign (by conv => lhs; whnf)) ?_
        refine L.nil ?_
        refine J.ret ?_
        refine inB_ret <| ?_
        refine fin2 ?_
        exact ⟨x, 2, rfl, by omega, by omega, by omega, hE⟩
      · refine J.seq ?_
        refine J.region ?_
        refine L.va rfl (X.move (by conv => lhs; whnf)) ?_
        refine L.va rfl (X.assign (by conv => lhs; whnf)) ?_
        refine L.va rfl (X.assign (by conv => lhs; whnf)) ?_
        refine L.nil ?_
        refine J.ret ?_
        refine inB_ret <| ?_
        refine fin2 ?_
        exact ⟨x, 0, rfl, by omega, by omega, by omega, hE⟩
end Go.Proofs.Ytjegcohpmmbchaa
namespace Go.Proofs.Ytjegcohpmmbchaa
set_option maxRecDepth 100000
open Go.RowKit H
open Srt
set_option linter.unusedVariables false
theorem parteqU (A : Option Addr) (n c N a b p : Nat) (l : List Int) (w : World) (ho : w.ownsRow N 30 1 (.slice A n c) n (nums .u32 l)) (hb : b ≤ n) (hn : n ≤ 900000) (hp : a ≤ p ∧ p < b) :
    Calls Try.prog 45 #[.slice A n c, .int .i64 (a : Int), .int .i64 (b : Int), .int .i64 (p : Int)] w fun e w' => ∃ (l' : List Int) (q : Nat), e = .returned (.int .i64 (q : Int)) ∧ SwU w w' A n c N a b l l' ∧ a < q ∧ q ≤ b ∧ (∀ k, a ≤ k → k < q → l'.getD k 0 ≤ l.getD p 0) ∧ ∀ k, q ≤ k → k < b → l.getD p 0 < l'.getD k 0 := by
  have hl : l.length = n := by have := ho.1; simpa [nums] using this
  have hA := (Reads.of_own ho).some_ (by omega)
  have e0 : (b : Int) - 1 = ((b - 1 : Nat) : Int) := by omega
  refine enter Try.func45 rfl (by kernel_rfl) ?_
  refine J.seq ?_
  refine J.region ?_
  refine L.va rfl (X.assign (by conv => lhs; whnf)) ?_
  refine L.nil ?_
  refine J.seq ?_
  refine J.draw (ℓ := 1000000) (S := (fun _ => True)) mixed (fun w2d hSE hS_h => ?_)
  have hS : ((fun _ => True)) w2d := trivial
  have hrw2 := (Reads.of_own ho).ext hSE
  have hoX := ho.ext hSE
  have hG : w.grownBy w2d (Value.ownBlock (.slice A n c)) := grown_ext hSE
  refine D.va 0 rfl (by kernel_rfl) (fun _ _ _ h => h) rfl (fun w' hw => X.move (by conv => lhs; whnf)) hS ?_
  refine D.va 1 rfl (by kernel_rfl) (fun _ _ _ h => h) rfl (fun w' hw => X.move (by conv => lhs; whnf)) hS ?_
  refine D.va 2 rfl (by kernel_rfl) (fun _ _ _ h => h) rfl (fun w' hw => X.move (by conv => lhs; whnf)) hS ?_
  refine D.va 3 rfl (by kernel_rfl) (fun _ _ _ h => h) rfl (fun w' hw => X.move (by conv => lhs; whnf)) hS ?_
  refine D.va 4 rfl (by kernel_rfl) (fun _ _ _ h => h) rfl (fun w' hw => X.move (by conv => lhs; whnf)) hS ?_
  refine D.va 5 rfl (by kernel_rfl) (fun _ _ _ h => h) rfl (fun w' hw => X.move (by conv => lhs; whnf)) hS ?_
  refine D.va 6 rfl (by kernel_rfl) (fun _ _ _ h => h) rfl (fun w' hw => (by first | exact X.index1n rfl rfl Try.underlying22 sz_30 (by first | exact Option.some_ne_none _ | exact hA) (by omega) | exact X.index1 rfl rfl Try.underlying22 sz_30 (by first | exact Option.some_ne_none _ | exact hA) (by omega))) hS ?_
  refine D.va 8 rfl (by kernel_rfl) (fun _ _ _ h => h) rfl (fun w' hw => X.move (by conv => lhs; whnf)) hS ?_
  refine D.va 9 rfl (by kernel_rfl) (fun _ _ _ h => h) rfl (fun w' hw => X.move (by conv => lhs; whnf)) hS ?_
  refine D.va 10 rfl (by kernel_rfl) (fun _ _ _ h => h) rfl (fun w' hw => (by first | exact X.index1n rfl rfl Try.underlying22 sz_30 (by first | exact Option.some_ne_none _ | exact hA) (by omega) | exact X.index1 rfl rfl Try.underlying22 sz_30 (by first | exact Option.some_ne_none _ | exact hA) (by omega))) hS ?_
  refine D.two 7 11 (by kernel_rfl) rfl rfl ?_ ?_
  · refine L.va rfl (X.load rfl sc_30 (Ld.num hrw2 (j := p) (by omega))) ?_
    refine L.nil ?_
    refine ⟨fun _ => hS, ?_⟩
    refine D.one 11 (by kernel_rfl) rfl ?_
    refine L.va rfl (X.load rfl sc_30 (Ld.num hrw2 (j := a) (by omega))) ?_
    refine L.nil ?_
    refine ⟨fun _ => hS, ?_⟩
    refine D.va 12 rfl (by kernel_rfl) (fun _ _ _ h => h) rfl (fun w' hw => (by first | exact X.index1n rfl rfl Try.underlying22 sz_30 (by first | exact Option.some_ne_none _ | exact hA) (by omega) | exact X.index1 rfl rfl Try.underlying22 sz_30 (by first | exact Option.some_ne_none _ | exact hA) (by omega))) hS ?_
    refine D.one 13 (by kernel_rfl) rfl ?_
    refine L.storeON rfl rfl (by conv => lhs; whnf) sz_30 (hoX) (by omega) ?_
    intro w2 hoX hg2 hb2 hs2
    have hS1 := trivial
    refine L.nil ?_
    refine ⟨fun _ => hS1, ?_⟩
    replace hG := grb_trans hG hg2
    refine D.va 14 rfl (by kernel_rfl) (fun _ _ _ h => h) rfl (fun w' hw => (by first | exact X.index1n rfl rfl Try.underlying22 sz_30 (by first | exact Option.some_ne_none _ | exact hA) (by omega) | exact X.index1 rfl rfl Try.underlying22 sz_30 (by first | exact Option.some_ne_none _ | exact hA) (by omega))) hS1 ?_
    refine D.one 15 (by kernel_rfl) rfl ?_
    refine L.storeON rfl rfl (by conv => lhs; whnf) sz_30 (hoX) (by omega) ?_
    intro w2 hoX hg2 hb2 hs2
    have hS2 := trivial
    refine L.nil ?_
    refine ⟨fun _ => hS2, ?_⟩
    replace hG := grb_trans hG hg2
    refine D.done (by kernel_rfl) ?_
    refine J.seq ?_
    refine J.region ?_
    refine L.va rfl (X.move (by conv => lhs; whnf)) ?_
    refine L.va rfl (X.add rfl rfl (by omega)) ?_
    refine L.va rfl (X.move (by conv => lhs; whnf)) ?_
    refine L.va rfl (X.sub rfl rfl (by omega)) ?_
    refine L.va rfl (X.assign (by conv => lhs; whnf)) ?_
    refine L.va rfl (X.assign (by conv => lhs; whnf)) ?_
    refine L.nil ?_
    refine J.seq ?_
    refine J.block ?_
    have ea : (swp l a p).getD a 0 = l.getD p 0 := by
      rw [swp_at l (by omega) (by omega)]
      by_cases e : a = p
      · rw [if_pos e, e]
      · rw [if_neg e, if_pos rfl]
    have M0 : SwU w w2 A n c N a b l (swp l a p) := ⟨hoX, hG, .step (.refl _) ⟨by omega, by omega⟩ hp (by omega)⟩
    have HP0 : Pt (· ≤ ·) (fun x y => y < x) (swp l a p) a b (a + 1) (b - 1) := ⟨by omega, by omega, by omega, (fun k k1 k2 => by omega), (fun k k1 k2 => by omega)⟩
    rw [e0]
    refine J.loop (X := Nat × Nat × List Int) [9, 10, 29, 30, 31, 32, 33, 34, 35, 36, 37, 38, 39, 40, 41, 42, 43, 44, 45, 46, 47, 48, 49, 50, 51, 52, 53, 54, 55, 56, 57, 58, 59, 60, 61, 62, 63, 64, 65, 66, 67, 68, 69, 70, 71, 72, 73, 74, 75, 76, 77, 78, 79, 80, 81, 82] (fun (i, j, m) => [(9, .int .i64 (i : Int)), (10, .int .i64 (j : Int))]) (fun (i, j, m) w' => SwU w w' A n c N a b l m ∧ Pt (· ≤ ·) (fun x y => y < x) m a b i j ∧ m.getD a 0 = l.getD p 0) (fun (i, j, _) => j + 1 - i) ((a + 1, b - 1, swp l a p)) (At2 (by first | rfl | exact at_int rfl (by omega) | exact at_slice rfl (by omega) | exact at_int rfl (by simp)) (by first | rfl | exact at_int rfl (by omega) | exact at_slice rfl (by omega) | exact at_int rfl (by simp))) ?_ ?_
    · exact ⟨M0, HP0, ea⟩
    · rintro ⟨i, j, m⟩ g w3 ⟨M, HP, em⟩
      have hml : m.length = n := by rw [M.p.len, hl]
      have HO := M.o
      obtain ⟨io, hio⟩ : ∃ io, io = i := ⟨_, rfl⟩
      refine J.block ?_
      refine J.cut (X := Nat) [9, 29, 30, 31, 32, 33, 34, 35, 36, 37, 38, 39, 40, 41, 42, 43, 44, 45] (fun i => [(9, .int .i64 (i : Int))]) (fun i w' => Pt (· ≤ ·) (fun x y => y < x) m a b i j ∧ (i ≤ j → ¬ m.getD i 0 ≤ m.getD a 0) ∧ io ≤ i ∧ Ext w3 w') ?_ ?_
      · refine J.block ?_
        refine J.loop (X := Nat) [9, 29, 30, 31, 32, 33, 34, 35, 36, 37, 38, 39, 40, 41, 42, 43, 44, 45] (fun i => [(9, .int .i64 (i : Int))]) (fun i w' => Pt (· ≤ ·) (fun x y => y < x) m a b i j ∧ io ≤ i ∧ Ext w3 w') (fun i => j + 1 - i) (i) (At1 (by first | rfl | exact at_int rfl (by omega) | exact at_slice rfl (by omega) | exact at_int rfl (by simp))) ?_ ?_
        · exact ⟨HP, by omega, Ext.refl _⟩
        · rintro i g w4 ⟨HP, hbd, he⟩
          have h1 := HP.ai
          have h2 := HP.ij
          have h3 := HP.jb
          have hr := Reads.of_own (HO.ext he)
          have hA := hr.some_ (by omega)
          refine J.seq ?_
          refine J.seq ?_
          refine J.quiet mixed (by kernel_rfl) ?_
          refine Qt.va rfl (fun w' hw => X.move (by conv => lhs; whnf)) ?_
          refine Qt.va rfl (fun w' hw => X.move (by conv => lhs; whnf)) ?_
          refine Qt.va rfl (fun w' hw => X.leq rfl rfl) ?_
          refine Qt.va rfl (fun w' hw => X.move (by conv => lhs; whnf)) ?_
          refine Qt.caseDec (k := 32) rfl (fun hij => ?_) (fun hij => ?_)
          · refine Qt.va rfl (fun w' hw => X.move (by conv => lhs; whnf)) ?_
            refine Qt.va rfl (fun w' hw => X.move (by conv => lhs; whnf)) ?_
            refine Qt.va rfl (fun w' hw => (by first | exact X.index1n rfl rfl Try.underlying22 sz_30 (by first | exact Option.some_ne_none _ | exact hr.some_ (by omega) | exact hA) (by omega) | exact X.index1 rfl rfl Try.underlying22 sz_30 (by first | exact Option.some_ne_none _ | exact hr.some_ (by omega) | exact hA) (by omega))) ?_
            refine Qt.va rfl (fun w' hw => X.load rfl sc_30 (by first | exact Ld.num (hr.ext hw) (by omega) | exact hA)) ?_
            refine Qt.va rfl (fun w' hw => X.move (by conv => lhs; whnf)) ?_
            refine Qt.va rfl (fun w' hw => X.move (by conv => lhs; whnf)) ?_
            refine Qt.va rfl (fun w' hw => (by first | exact X.index1n rfl rfl Try.underlying22 sz_30 (by first | exact Option.some_ne_none _ | exact hr.some_ (by omega) | exact hA) (by omega) | exact X.index1 rfl rfl Try.underlying22 sz_30 (by first | exact Option.some_ne_none _ | exact hr.some_ (by omega) | exact hA) (by omega))) ?_
            refine Qt.va rfl (fun w' hw => X.load rfl sc_30 (by first | exact Ld.num (hr.ext hw) (by omega) | exact hA)) ?_
            refine Qt.call rfl en_44 rfl (fun w' hw => calls_same hw (clessU (m.getD a 0) (m.getD i 0) w')) ?_
            refine Qt.va rfl (fun w' hw => X.not rfl) ?_
            refine Qt.va rfl (fun w' hw => X.pickT rfl (by conv => lhs; whnf)) ?_
            refine Qt.nil (fun w5 hq => ?_)
            by_cases hd : m.getD i 0 ≤ m.getD a 0
            · rw [show decide (m.getD a 0 < m.getD i 0) = false from decide_eq_false (by omega)]
              refine J.iteT rfl ?_
              refine J.skip ?_
              refine J.block ?_
              refine J.region ?_
              refine L.va rfl (X.move (by conv => lhs; whnf)) ?_
              refine L.va rfl (X.add rfl rfl (by omega)) ?_
              refine L.va rfl (X.assign (by conv => lhs; whnf)) ?_
              refine L.nil ?_
              refine ⟨i + 1, At1 (by first | rfl | exact at_int rfl (by omega) | exact at_slice rfl (by omega) | exact at_int rfl (by simp)), (by (iterate 19 refine Agr.lk rfl ?_); exact Agr.lk rfl (Agr.hav rfl Agr.rfl')), ?_⟩
              exact ⟨⟨⟨by omega, by omega, h3, fun k k1 k2 => by
                rcases Nat.lt_or_ge k i with h | h
                · exact HP.le k k1 h
                · obtain rfl : k = i := by omega
                  exact hd, HP.ri⟩, by omega, he.trans hq⟩, by omega⟩
            · rw [show decide (m.getD a 0 < m.getD i 0) = true from decide_eq_true (by omega)]
              refine J.iteF rfl ?_
              refine J.exit ?_
              refine ⟨i, At1 (by first | rfl | exact at_int rfl (by omega) | exact at_slice rfl (by omega) | exact at_int rfl (by simp)), (by (iterate 16 refine Agr.lk rfl ?_); refine Agr.lk rfl ?_; refine Agr.hav rfl ?_; exact Agr.rfl'), ?_⟩
              exact ⟨HP, (fun _ => hd), hbd, he.trans hq⟩
          · skip
            refine Qt.no rfl ?_
            refine Qt.no rfl ?_
            refine Qt.no rfl ?_
            refine Qt.no rfl ?_
            refine Qt.no rfl ?_
            refine Qt.no rfl ?_
            refine Qt.no rfl ?_
            refine Qt.no rfl ?_
            refine Qt.no rfl ?_
            refine Qt.no rfl ?_
            refine Qt.va rfl (fun w' hw => X.pickF rfl (by conv => lhs; whnf)) ?_
            refine Qt.nil (fun w5 hq => ?_)
            refine J.iteF rfl ?_
            refine J.exit ?_
            refine ⟨i, At1 (by first | rfl | exact at_int rfl (by omega) | exact at_slice rfl (by omega) | exact at_int rfl (by simp)), (by (iterate 16 refine Agr.lk rfl ?_); refine Agr.lk rfl ?_; refine Agr.hav rfl ?_; exact Agr.rfl'), ?_⟩
            exact ⟨HP, (fun h => absurd h (by omega)), hbd, he.trans hq⟩
      · rintro i g w6 ⟨HP, hi, hio2, he6⟩
        replace HO := HO.ext he6
        have hG6 : w.grownBy w6 (Value.ownBlock (.slice A n c)) := grb_trans M.g (grown_ext he6)
        obtain ⟨jo, hjo⟩ : ∃ jo, jo = j := ⟨_, rfl⟩
        rw [← hjo] at hi
        refine J.cut (X := Nat) [10, 46, 47, 48, 49, 50, 51, 52, 53, 54, 55, 56, 57, 58, 59, 60, 61] (fun j => [(10, .int .i64 (j : Int))]) (fun j w' => Pt (· ≤ ·) (fun x y => y < x) m a b i j ∧ (i ≤ j → ¬ m.getD a 0 < m.getD j 0) ∧ j ≤ jo ∧ Ext w6 w') ?_ ?_
        · refine J.block ?_
          refine J.loop (X := Nat) [10, 46, 47, 48, 49, 50, 51, 52, 53, 54, 55, 56, 57, 58, 59, 60, 61] (fun j => [(10, .int .i64 (j : Int))]) (fun j w' => Pt (· ≤ ·) (fun x y => y < x) m a b i j ∧ j ≤ jo ∧ Ext w6 w') (fun j => j) (j) (At1 (by first | rfl | exact at_int rfl (by omega) | exact at_slice rfl (by omega) | exact at_int rfl (by simp))) ?_ ?_
          · exact ⟨HP, by omega, Ext.refl _⟩
          · rintro j g w7 ⟨HP, hbd, he⟩
            have h1 := HP.ai
            have h2 := HP.ij
            have h3 := HP.jb
            have hr := Reads.of_own (HO.ext he)
            have hA := hr.some_ (by omega)
            refine J.seq ?_
            refine J.seq ?_
            refine J.quiet mixed (by kernel_rfl) ?_
            refine Qt.va rfl (fun w' hw => X.move (by conv => lhs; whnf)) ?_
            refine Qt.va rfl (fun w' hw => X.move (by conv => lhs; whnf)) ?_
            refine Qt.va rfl (fun w' hw => X.leq rfl rfl) ?_
            refine Qt.va rfl (fun w' hw => X.move (by conv => lhs; whnf)) ?_
            refine Qt.caseDec (k := 49) rfl (fun hij => ?_) (fun hij => ?_)
            · refine Qt.va rfl (fun w' hw => X.move (by conv => lhs; whnf)) ?_
              refine Qt.va rfl (fun w' hw => X.move (by conv => lhs; whnf)) ?_
              refine Qt.va rfl (fun w' hw => (by first | exact X.index1n rfl rfl Try.underlying22 sz_30 (by first | exact Option.some_ne_none _ | exact hr.some_ (by omega) | exact hA) (by omega) | exact X.index1 rfl rfl Try.underlying22 sz_30 (by first | exact Option.some_ne_none _ | exact hr.some_ (by omega) | exact hA) (by omega))) ?_
              refine Qt.va rfl (fun w' hw => X.load rfl sc_30 (by first | exact Ld.num (hr.ext hw) (by omega) | exact hA)) ?_
              refine Qt.va rfl (fun w' hw => X.move (by conv => lhs; whnf)) ?_
              refine Qt.va rfl (fun w' hw => X.move (by conv => lhs; whnf)) ?_
              refine Qt.va rfl (fun w' hw => (by first | exact X.index1n rfl rfl Try.underlying22 sz_30 (by first | exact Option.some_ne_none _ | exact hr.some_ (by omega) | exact hA) (by omega) | exact X.index1 rfl rfl Try.underlying22 sz_30 (by first | exact Option.some_ne_none _ | exact hr.some_ (by omega) | exact hA) (by omega))) ?_
              refine Qt.va rfl (fun w' hw => X.load rfl sc_30 (by first | exact Ld.num (hr.ext hw) (by omega) | exact hA)) ?_
              refine Qt.call rfl en_44 rfl (fun w' hw => calls_same hw (clessU (m.getD a 0) (m.getD j 0) w')) ?_
              refine Qt.va rfl (fun w' hw => X.pickT rfl (by conv => lhs; whnf)) ?_
              refine Qt.nil (fun w8 hq => ?_)
              by_cases hd : m.getD a 0 < m.getD j 0
              · rw [show decide (m.getD a 0 < m.getD j 0) = true from decide_eq_true (by omega)]
                refine J.iteT rfl ?_
                refine J.skip ?_
                refine J.block ?_
                refine J.region ?_
                refine L.va rfl (X.move (by conv => lhs; whnf)) ?_
                refine L.va rfl (X.sub rfl rfl (by omega)) ?_
                refine L.va rfl (X.assign (by conv => lhs; whnf)) ?_
                refine L.nil ?_
                obtain ⟨j', rfl⟩ : ∃ j', j = j' + 1 := ⟨j - 1, by omega⟩
                refine ⟨j', At1 (by first | rfl | exact at_int rfl (by omega) | exact at_slice rfl (by omega) | exact at_int rfl (by simp)), (by (iterate 18 refine Agr.lk rfl ?_); exact Agr.lk rfl (Agr.hav rfl Agr.rfl')), ?_⟩
                exact ⟨⟨⟨h1, by omega, by omega, HP.le, fun k k1 k2 => by
                  rcases Nat.lt_or_ge (j' + 1) k with h | h
                  · exact HP.ri k h k2
                  · obtain rfl : k = j' + 1 := by omega
                    exact hd⟩, by omega, he.trans hq⟩, by omega⟩
              · rw [show decide (m.getD a 0 < m.getD j 0) = false from decide_eq_false (by omega)]
                refine J.iteF rfl ?_
                refine J.exit ?_
                refine ⟨j, At1 (by first | rfl | exact at_int rfl (by omega) | exact at_slice rfl (by omega) | exact at_int rfl (by simp)), (by (iterate 15 refine Agr.lk rfl ?_); refine Agr.lk rfl ?_; refine Agr.hav rfl ?_; exact Agr.rfl'), ?_⟩
                exact ⟨HP, (fun _ => hd), hbd, he.trans hq⟩
            · skip
              refine Qt.no rfl ?_
              refine Qt.no rfl ?_
              refine Qt.no rfl ?_
              refine Qt.no rfl ?_
              refine Qt.no rfl ?_
              refine Qt.no rfl ?_
              refine Qt.no rfl ?_
              refine Qt.no rfl ?_
              refine Qt.no rfl ?_
              refine Qt.va rfl (fun w' hw => X.pickF rfl (by conv => lhs; whnf)) ?_
              refine Qt.nil (fun w8 hq => ?_)
              refine J.iteF rfl ?_
              refine J.exit ?_
              refine ⟨j, At1 (by first | rfl | exact at_int rfl (by omega) | exact at_slice rfl (by omega) | exact at_int rfl (by simp)), (by (iterate 15 refine Agr.lk rfl ?_); refine Agr.lk rfl ?_; refine Agr.hav rfl ?_; exact Agr.rfl'), ?_⟩
              exact ⟨HP, (fun h => absurd h (by omega)), hbd, he.trans hq⟩
        · rintro j g w9 ⟨HP, hj, hjo2, he9⟩
          replace HO := HO.ext he9
          have hG9 := grb_trans hG6 (grown_ext he9)
          have h1 := HP.ai
          have h2 := HP.ij
          have h3 := HP.jb
          refine J.seq ?_
          refine J.seq ?_
          refine J.region ?_
          refine L.va rfl (X.move (by conv => lhs; whnf)) ?_
          refine L.va rfl (X.move (by conv => lhs; whnf)) ?_
          refine L.va rfl (X.gtr rfl rfl) ?_
          refine L.nil ?_
          refine J.dec rfl (fun hgt => ?_) (fun hgt => ?_)
          · refine J.exit ?_
            refine J.seq ?_
            refine J.region ?_
            refine L.va rfl (X.move (by conv => lhs; whnf)) ?_
            refine L.va rfl (X.assign (by conv => lhs; whnf)) ?_
            refine L.nil ?_
            refine J.ret ?_
            refine fin1 ?_
            obtain rfl : i = j + 1 := by omega
            refine ⟨m, j + 1, rfl, ⟨HO, hG9, M.p⟩, by omega, by omega, fun k k1 k2 => ?_, fun k k1 k2 => ?_⟩
            · by_cases e : k = a
              · rw [e, em]; exact Int.le_refl _
              · rw [← em]; exact HP.le k (by omega) k2
            · rw [← em]; exact HP.ri k (by omega) k2
          · have hi' := hi (by omega)
            have hj' := hj (by omega)
            have hne : i ≠ j := fun e => by subst e; omega
            obtain ⟨j, rfl⟩ : ∃ j', j = j' + 1 := ⟨j - 1, by omega⟩
            refine J.skip ?_
            refine J.seq ?_
            refine J.draw (ℓ := 1000000) (S := (fun _ => True)) mixed (fun w12d hSE hS_h => ?_)
            have hS : ((fun _ => True)) w12d := trivial
            have hrw12 := (Reads.of_own HO).ext hSE
            have hoX := HO.ext hSE
            have hG : w9.grownBy w12d (Value.ownBlock (.slice A n c)) := grown_ext hSE
            refine D.va 0 rfl (by kernel_rfl) (fun _ _ _ h => h) rfl (fun w' hw => X.move (by conv => lhs; whnf)) hS ?_
            refine D.va 1 rfl (by kernel_rfl) (fun _ _ _ h => h) rfl (fun w' hw => X.move (by conv => lhs; whnf)) hS ?_
            refine D.va 2 rfl (by kernel_rfl) (fun _ _ _ h => h) rfl (fun w' hw => X.move (by conv => lhs; whnf)) hS ?_
            refine D.va 3 rfl (by kernel_rfl) (fun _ _ _ h => h) rfl (fun w' hw => X.move (by conv => lhs; whnf)) hS ?_
            refine D.va 4 rfl (by kernel_rfl) (fun _ _ _ h => h) rfl (fun w' hw => X.move (by conv => lhs; whnf)) hS ?_
            refine D.va 5 rfl (by kernel_rfl) (fun _ _ _ h => h) rfl (fun w' hw => X.move (by conv => lhs; whnf)) hS ?_
            refine D.va 6 rfl (by kernel_rfl) (fun _ _ _ h => h) rfl (fun w' hw => (by first | exact X.index1n rfl rfl Try.underlying22 sz_30 (by first | exact Option.some_ne_none _ | exact hA) (by omega) | exact X.index1 rfl rfl Try.underlying22 sz_30 (by first | exact Option.some_ne_none _ | exact hA) (by omega))) hS ?_
            refine D.va 8 rfl (by kernel_rfl) (fun _ _ _ h => h) rfl (fun w' hw => X.move (by conv => lhs; whnf)) hS ?_
            refine D.va 9 rfl (by kernel_rfl) (fun _ _ _ h => h) rfl (fun w' hw => X.move (by conv => lhs; whnf)) hS ?_
            refine D.va 10 rfl (by kernel_rfl) (fun _ _ _ h => h) rfl (fun w' hw => (by first | exact X.index1n rfl rfl Try.underlying22 sz_30 (by first | exact Option.some_ne_none _ | exact hA) (by omega) | exact X.index1 rfl rfl Try.underlying22 sz_30 (by first | exact Option.some_ne_none _ | exact hA) (by omega))) hS ?_
            refine D.two 7 11 (by kernel_rfl) rfl rfl ?_ ?_
            · refine L.va rfl (X.load rfl sc_30 (Ld.num hrw12 (j := j + 1) (by omega))) ?_
              refine L.nil ?_
              refine ⟨fun _ => hS, ?_⟩
              refine D.one 11 (by kernel_rfl) rfl ?_
              refine L.va rfl (X.load rfl sc_30 (Ld.num hrw12 (j := i) (by omega))) ?_
              refine L.nil ?_
              refine ⟨fun _ => hS, ?_⟩
              refine D.va 12 rfl (by kernel_rfl) (fun _ _ _ h => h) rfl (fun w' hw => (by first | exact X.index1n rfl rfl Try.underlying22 sz_30 (by first | exact Option.some_ne_none _ | exact hA) (by omega) | exact X.index1 rfl rfl Try.underlying22 sz_30 (by first | exact Option.some_ne_none _ | exact hA) (by omega))) hS ?_
              refine D.one 13 (by kernel_rfl) rfl ?_
              refine L.storeON rfl rfl (by conv => lhs; whnf) sz_30 (hoX) (by omega) ?_
              intro w12 hoX hg2 hb2 hs2
              have hS1 := trivial
              refine L.nil ?_
              refine ⟨fun _ => hS1, ?_⟩
              replace hG := grb_trans hG hg2
              refine D.va 14 rfl (by kernel_rfl) (fun _ _ _ h => h) rfl (fun w' hw => (by first | exact X.index1n rfl rfl Try.underlying22 sz_30 (by first | exact Option.some_ne_none _ | exact hA) (by omega) | exact X.index1 rfl rfl Try.underlying22 sz_30 (by first | exact Option.some_ne_none _ | exact hA) (by omega))) hS1 ?_
              refine D.one 15 (by kernel_rfl) rfl ?_
              refine L.storeON rfl rfl (by conv => lhs; whnf) sz_30 (hoX) (by omega) ?_
              intro w12 hoX hg2 hb2 hs2
              have hS2 := trivial
              refine L.nil ?_
              refine ⟨fun _ => hS2, ?_⟩
              replace hG := grb_trans hG hg2
              refine D.done (by kernel_rfl) ?_
              refine J.seq ?_
              refine J.region ?_
              refine L.va rfl (X.move (by conv => lhs; whnf)) ?_
              refine L.va rfl (X.add rfl rfl (by omega)) ?_
              refine L.va rfl (X.assign (by conv => lhs; whnf)) ?_
              refine L.nil ?_
              refine J.region ?_
              refine L.va rfl (X.move (by conv => lhs; whnf)) ?_
              refine L.va rfl (X.sub rfl rfl (by omega)) ?_
              refine L.va rfl (X.assign (by conv => lhs; whnf)) ?_
              refine L.nil ?_
              refine ⟨(i + 1, j, swp m i (j + 1)), At2 (by first | rfl | exact at_int rfl (by omega) | exact at_slice rfl (by omega) | exact at_int rfl (by simp)) (by first | rfl | exact at_int rfl (by omega) | exact at_slice rfl (by omega) | exact at_int rfl (by simp)), (by (iterate 23 refine Agr.lk rfl ?_); refine Agr.lk rfl ?_; refine Agr.hav rfl ?_; refine Agr.lk rfl ?_; refine Agr.hav rfl ?_; exact Agr.lk rfl (Agr.hav rfl Agr.rfl')), ?_⟩
              exact ⟨⟨⟨hoX, grb_trans hG9 hG, .step M.p ⟨by omega, by omega⟩ ⟨by omega, by omega⟩ (by omega)⟩, HP.swap (by omega) (by omega) (by omega) (by omega), by rw [swp_at m (by omega) (by omega), if_neg (by omega), if_neg (by omega)]; exact em⟩, by show j + 1 - (i + 1) < _ + 1 - _; omega⟩
            · refine L.va rfl (X.load rfl sc_30 (Ld.num hrw12 (j := i) (by omega))) ?_
              refine L.nil ?_
              refine ⟨fun _ => hS, ?_⟩
              refine D.one 7 (by kernel_rfl) rfl ?_
              refine L.va rfl (X.load rfl sc_30 (Ld.num hrw12 (j := j + 1) (by omega))) ?_
              refine L.nil ?_
              refine ⟨fun _ => hS, ?_⟩
              refine D.va 12 rfl (by kernel_rfl) (fun _ _ _ h => h) rfl (fun w' hw => (by first | exact X.index1n rfl rfl Try.underlying22 sz_30 (by first | exact Option.some_ne_none _ | exact hA) (by omega) | exact X.index1 rfl rfl Try.underlying22 sz_30 (by first | exact Option.some_ne_none _ | exact hA) (by omega))) hS ?_
              refine D.one 13 (by kernel_rfl) rfl ?_
              refine L.storeON rfl rfl (by conv => lhs; whnf) sz_30 (hoX) (by omega) ?_
              intro w12 hoX hg2 hb2 hs2
              have hS1 := trivial
              refine L.nil ?_
              refine ⟨fun _ => hS1, ?_⟩
              replace hG := grb_trans hG hg2
              refine D.va 14 rfl (by kernel_rfl) (fun _ _ _ h => h) rfl (fun w' hw => (by first | exact X.index1n rfl rfl Try.underlying22 sz_30 (by first | exact Option.some_ne_none _ | exact hA) (by omega) | exact X.index1 rfl rfl Try.underlying22 sz_30 (by first | exact Option.some_ne_none _ | exact hA) (by omega))) hS1 ?_
              refine D.one 15 (by kernel_rfl) rfl ?_
              refine L.storeON rfl rfl (by conv => lhs; whnf) sz_30 (hoX) (by omega) ?_
              intro w12 hoX hg2 hb2 hs2
              have hS2 := trivial
              refine L.nil ?_
              refine ⟨fun _ => hS2, ?_⟩
              replace hG := grb_trans hG hg2
              refine D.done (by kernel_rfl) ?_
              refine J.seq ?_
              refine J.region ?_
              refine L.va rfl (X.move (by conv => lhs; whnf)) ?_
              refine L.va rfl (X.add rfl rfl (by omega)) ?_
              refine L.va rfl (X.assign (by conv => lhs; whnf)) ?_
              refine L.nil ?_
              refine J.region ?_
              refine L.va rfl (X.move (by conv => lhs; whnf)) ?_
              refine L.va rfl (X.sub rfl rfl (by omega)) ?_
              refine L.va rfl (X.assign (by conv => lhs; whnf)) ?_
              refine L.nil ?_
              refine ⟨(i + 1, j, swp m i (j + 1)), At2 (by first | rfl | exact at_int rfl (by omega) | exact at_slice rfl (by omega) | exact at_int rfl (by simp)) (by first | rfl | exact at_int rfl (by omega) | exact at_slice rfl (by omega) | exact at_int rfl (by simp)), (by (iterate 23 refine Agr.lk rfl ?_); refine Agr.lk rfl ?_; refine Agr.hav rfl ?_; refine Agr.lk rfl ?_; refine Agr.hav rfl ?_; exact Agr.lk rfl (Agr.hav rfl Agr.rfl')), ?_⟩
              exact ⟨⟨⟨hoX, grb_trans hG9 hG, .step M.p ⟨by omega, by omega⟩ ⟨by omega, by omega⟩ (by omega)⟩, HP.swap (by omega) (by omega) (by omega) (by omega), by rw [swp_at m (by omega) (by omega), if_neg (by omega), if_neg (by omega)]; exact em⟩, by show j + 1 - (i + 1) < _ + 1 - _; omega⟩
  · refine L.va rfl (X.load rfl sc_30 (Ld.num hrw2 (j := a) (by omega))) ?_
    refine L.nil ?_
    refine ⟨fun _ => hS, ?_⟩
    refine D.one 7 (by kernel_rfl) rfl ?_
    refine L.va rfl (X.load rfl sc_30 (Ld.num hrw2 (j := p) (by omega))) ?_
    refine L.nil ?_
    refine ⟨fun _ => hS, ?_⟩
    refine D.va 12 rfl (by kernel_rfl) (fun _ _ _ h => h) rfl (fun w' hw => (by first | exact X.index1n rfl rfl Try.underlying22 sz_30 (by first | exact Option.some_ne_none _ | exact hA) (by omega) | exact X.index1 rfl rfl Try.underlying22 sz_30 (by first | exact Option.some_ne_none _ | exact hA) (by omega))) hS ?_
    refine D.one 13 (by kernel_rfl) rfl ?_
    refine L.storeON rfl rfl (by conv => lhs; whnf) sz_30 (hoX) (by omega) ?_
    intro w2 hoX hg2 hb2 hs2
    have hS1 := trivial
    refine L.nil ?_
    refine ⟨fun _ => hS1, ?_⟩
    replace hG := grb_trans hG hg2
    refine D.va 14 rfl (by kernel_rfl) (fun _ _ _ h => h) rfl (fun w' hw => (by first | exact X.index1n rfl rfl Try.underlying22 sz_30 (by first | exact Option.some_ne_none _ | exact hA) (by omega) | exact X.index1 rfl rfl Try.underlying22 sz_30 (by first | exact Option.some_ne_none _ | exact hA) (by omega))) hS1 ?_
    refine D.one 15 (by kernel_rfl) rfl ?_
    refine L.storeON rfl rfl (by conv => lhs; whnf) sz_30 (hoX) (by omega) ?_
    intro w2 hoX hg2 hb2 hs2
    have hS2 := trivial
    refine L.nil ?_
    refine ⟨fun _ => hS2, ?_⟩
    replace hG := grb_trans hG hg2
    refine D.done (by kernel_rfl) ?_
    refine J.seq ?_
    refine J.region ?_
    refine L.va rfl (X.move (by conv => lhs; whnf)) ?_
    refine L.va rfl (X.add rfl rfl (by omega)) ?_
    refine L.va rfl (X.move (by conv => lhs; whnf)) ?_
    refine L.va rfl (X.sub rfl rfl (by omega)) ?_
    refine L.va rfl (X.assign (by conv => lhs; whnf)) ?_
    refine L.va rfl (X.assign (by conv => lhs; whnf)) ?_
    refine L.nil ?_
    refine J.seq ?_
    refine J.block ?_
    have ea : (swp l a p).getD a 0 = l.getD p 0 := by
      rw [swp_at l (by omega) (by omega)]
      by_cases e : a = p
      · rw [if_pos e, e]
      · rw [if_neg e, if_pos rfl]
    have M0 : SwU w w2 A n c N a b l (swp l a p) := ⟨hoX, hG, .step (.refl _) ⟨by omega, by omega⟩ hp (by omega)⟩
    have HP0 : Pt (· ≤ ·) (fun x y => y < x) (swp l a p) a b (a + 1) (b - 1) := ⟨by omega, by omega, by omega, (fun k k1 k2 => by omega), (fun k k1 k2 => by omega)⟩
    rw [e0]
    refine J.loop (X := Nat × Nat × List Int) [9, 10, 29, 30, 31, 32, 33, 34, 35, 36, 37, 38, 39, 40, 41, 42, 43, 44, 45, 46, 47, 48, 49, 50, 51, 52, 53, 54, 55, 56, 57, 58, 59, 60, 61, 62, 63, 64, 65, 66, 67, 68, 69, 70, 71, 72, 73, 74, 75, 76, 77, 78, 79, 80, 81, 82] (fun (i, j, m) => [(9, .int .i64 (i : Int)), (10, .int .i64 (j : Int))]) (fun (i, j, m) w' => SwU w w' A n c N a b l m ∧ Pt (· ≤ ·) (fun x y => y < x) m a b i j ∧ m.getD a 0 = l.getD p 0) (fun (i, j, _) => j + 1 - i) ((a + 1, b - 1, swp l a p)) (At2 (by first | rfl | exact at_int rfl (by omega) | exact at_slice rfl (by omega) | exact at_int rfl (by simp)) (by first | rfl | exact at_int rfl (by omega) | exact at_slice rfl (by omega) | exact at_int rfl (by simp))) ?_ ?_
    · exact ⟨M0, HP0, ea⟩
    · rintro ⟨i, j, m⟩ g w3 ⟨M, HP, em⟩
      have hml : m.length = n := by rw [M.p.len, hl]
      have HO := M.o
      obtain ⟨io, hio⟩ : ∃ io, io = i := ⟨_, rfl⟩
      refine J.block ?_
      refine J.cut (X := Nat) [9, 29, 30, 31, 32, 33, 34, 35, 36, 37, 38, 39, 40, 41, 42, 43, 44, 45] (fun i => [(9, .int .i64 (i : Int))]) (fun i w' => Pt (· ≤ ·) (fun x y => y < x) m a b i j ∧ (i ≤ j → ¬ m.getD i 0 ≤ m.getD a 0) ∧ io ≤ i ∧ Ext w3 w') ?_ ?_
      · refine J.block ?_
        refine J.loop (X := Nat) [9, 29, 30, 31, 32, 33, 34, 35, 36, 37, 38, 39, 40, 41, 42, 43, 44, 45] (fun i => [(9, .int .i64 (i : Int))]) (fun i w' => Pt (· ≤ ·) (fun x y => y < x) m a b i j ∧ io ≤ i ∧ Ext w3 w') (fun i => j + 1 - i) (i) (At1 (by first | rfl | exact at_int rfl (by omega) | exact at_slice rfl (by omega) | exact at_int rfl (by simp))) ?_ ?_
        · exact ⟨HP, by omega, Ext.refl _⟩
        · rintro i g w4 ⟨HP, hbd, he⟩
          have h1 := HP.ai
          have h2 := HP.ij
          have h3 := HP.jb
          have hr := Reads.of_own (HO.ext he)
          have hA := hr.some_ (by omega)
          refine J.seq ?_
          refine J.seq ?_
          refine J.quiet mixed (by kernel_rfl) ?_
          refine Qt.va rfl (fun w' hw => X.move (by conv => lhs; whnf)) ?_
          refine Qt.va rfl (fun w' hw => X.move (by conv => lhs; whnf)) ?_
          refine Qt.va rfl (fun w' hw => X.leq rfl rfl) ?_
          refine Qt.va rfl (fun w' hw => X.move (by conv => lhs; whnf)) ?_
          refine Qt.caseDec (k := 32) rfl (fun hij => ?_) (fun hij => ?_)
          · refine Qt.va rfl (fun w' hw => X.move (by conv => lhs; whnf)) ?_
            refine Qt.va rfl (fun w' hw => X.move (by conv => lhs; whnf)) ?_
            refine Qt.va rfl (fun w' hw => (by first | exact X.index1n rfl rfl Try.underlying22 sz_30 (by first | exact Option.some_ne_none _ | exact hr.some_ (by omega) | exact hA) (by omega) | exact X.index1 rfl rfl Try.underlying22 sz_30 (by first | exact Option.some_ne_none _ | exact hr.some_ (by omega) | exact hA) (by omega))) ?_
            refine Qt.va rfl (fun w' hw => X.load rfl sc_30 (by first | exact Ld.num (hr.ext hw) (by omega) | exact hA)) ?_
            refine Qt.va rfl (fun w' hw => X.move (by conv => lhs; whnf)) ?_
            refine Qt.va rfl (fun w' hw => X.move (by conv => lhs; whnf)) ?_
            refine Qt.va rfl (fun w' hw => (by first | exact X.index1n rfl rfl Try.underlying22 sz_30 (by first | exact Option.some_ne_none _ | exact hr.some_ (by omega) | exact hA) (by omega) | exact X.index1 rfl rfl Try.underlying22 sz_30 (by first | exact Option.some_ne_none _ | exact hr.some_ (by omega) | exact hA) (by omega))) ?_
            refine Qt.va rfl (fun w' hw => X.load rfl sc_30 (by first | exact Ld.num (hr.ext hw) (by omega) | exact hA)) ?_
            refine Qt.call rfl en_44 rfl (fun w' hw => calls_same hw (clessU (m.getD a 0) (m.getD i 0) w')) ?_
            refine Qt.va rfl (fun w' hw => X.not rfl) ?_
            refine Qt.va rfl (fun w' hw => X.pickT rfl (by conv => lhs; whnf)) ?_
            refine Qt.nil (fun w5 hq => ?_)
            by_cases hd : m.getD i 0 ≤ m.getD a 0
            · rw [show decide (m.getD a 0 < m.getD i 0) = false from decide_eq_false (by omega)]
              refine J.iteT rfl ?_
              refine J.skip ?_
              refine J.block ?_
              refine J.region ?_
              refine L.va rfl (X.move (by conv => lhs; whnf)) ?_
              refine L.va rfl (X.add rfl rfl (by omega)) ?_
              refine L.va rfl (X.assign (by conv => lhs; whnf)) ?_
              refine L.nil ?_
              refine ⟨i + 1, At1 (by first | rfl | exact at_int rfl (by omega) | exact at_slice rfl (by omega) | exact at_int rfl (by simp)), (by (iterate 19 refine Agr.lk rfl ?_); exact Agr.lk rfl (Agr.hav rfl Agr.rfl')), ?_⟩
              exact ⟨⟨⟨by omega, by omega, h3, fun k k1 k2 => by
                rcases Nat.lt_or_ge k i with h | h
                · exact HP.le k k1 h
                · obtain rfl : k = i := by omega
                  exact hd, HP.ri⟩, by omega, he.trans hq⟩, by omega⟩
            · rw [show decide (m.getD a 0 < m.getD i 0) = true from decide_eq_true (by omega)]
              refine J.iteF rfl ?_
              refine J.exit ?_
              refine ⟨i, At1 (by first | rfl | exact at_int rfl (by omega) | exact at_slice rfl (by omega) | exact at_int rfl (by simp)), (by (iterate 16 refine Agr.lk rfl ?_); refine Agr.lk rfl ?_; refine Agr.hav rfl ?_; exact Agr.rfl'), ?_⟩
              exact ⟨HP, (fun _ => hd), hbd, he.trans hq⟩
          · skip
            refine Qt.no rfl ?_
            refine Qt.no rfl ?_
            refine Qt.no rfl ?_
            refine Qt.no rfl ?_
            refine Qt.no rfl ?_
            refine Qt.no rfl ?_
            refine Qt.no rfl ?_
            refine Qt.no rfl ?_
            refine Qt.no rfl ?_
            refine Qt.no rfl ?_
            refine Qt.va rfl (fun w' hw => X.pickF rfl (by conv => lhs; whnf)) ?_
            refine Qt.nil (fun w5 hq => ?_)
            refine J.iteF rfl ?_
            refine J.exit ?_
            refine ⟨i, At1 (by first | rfl | exact at_int rfl (by omega) | exact at_slice rfl (by omega) | exact at_int rfl (by simp)), (by (iterate 16 refine Agr.lk rfl ?_); refine Agr.lk rfl ?_; refine Agr.hav rfl ?_; exact Agr.rfl'), ?_⟩
            exact ⟨HP, (fun h => absurd h (by omega)), hbd, he.trans hq⟩
      · rintro i g w6 ⟨HP, hi, hio2, he6⟩
        replace HO := HO.ext he6
        have hG6 : w.grownBy w6 (Value.ownBlock (.slice A n c)) := grb_trans M.g (grown_ext he6)
        obtain ⟨jo, hjo⟩ : ∃ jo, jo = j := ⟨_, rfl⟩
        rw [← hjo] at hi
        refine J.cut (X := Nat) [10, 46, 47, 48, 49, 50, 51, 52, 53, 54, 55, 56, 57, 58, 59, 60, 61] (fun j => [(10, .int .i64 (j : Int))]) (fun j w' => Pt (· ≤ ·) (fun x y => y < x) m a b i j ∧ (i ≤ j → ¬ m.getD a 0 < m.getD j 0) ∧ j ≤ jo ∧ Ext w6 w') ?_ ?_
        · refine J.block ?_
          refine J.loop (X := Nat) [10, 46, 47, 48, 49, 50, 51, 52, 53, 54, 55, 56, 57, 58, 59, 60, 61] (fun j => [(10, .int .i64 (j : Int))]) (fun j w' => Pt (· ≤ ·) (fun x y => y < x) m a b i j ∧ j ≤ jo ∧ Ext w6 w') (fun j => j) (j) (At1 (by first | rfl | exact at_int rfl (by omega) | exact at_slice rfl (by omega) | exact at_int rfl (by simp))) ?_ ?_
          · exact ⟨HP, by omega, Ext.refl _⟩
          · rintro j g w7 ⟨HP, hbd, he⟩
            have h1 := HP.ai
            have h2 := HP.ij
            have h3 := HP.jb
            have hr := Reads.of_own (HO.ext he)
            have hA := hr.some_ (by omega)
            refine J.seq ?_
            refine J.seq ?_
            refine J.quiet mixed (by kernel_rfl) ?_
            refine Qt.va rfl (fun w' hw => X.move (by conv => lhs; whnf)) ?_
            refine Qt.va rfl (fun w' hw => X.move (by conv => lhs; whnf)) ?_
            refine Qt.va rfl (fun w' hw => X.leq rfl rfl) ?_
            refine Qt.va rfl (fun w' hw => X.move (by conv => lhs; whnf)) ?_
            refine Qt.caseDec (k := 49) rfl (fun hij => ?_) (fun hij => ?_)
            · refine Qt.va rfl (fun w' hw => X.move (by conv => lhs; whnf)) ?_
              refine Qt.va rfl (fun w' hw => X.move (by conv => lhs; whnf)) ?_
              refine Qt.va rfl (fun w' hw => (by first | exact X.index1n rfl rfl Try.underlying22 sz_30 (by first | exact Option.some_ne_none _ | exact hr.some_ (by omega) | exact hA) (by omega) | exact X.index1 rfl rfl Try.underlying22 sz_30 (by first | exact Option.some_ne_none _ | exact hr.some_ (by omega) | exact hA) (by omega))) ?_
              refine Qt.va rfl (fun w' hw => X.load rfl sc_30 (by first | exact Ld.num (hr.ext hw) (by omega) | exact hA)) ?_
              refine Qt.va rfl (fun w' hw => X.move (by conv => lhs; whnf)) ?_
              refine Qt.va rfl (fun w' hw => X.move (by conv => lhs; whnf)) ?_
              refine Qt.va rfl (fun w' hw => (by first | exact X.index1n rfl rfl Try.underlying22 sz_30 (by first | exact Option.some_ne_none _ | exact hr.some_ (by omega) | exact hA) (by omega) | exact X.index1 rfl rfl Try.underlying22 sz_30 (by first | exact Option.some_ne_none _ | exact hr.some_ (by omega) | exact hA) (by omega))) ?_
              refine Qt.va rfl (fun w' hw => X.load rfl sc_30 (by first | exact Ld.num (hr.ext hw) (by omega) | exact hA)) ?_
              refine Qt.call rfl en_44 rfl (fun w' hw => calls_same hw (clessU (m.getD a 0) (m.getD j 0) w')) ?_
              refine Qt.va rfl (fun w' hw => X.pickT rfl (by conv => lhs; whnf)) ?_
              refine Qt.nil (fun w8 hq => ?_)
              by_cases hd : m.getD a 0 < m.getD j 0
              · rw [show decide (m.getD a 0 < m.getD j 0) = true from decide_eq_true (by omega)]
                refine J.iteT rfl ?_
                refine J.skip ?_
                refine J.block ?_
                refine J.region ?_
                refine L.va rfl (X.move (by conv => lhs; whnf)) ?_
                refine L.va rfl (X.sub rfl rfl (by omega)) ?_
                refine L.va rfl (X.assign (by conv => lhs; whnf)) ?_
                refine L.nil ?_
                obtain ⟨j', rfl⟩ : ∃ j', j = j' + 1 := ⟨j - 1, by omega⟩
                refine ⟨j', At1 (by first | rfl | exact at_int rfl (by omega) | exact at_slice rfl (by omega) | exact at_int rfl (by simp)), (by (iterate 18 refine Agr.lk rfl ?_); exact Agr.lk rfl (Agr.hav rfl Agr.rfl')), ?_⟩
                exact ⟨⟨⟨h1, by omega, by omega, HP.le, fun k k1 k2 => by
                  rcases Nat.lt_or_ge (j' + 1) k with h | h
                  · exact HP.ri k h k2
                  · obtain rfl : k = j' + 1 := by omega
                    exact hd⟩, by omega, he.trans hq⟩, by omega⟩
              · rw [show decide (m.getD a 0 < m.getD j 0) = false from decide_eq_false (by omega)]
                refine J.iteF rfl ?_
                refine J.exit ?_
                refine ⟨j, At1 (by first | rfl | exact at_int rfl (by omega) | exact at_slice rfl (by omega) | exact at_int rfl (by simp)), (by (iterate 15 refine Agr.lk rfl ?_); refine Agr.lk rfl ?_; refine Agr.hav rfl ?_; exact Agr.rfl'), ?_⟩
                exact ⟨HP, (fun _ => hd), hbd, he.trans hq⟩
            · skip
              refine Qt.no rfl ?_
              refine Qt.no rfl ?_
              refine Qt.no rfl ?_
              refine Qt.no rfl ?_
              refine Qt.no rfl ?_
              refine Qt.no rfl ?_
              refine Qt.no rfl ?_
              refine Qt.no rfl ?_
              refine Qt.no rfl ?_
              refine Qt.va rfl (fun w' hw => X.pickF rfl (by conv => lhs; whnf)) ?_
              refine Qt.nil (fun w8 hq => ?_)
              refine J.iteF rfl ?_
              refine J.exit ?_
              refine ⟨j, At1 (by first | rfl | exact at_int rfl (by omega) | exact at_slice rfl (by omega) | exact at_int rfl (by simp)), (by (iterate 15 refine Agr.lk rfl ?_); refine Agr.lk rfl ?_; refine Agr.hav rfl ?_; exact Agr.rfl'), ?_⟩
              exact ⟨HP, (fun h => absurd h (by omega)), hbd, he.trans hq⟩
        · rintro j g w9 ⟨HP, hj, hjo2, he9⟩
          replace HO := HO.ext he9
          have hG9 := grb_trans hG6 (grown_ext he9)
          have h1 := HP.ai
          have h2 := HP.ij
          have h3 := HP.jb
          refine J.seq ?_
          refine J.seq ?_
          refine J.region ?_
          refine L.va rfl (X.move (by conv => lhs; whnf)) ?_
          refine L.va rfl (X.move (by conv => lhs; whnf)) ?_
          refine L.va rfl (X.gtr rfl rfl) ?_
          refine L.nil ?_
          refine J.dec rfl (fun hgt => ?_) (fun hgt => ?_)
          · refine J.exit ?_
            refine J.seq ?_
            refine J.region ?_
            refine L.va rfl (X.move (by conv => lhs; whnf)) ?_
            refine L.va rfl (X.assign (by conv => lhs; whnf)) ?_
            refine L.nil ?_
            refine J.ret ?_
            refine fin1 ?_
            obtain rfl : i = j + 1 := by omega
            refine ⟨m, j + 1, rfl, ⟨HO, hG9, M.p⟩, by omega, by omega, fun k k1 k2 => ?_, fun k k1 k2 => ?_⟩
            · by_cases e : k = a
              · rw [e, em]; exact Int.le_refl _
              · rw [← em]; exact HP.le k (by omega) k2
            · rw [← em]; exact HP.ri k (by omega) k2
          · have hi' := hi (by omega)
            have hj' := hj (by omega)
            have hne : i ≠ j := fun e => by subst e; omega
            obtain ⟨j, rfl⟩ : ∃ j', j = j' + 1 := ⟨j - 1, by omega⟩
            refine J.skip ?_
            refine J.seq ?_
            refine J.draw (ℓ := 1000000) (S := (fun _ => True)) mixed (fun w12d hSE hS_h => ?_)
            have hS : ((fun _ => True)) w12d := trivial
            have hrw12 := (Reads.of_own HO).ext hSE
            have hoX := HO.ext hSE
            have hG : w9.grownBy w12d (Value.ownBlock (.slice A n c)) := grown_ext hSE
            refine D.va 0 rfl (by kernel_rfl) (fun _ _ _ h => h) rfl (fun w' hw => X.move (by conv => lhs; whnf)) hS ?_
            refine D.va 1 rfl (by kernel_rfl) (fun _ _ _ h => h) rfl (fun w' hw => X.move (by conv => lhs; whnf)) hS ?_
            refine D.va 2 rfl (by kernel_rfl) (fun _ _ _ h => h) rfl (fun w' hw => X.move (by conv => lhs; whnf)) hS ?_
            refine D.va 3 rfl (by kernel_rfl) (fun _ _ _ h => h) rfl (fun w' hw => X.move (by conv => lhs; whnf)) hS ?_
            refine D.va 4 rfl (by kernel_rfl) (fun _ _ _ h => h) rfl (fun w' hw => X.move (by conv => lhs; whnf)) hS ?_
            refine D.va 5 rfl (by kernel_rfl) (fun _ _ _ h => h) rfl (fun w' hw => X.move (by conv => lhs; whnf)) hS ?_
            refine D.va 6 rfl (by kernel_rfl) (fun _ _ _ h => h) rfl (fun w' hw => (by first | exact X.index1n rfl rfl Try.underlying22 sz_30 (by first | exact Option.some_ne_none _ | exact hA) (by omega) | exact X.index1 rfl rfl Try.underlying22 sz_30 (by first | exact Option.some_ne_none _ | exact hA) (by omega))) hS ?_
            refine D.va 8 rfl (by kernel_rfl) (fun _ _ _ h => h) rfl (fun w' hw => X.move (by conv => lhs; whnf)) hS ?_
            refine D.va 9 rfl (by kernel_rfl) (fun _ _ _ h => h) rfl (fun w' hw => X.move (by conv => lhs; whnf)) hS ?_
            refine D.va 10 rfl (by kernel_rfl) (fun _ _ _ h => h) rfl (fun w' hw => (by first | exact X.index1n rfl rfl Try.underlying22 sz_30 (by first | exact Option.some_ne_none _ | exact hA) (by omega) | exact X.index1 rfl rfl Try.underlying22 sz_30 (by first | exact Option.some_ne_none _ | exact hA) (by omega))) hS ?_
            refine D.two 7 11 (by kernel_rfl) rfl rfl ?_ ?_
            · refine L.va rfl (X.load rfl sc_30 (Ld.num hrw12 (j := j + 1) (by omega))) ?_
              refine L.nil ?_
              refine ⟨fun _ => hS, ?_⟩
              refine D.one 11 (by kernel_rfl) rfl ?_
              refine L.va rfl (X.load rfl sc_30 (Ld.num hrw12 (j := i) (by omega))) ?_
              refine L.nil ?_
              refine ⟨fun _ => hS, ?_⟩
              refine D.va 12 rfl (by kernel_rfl) (fun _ _ _ h => h) rfl (fun w' hw => (by first | exact X.index1n rfl rfl Try.underlying22 sz_30 (by first | exact Option.some_ne_none _ | exact hA) (by omega) | exact X.index1 rfl rfl Try.underlying22 sz_30 (by first | exact Option.some_ne_none _ | exact hA) (by omega))) hS ?_
              refine D.one 13 (by kernel_rfl) rfl ?_
              refine L.storeON rfl rfl (by conv => lhs; whnf) sz_30 (hoX) (by omega) ?_
              intro w12 hoX hg2 hb2 hs2
              have hS1 := trivial
              refine L.nil ?_
              refine ⟨fun _ => hS1, ?_⟩
              replace hG := grb_trans hG hg2
              refine D.va 14 rfl (by kernel_rfl) (fun _ _ _ h => h) rfl (fun w' hw => (by first | exact X.index1n rfl rfl Try.underlying22 sz_30 (by first | exact Option.some_ne_none _ | exact hA) (by omega) | exact X.index1 rfl rfl Try.underlying22 sz_30 (by first | exact Option.some_ne_none _ | exact hA) (by omega))) hS1 ?_
              refine D.one 15 (by kernel_rfl) rfl ?_
              refine L.storeON rfl rfl (by conv => lhs; whnf) sz_30 (hoX) (by omega) ?_
              intro w12 hoX hg2 hb2 hs2
              have hS2 := trivial
              refine L.nil ?_
              refine ⟨fun _ => hS2, ?_⟩
              replace hG := grb_trans hG hg2
              refine D.done (by kernel_rfl) ?_
              refine J.seq ?_
              refine J.region ?_
              refine L.va rfl (X.move (by conv => lhs; whnf)) ?_
              refine L.va rfl (X.add rfl rfl (by omega)) ?_
              refine L.va rfl (X.assign (by conv => lhs; whnf)) ?_
              refine L.nil ?_
              refine J.region ?_
              refine L.va rfl (X.move (by conv => lhs; whnf)) ?_
              refine L.va rfl (X.sub rfl rfl (by omega)) ?_
              refine L.va rfl (X.assign (by conv => lhs; whnf)) ?_
              refine L.nil ?_
              refine ⟨(i + 1, j, swp m i (j + 1)), At2 (by first | rfl | exact at_int rfl (by omega) | exact at_slice rfl (by omega) | exact at_int rfl (by simp)) (by first | rfl | exact at_int rfl (by omega) | exact at_slice rfl (by omega) | exact at_int rfl (by simp)), (by (iterate 23 refine Agr.lk rfl ?_); refine Agr.lk rfl ?_; refine Agr.hav rfl ?_; refine Agr.lk rfl ?_; refine Agr.hav rfl ?_; exact Agr.lk rfl (Agr.hav rfl Agr.rfl')), ?_⟩
              exact ⟨⟨⟨hoX, grb_trans hG9 hG, .step M.p ⟨by omega, by omega⟩ ⟨by omega, by omega⟩ (by omega)⟩, HP.swap (by omega) (by omega) (by omega) (by omega), by rw [swp_at m (by omega) (by omega), if_neg (by omega), if_neg (by omega)]; exact em⟩, by show j + 1 - (i + 1) < _ + 1 - _; omega⟩
            · refine L.va rfl (X.load rfl sc_30 (Ld.num hrw12 (j := i) (by omega))) ?_
              refine L.nil ?_
              refine ⟨fun _ => hS, ?_⟩
              refine D.one 7 (by kernel_rfl) rfl ?_
              refine L.va rfl (X.load rfl sc_30 (Ld.num hrw12 (j := j + 1) (by omega))) ?_
              refine L.nil ?_
              refine ⟨fun _ => hS, ?_⟩
              refine D.va 12 rfl (by kernel_rfl) (fun _ _ _ h => h) rfl (fun w' hw => (by first | exact X.index1n rfl rfl Try.underlying22 sz_30 (by first | exact Option.some_ne_none _ | exact hA) (by omega) | exact X.index1 rfl rfl Try.underlying22 sz_30 (by first | exact Option.some_ne_none _ | exact hA) (by omega))) hS ?_
              refine D.one 13 (by kernel_rfl) rfl ?_
              refine L.storeON rfl rfl (by conv => lhs; whnf) sz_30 (hoX) (by omega) ?_
              intro w12 hoX hg2 hb2 hs2
              have hS1 := trivial
              refine L.nil ?_
              refine ⟨fun _ => hS1, ?_⟩
              replace hG := grb_trans hG hg2
              refine D.va 14 rfl (by kernel_rfl) (fun _ _ _ h => h) rfl (fun w' hw => (by first | exact X.index1n rfl rfl Try.underlying22 sz_30 (by first | exact Option.some_ne_none _ | exact hA) (by omega) | exact X.index1 rfl rfl Try.underlying22 sz_30 (by first | exact Option.some_ne_none _ | exact hA) (by omega))) hS1 ?_
              refine D.one 15 (by kernel_rfl) rfl ?_
              refine L.storeON rfl rfl (by conv => lhs; whnf) sz_30 (hoX) (by omega) ?_
              intro w12 hoX hg2 hb2 hs2
              have hS2 := trivial
              refine L.nil ?_
              refine ⟨fun _ => hS2, ?_⟩
              replace hG := grb_trans hG hg2
              refine D.done (by kernel_rfl) ?_
              refine J.seq ?_
              refine J.region ?_
              refine L.va rfl (X.move (by conv => lhs; whnf)) ?_
              refine L.va rfl (X.add rfl rfl (by omega)) ?_
              refine L.va rfl (X.assign (by conv => lhs; whnf)) ?_
              refine L.nil ?_
              refine J.region ?_
              refine L.va rfl (X.move (by conv => lhs; whnf)) ?_
              refine L.va rfl (X.sub rfl rfl (by omega)) ?_
              refine L.va rfl (X.assign (by conv => lhs; whnf)) ?_
              refine L.nil ?_
              refine ⟨(i + 1, j, swp m i (j + 1)), At2 (by first | rfl | exact at_int rfl (by omega) | exact at_slice rfl (by omega) | exact at_int rfl (by simp)) (by first | rfl | exact at_int rfl (by omega) | exact at_slice rfl (by omega) | exact at_int rfl (by simp)), (by (iterate 23 refine Agr.lk rfl ?_); refine Agr.lk rfl ?_; refine Agr.hav rfl ?_; refine Agr.lk rfl ?_; refine Agr.hav rfl ?_; exact Agr.lk rfl (Agr.hav rfl Agr.rfl')), ?_⟩
              exact ⟨⟨⟨hoX, grb_trans hG9 hG, .step M.p ⟨by omega, by omega⟩ ⟨by omega, by omega⟩ (by omega)⟩, HP.swap (by omega) (by omega) (by omega) (by omega), by rw [swp_at m (by omega) (by omega), if_neg (by omega), if_neg (by omega)]; exact em⟩, by show j + 1 - (i + 1) < _ + 1 - _; omega⟩
theorem partU (A : Option Addr) (n c N a b p : Nat) (l : List Int) (w : World) (ho : w.ownsRow N 30 1 (.slice A n c) n (nums .u32 l)) (hb : b ≤ n) (hn : n ≤ 900000) (hp : a ≤ p ∧ p < b) :
    Calls Try.prog 46 #[.slice A n c, .int .i64 (a : Int), .int .i64 (b : Int), .int .i64 (p : Int)] w fun e w' => ∃ (l' : List Int) (q : Nat) (z : Bool), e = .returned (.tuple #[.int .i64 (q : Int), .bool z]) ∧ SwU w w' A n c N a b l l' ∧ a ≤ q ∧ q < b ∧ (∀ k, a ≤ k → k < q → l'.getD k 0 < l'.getD q 0) ∧ ∀ k, q < k → k < b → l'.getD q 0 ≤ l'.getD k 0 := by
  have hl : l.length = n := by have := ho.1; simpa [nums] using this
  have hA := (Reads.of_own ho).some_ (by omega)
  have e0 : (b : Int) - 1 = ((b - 1 : Nat) : Int) := by omega
  obtain ⟨j, hj0⟩ : ∃ j, j = b - 1 := ⟨_, rfl⟩
  rw [← hj0] at e0
  obtain ⟨i, hi0⟩ : ∃ i, i = a + 1 := ⟨_, rfl⟩
  have e1 : (a : Int) + 1 = (i : Int) := by omega
  refine enter Try.func46 rfl (by kernel_rfl) ?_
  refine J.seq ?_
  refine J.region ?_
  refine L.va rfl (X.assign (by conv => lhs; whnf)) ?_
  refine L.va rfl (X.assign (by conv => lhs; whnf)) ?_
  refine L.nil ?_
  refine J.cut (X := List Int) [12, 13, 14, 15, 16, 17, 18, 19, 20, 21, 22, 23, 24, 25] (fun m => [(1, .int .i64 (a : Int))]) (fun m w' => SwU w w' A n c N a b l m) ?_ ?_
  ·
    refine J.draw (ℓ := 1000000) (S := (fun _ => True)) mixed (fun w2d hSE hS_h => ?_)
    have hS : ((fun _ => True)) w2d := trivial
    have hrw2 := (Reads.of_own ho).ext hSE
    have hoX := ho.ext hSE
    have hG : w.grownBy w2d (Value.ownBlock (.slice A n c)) := grown_ext hSE
    refine D.va 0 rfl (by kernel_rfl) (fun _ _ _ h => h) rfl (fun w' hw => X.move (by conv => lhs; whnf)) hS ?_
    refine D.va 1 rfl (by kernel_rfl) (fun _ _ _ h => h) rfl (fun w' hw => X.move (by conv => lhs; whnf)) hS ?_
    refine D.va 2 rfl (by kernel_rfl) (fun _ _ _ h => h) rfl (fun w' hw => X.move (by conv => lhs; whnf)) hS ?_
    refine D.va 3 rfl (by kernel_rfl) (fun _ _ _ h => h) rfl (fun w' hw => X.move (by conv => lhs; whnf)) hS ?_
    refine D.va 4 rfl (by kernel_rfl) (fun _ _ _ h => h) rfl (fun w' hw => X.move (by conv => lhs; whnf)) hS ?_
    refine D.va 5 rfl (by kernel_rfl) (fun _ _ _ h => h) rfl (fun w' hw => X.move (by conv => lhs; whnf)) hS ?_
    refine D.va 6 rfl (by kernel_rfl) (fun _ _ _ h => h) rfl (fun w' hw => (by first | exact X.index1n rfl rfl Try.underlying22 sz_30 (by first | exact Option.some_ne_none _ | exact hA) (by omega) | exact X.index1 rfl rfl Try.underlying22 sz_30 (by first | exact Option.some_ne_none _ | exact hA) (by omega))) hS ?_
    refine D.va 8 rfl (by kernel_rfl) (fun _ _ _ h => h) rfl (fun w' hw => X.move (by conv => lhs; whnf)) hS ?_
    refine D.va 9 rfl (by kernel_rfl) (fun _ _ _ h => h) rfl (fun w' hw => X.move (by conv => lhs; whnf)) hS ?_
    refine D.va 10 rfl (by kernel_rfl) (fun _ _ _ h => h) rfl (fun w' hw => (by first | exact X.index1n rfl rfl Try.underlying22 sz_30 (by first | exact Option.some_ne_none _ | exact hA) (by omega) | exact X.index1 rfl rfl Try.underlying22 sz_30 (by first | exact Option.some_ne_none _ | exact hA) (by omega))) hS ?_
    refine D.two 7 11 (by kernel_rfl) rfl rfl ?_ ?_
    · refine L.va rfl (X.load rfl sc_30 (Ld.num hrw2 (j := p) (by omega))) ?_
      refine L.nil ?_
      refine ⟨fun _ => hS, ?_⟩
      refine D.one 11 (by kernel_rfl) rfl ?_
      refine L.va rfl (X.load rfl sc_30 (Ld.num hrw2 (j := a) (by omega))) ?_
      refine L.nil ?_
      refine ⟨fun _ => hS, ?_⟩
      refine D.va 12 rfl (by kernel_rfl) (fun _ _ _ h => h) rfl (fun w' hw => (by first | exact X.index1n rfl rfl Try.underlying22 sz_30 (by first | exact Option.some_ne_none _ | exact hA) (by omega) | exact X.index1 rfl rfl Try.underlying22 sz_30 (by first | exact Option.some_ne_none _ | exact hA) (by omega))) hS ?_
      refine D.one 13 (by kernel_rfl) rfl ?_
      refine L.storeON rfl rfl (by conv => lhs; whnf) sz_30 (hoX) (by omega) ?_
      intro w2 hoX hg2 hb2 hs2
      have hS1 := trivial
      refine L.nil ?_
      refine ⟨fun _ => hS1, ?_⟩
      replace hG := grb_trans hG hg2
      refine D.va 14 rfl (by kernel_rfl) (fun _ _ _ h => h) rfl (fun w' hw => (by first | exact X.index1n rfl rfl Try.underlying22 sz_30 (by first | exact Option.some_ne_none _ | exact hA) (by omega) | exact X.index1 rfl rfl Try.underlying22 sz_30 (by first | exact Option.some_ne_none _ | exact hA) (by omega))) hS1 ?_
      refine D.one 15 (by kernel_rfl) rfl ?_
      refine L.storeON rfl rfl (by conv => lhs; whnf) sz_30 (hoX) (by omega) ?_
      intro w2 hoX hg2 hb2 hs2
      have hS2 := trivial
      refine L.nil ?_
      refine ⟨fun _ => hS2, ?_⟩
      replace hG := grb_trans hG hg2
      refine D.done (by kernel_rfl) ?_
      refine ⟨swp l a p, At1 (by first | rfl | exact at_int rfl (by omega) | exact at_slice rfl (by omega) | exact at_int rfl (by simp)), (by (iterate 14 refine Agr.lk rfl ?_); exact Agr.rfl'), ?_⟩
      exact ⟨hoX, hG, .step (.refl _) ⟨by omega, by omega⟩ hp (by omega)⟩
    · refine L.va rfl (X.load rfl sc_30 (Ld.num hrw2 (j := a) (by omega))) ?_
      refine L.nil ?_
      refine ⟨fun _ => hS, ?_⟩
      refine D.one 7 (by kernel_rfl) rfl ?_
      refine L.va rfl (X.load rfl sc_30 (Ld.num hrw2 (j := p) (by omega))) ?_
      refine L.nil ?_
      refine ⟨fun _ => hS, ?_⟩
      refine D.va 12 rfl (by kernel_rfl) (fun _ _ _ h => h) rfl (fun w' hw => (by first | exact X.index1n rfl rfl Try.underlying22 sz_30 (by first | exact Option.some_ne_none _ | exact hA) (by omega) | exact X.index1 rfl rfl Try.underlying22 sz_30 (by first | exact Option.some_ne_none _ | exact hA) (by omega))) hS ?_
      refine D.one 13 (by kernel_rfl) rfl ?_
      refine L.storeON rfl rfl (by conv => lhs; whnf) sz_30 (hoX) (by omega) ?_
      intro w2 hoX hg2 hb2 hs2
      have hS1 := trivial
      refine L.nil ?_
      refine ⟨fun _ => hS1, ?_⟩
      replace hG := grb_trans hG hg2
      refine D.va 14 rfl (by kernel_rfl) (fun _ _ _ h => h) rfl (fun w' hw => (by first | exact X.index1n rfl rfl Try.underlying22 sz_30 (by first | exact Option.some_ne_none _ | exact hA) (by omega) | exact X.index1 rfl rfl Try.underlying22 sz_30 (by first | exact Option.some_ne_none _ | exact hA) (by omega))) hS1 ?_
      refine D.one 15 (by kernel_rfl) rfl ?_
      refine L.storeON rfl rfl (by conv => lhs; whnf) sz_30 (hoX) (by omega) ?_
      intro w2 hoX hg2 hb2 hs2
      have hS2 := trivial
      refine L.nil ?_
      refine ⟨fun _ => hS2, ?_⟩
      replace hG := grb_trans hG hg2
      refine D.done (by kernel_rfl) ?_
      refine ⟨swp l a p, At1 (by first | rfl | exact at_int rfl (by omega) | exact at_slice rfl (by omega) | exact at_int rfl (by simp)), (by (iterate 14 refine Agr.lk rfl ?_); exact Agr.rfl'), ?_⟩
      exact ⟨hoX, hG, .step (.refl _) ⟨by omega, by omega⟩ hp (by omega)⟩
  · rintro m g w2 M
    have hml : m.length = n := by rw [M.p.len, hl]
    have HP : Pt (· < ·) (fun x y => y ≤ x) m a b i j := ⟨by omega, by omega, by omega, (fun k k1 k2 => by omega), (fun k k1 k2 => by omega)⟩
    have HO := M.o
    refine J.seq ?_
    refine J.region ?_
    refine L.va rfl (X.move (by conv => lhs; whnf)) ?_
    refine L.va rfl (X.add rfl rfl (by omega)) ?_
    refine L.va rfl (X.move (by conv => lhs; whnf)) ?_
    refine L.va rfl (X.sub rfl rfl (by omega)) ?_
    refine L.va rfl (X.assign (by conv => lhs; whnf)) ?_
    refine L.va rfl (X.assign (by conv => lhs; whnf)) ?_
    refine L.nil ?_
    rw [e0, e1]
    obtain ⟨io, hio⟩ : ∃ io, io = i := ⟨_, rfl⟩
    refine J.cut (X := Nat) [10, 30, 31, 32, 33, 34, 35, 36, 37, 38, 39, 40, 41, 42, 43, 44, 45] (fun i => [(10, .int .i64 (i : Int))]) (fun i w' => Pt (· < ·) (fun x y => y ≤ x) m a b i j ∧ (i ≤ j → ¬ m.getD i 0 < m.getD a 0) ∧ io ≤ i ∧ Ext w2 w') ?_ ?_
    · refine J.block ?_
      refine J.loop (X := Nat) [10, 30, 31, 32, 33, 34, 35, 36, 37, 38, 39, 40, 41, 42, 43, 44, 45] (fun i => [(10, .int .i64 (i : Int))]) (fun i w' => Pt (· < ·) (fun x y => y ≤ x) m a b i j ∧ io ≤ i ∧ Ext w2 w') (fun i => j + 1 - i) (i) (At1 (by first | rfl | exact at_int rfl (by omega) | exact at_slice rfl (by omega) | exact at_int rfl (by simp))) ?_ ?_
      · exact ⟨HP, by omega, Ext.refl _⟩
      · rintro i g w4 ⟨HP, hbd, he⟩
        have h1 := HP.ai
        have h2 := HP.ij
        have h3 := HP.jb
        have hr := Reads.of_own (HO.ext he)
        have hA := hr.some_ (by omega)
        refine J.seq ?_
        refine J.seq ?_
        refine J.quiet mixed (by kernel_rfl) ?_
        refine Qt.va rfl (fun w' hw => X.move (by conv => lhs; whnf)) ?_
        refine Qt.va rfl (fun w' hw => X.move (by conv => lhs; whnf)) ?_
        refine Qt.va rfl (fun w' hw => X.leq rfl rfl) ?_
        refine Qt.va rfl (fun w' hw => X.move (by conv => lhs; whnf)) ?_
        refine Qt.caseDec (k := 33) rfl (fun hij => ?_) (fun hij => ?_)
        · refine Qt.va rfl (fun w' hw => X.move (by conv => lhs; whnf)) ?_
          refine Qt.va rfl (fun w' hw => X.move (by conv => lhs; whnf)) ?_
          refine Qt.va rfl (fun w' hw => (by first | exact X.index1n rfl rfl Try.underlying22 sz_30 (by first | exact Option.some_ne_none _ | exact hr.some_ (by omega) | exact hA) (by omega) | exact X.index1 rfl rfl Try.underlying22 sz_30 (by first | exact Option.some_ne_none _ | exact hr.some_ (by omega) | exact hA) (by omega))) ?_
          refine Qt.va rfl (fun w' hw => X.load rfl sc_30 (by first | exact Ld.num (hr.ext hw) (by omega) | exact hA)) ?_
          refine Qt.va rfl (fun w' hw => X.move (by conv => lhs; whnf)) ?_
          refine Qt.va rfl (fun w' hw => X.move (by conv => lhs; whnf)) ?_
          refine Qt.va rfl (fun w' hw => (by first | exact X.index1n rfl rfl Try.underlying22 sz_30 (by first | exact Option.some_ne_none _ | exact hr.some_ (by omega) | exact hA) (by omega) | exact X.index1 rfl rfl Try.underlying22 sz_30 (by first | exact Option.some_ne_none _ | exact hr.some_ (by omega) | exact hA) (by omega))) ?_
          refine Qt.va rfl (fun w' hw => X.load rfl sc_30 (by first | exact Ld.num (hr.ext hw) (by omega) | exact hA)) ?_
          refine Qt.call rfl en_44 rfl (fun w' hw => calls_same hw (clessU (m.getD i 0) (m.getD a 0) w')) ?_
          refine Qt.va rfl (fun w' hw => X.pickT rfl (by conv => lhs; whnf)) ?_
          refine Qt.nil (fun w5 hq => ?_)
          by_cases hd : m.getD i 0 < m.getD a 0
          · rw [show decide (m.getD i 0 < m.getD a 0) = true from decide_eq_true (by omega)]
            refine J.iteT rfl ?_
            refine J.skip ?_
            refine J.block ?_
            refine J.region ?_
            refine L.va rfl (X.move (by conv => lhs; whnf)) ?_
            refine L.va rfl (X.add rfl rfl (by omega)) ?_
            refine L.va rfl (X.assign (by conv => lhs; whnf)) ?_
            refine L.nil ?_
            refine ⟨i + 1, At1 (by first | rfl | exact at_int rfl (by omega) | exact at_slice rfl (by omega) | exact at_int rfl (by simp)), (by (iterate 18 refine Agr.lk rfl ?_); exact Agr.lk rfl (Agr.hav rfl Agr.rfl')), ?_⟩
            exact ⟨⟨⟨by omega, by omega, h3, fun k k1 k2 => by
              rcases Nat.lt_or_ge k i with h | h
              · exact HP.le k k1 h
              · obtain rfl : k = i := by omega
                exact hd, HP.ri⟩, by omega, he.trans hq⟩, by omega⟩
          · rw [show decide (m.getD i 0 < m.getD a 0) = false from decide_eq_false (by omega)]
            refine J.iteF rfl ?_
            refine J.exit ?_
            refine ⟨i, At1 (by first | rfl | exact at_int rfl (by omega) | exact at_slice rfl (by omega) | exact at_int rfl (by simp)), (by (iterate 15 refine Agr.lk rfl ?_); refine Agr.lk rfl ?_; refine Agr.hav rfl ?_; exact Agr.rfl'), ?_⟩
            exact ⟨HP, (fun _ => hd), hbd, he.trans hq⟩
        · skip
          refine Qt.no rfl ?_
          refine Qt.no rfl ?_
          refine Qt.no rfl ?_
          refine Qt.no rfl ?_
          refine Qt.no rfl ?_
          refine Qt.no rfl ?_
          refine Qt.no rfl ?_
          refine Qt.no rfl ?_
          refine Qt.no rfl ?_
          refine Qt.va rfl (fun w' hw => X.pickF rfl (by conv => lhs; whnf)) ?_
          refine Qt.nil (fun w5 hq => ?_)
          refine J.iteF rfl ?_
          refine J.exit ?_
          refine ⟨i, At1 (by first | rfl | exact at_int rfl (by omega) | exact at_slice rfl (by omega) | exact at_int rfl (by simp)), (by (iterate 15 refine Agr.lk rfl ?_); refine Agr.lk rfl ?_; refine Agr.hav rfl ?_; exact Agr.rfl'), ?_⟩
          exact ⟨HP, (fun h => absurd h (by omega)), hbd, he.trans hq⟩
    · rintro i g w6 ⟨HP, hi, hio2, he6⟩
      replace HO := HO.ext he6
      have hG6 : w.grownBy w6 (Value.ownBlock (.slice A n c)) := grb_trans M.g (grown_ext he6)
      obtain ⟨jo, hjo⟩ : ∃ jo, jo = j := ⟨_, rfl⟩
      rw [← hjo] at hi
      refine J.cut (X := Nat) [11, 46, 47, 48, 49, 50, 51, 52, 53, 54, 55, 56, 57, 58, 59, 60, 61, 62] (fun j => [(11, .int .i64 (j : Int))]) (fun j w' => Pt (· < ·) (fun x y => y ≤ x) m a b i j ∧ (i ≤ j → ¬ m.getD a 0 ≤ m.getD j 0) ∧ j ≤ jo ∧ Ext w6 w') ?_ ?_
      · refine J.block ?_
        refine J.loop (X := Nat) [11, 46, 47, 48, 49, 50, 51, 52, 53, 54, 55, 56, 57, 58, 59, 60, 61, 62] (fun j => [(11, .int .i64 (j : Int))]) (fun j w' => Pt (· < ·) (fun x y => y ≤ x) m a b i j ∧ j ≤ jo ∧ Ext w6 w') (fun j => j) (j) (At1 (by first | rfl | exact at_int rfl (by omega) | exact at_slice rfl (by omega) | exact at_int rfl (by simp))) ?_ ?_
        · exact ⟨HP, by omega, Ext.refl _⟩
        · rintro j g w7 ⟨HP, hbd, he⟩
          have h1 := HP.ai
          have h2 := HP.ij
          have h3 := HP.jb
          have hr := Reads.of_own (HO.ext he)
          have hA := hr.some_ (by omega)
          refine J.seq ?_
          refine J.seq ?_
          refine J.quiet mixed (by kernel_rfl) ?_
          refine Qt.va rfl (fun w' hw => X.move (by conv => lhs; whnf)) ?_
          refine Qt.va rfl (fun w' hw => X.move (by conv => lhs; whnf)) ?_
          refine Qt.va rfl (fun w' hw => X.leq rfl rfl) ?_
          refine Qt.va rfl (fun w' hw => X.move (by conv => lhs; whnf)) ?_
          refine Qt.caseDec (k := 49) rfl (fun hij => ?_) (fun hij => ?_)
          · refine Qt.va rfl (fun w' hw => X.move (by conv => lhs; whnf)) ?_
            refine Qt.va rfl (fun w' hw => X.move (by conv => lhs; whnf)) ?_
            refine Qt.va rfl (fun w' hw => (by first | exact X.index1n rfl rfl Try.underlying22 sz_30 (by first | exact Option.some_ne_none _ | exact hr.some_ (by omega) | exact hA) (by omega) | exact X.index1 rfl rfl Try.underlying22 sz_30 (by first | exact Option.some_ne_none _ | exact hr.some_ (by omega) | exact hA) (by omega))) ?_
            refine Qt.va rfl (fun w' hw => X.load rfl sc_30 (by first | exact Ld.num (hr.ext hw) (by omega) | exact hA)) ?_
            refine Qt.va rfl (fun w' hw => X.move (by conv => lhs; whnf)) ?_
            refine Qt.va rfl (fun w' hw => X.move (by conv => lhs; whnf)) ?_
            refine Qt.va rfl (fun w' hw => (by first | exact X.index1n rfl rfl Try.underlying22 sz_30 (by first | exact Option.some_ne_none _ | exact hr.some_ (by omega) | exact hA) (by omega) | exact X.index1 rfl rfl Try.underlying22 sz_30 (by first | exact Option.some_ne_none _ | exact hr.some_ (by omega) | exact hA) (by omega))) ?_
            refine Qt.va rfl (fun w' hw => X.load rfl sc_30 (by first | exact Ld.num (hr.ext hw) (by omega) | exact hA)) ?_
            refine Qt.call rfl en_44 rfl (fun w' hw => calls_same hw (clessU (m.getD j 0) (m.getD a 0) w')) ?_
            refine Qt.va rfl (fun w' hw => X.not rfl) ?_
            refine Qt.va rfl (fun w' hw => X.pickT rfl (by conv => lhs; whnf)) ?_
            refine Qt.nil (fun w8 hq => ?_)
            by_cases hd : m.getD a 0 ≤ m.getD j 0
            · rw [show decide (m.getD j 0 < m.getD a 0) = false from decide_eq_false (by omega)]
              refine J.iteT rfl ?_
              refine J.skip ?_
              refine J.block ?_
              refine J.region ?_
              refine L.va rfl (X.move (by conv => lhs; whnf)) ?_
              refine L.va rfl (X.sub rfl rfl (by omega)) ?_
              refine L.va rfl (X.assign (by conv => lhs; whnf)) ?_
              refine L.nil ?_
              obtain ⟨j', rfl⟩ : ∃ j', j = j' + 1 := ⟨j - 1, by omega⟩
              refine ⟨j', At1 (by first | rfl | exact at_int rfl (by omega) | exact at_slice rfl (by omega) | exact at_int rfl (by simp)), (by (iterate 19 refine Agr.lk rfl ?_); exact Agr.lk rfl (Agr.hav rfl Agr.rfl')), ?_⟩
              exact ⟨⟨⟨h1, by omega, by omega, HP.le, fun k k1 k2 => by
                rcases Nat.lt_or_ge (j' + 1) k with h | h
                · exact HP.ri k h k2
                · obtain rfl : k = j' + 1 := by omega
                  exact hd⟩, by omega, he.trans hq⟩, by omega⟩
            · rw [show decide (m.getD j 0 < m.getD a 0) = true from decide_eq_true (by omega)]
              refine J.iteF rfl ?_
              refine J.exit ?_
              refine ⟨j, At1 (by first | rfl | exact at_int rfl (by omega) | exact at_slice rfl (by omega) | exact at_int rfl (by simp)), (by (iterate 16 refine Agr.lk rfl ?_); refine Agr.lk rfl ?_; refine Agr.hav rfl ?_; exact Agr.rfl'), ?_⟩
              exact ⟨HP, (fun _ => hd), hbd, he.trans hq⟩
          · skip
            refine Qt.no rfl ?_
            refine Qt.no rfl ?_
            refine Qt.no rfl ?_
            refine Qt.no rfl ?_
            refine Qt.no rfl ?_
            refine Qt.no rfl ?_
            refine Qt.no rfl ?_
            refine Qt.no rfl ?_
            refine Qt.no rfl ?_
            refine Qt.no rfl ?_
            refine Qt.va rfl (fun w' hw => X.pickF rfl (by conv => lhs; whnf)) ?_
            refine Qt.nil (fun w8 hq => ?_)
            refine J.iteF rfl ?_
            refine J.exit ?_
            refine ⟨j, At1 (by first | rfl | exact at_int rfl (by omega) | exact at_slice rfl (by omega) | exact at_int rfl (by simp)), (by (iterate 16 refine Agr.lk rfl ?_); refine Agr.lk rfl ?_; refine Agr.hav rfl ?_; exact Agr.rfl'), ?_⟩
            exact ⟨HP, (fun h => absurd h (by omega)), hbd, he.trans hq⟩
      · rintro j g w9 ⟨HP, hj, hjo2, he9⟩
        replace HO := HO.ext he9
        have hG9 := grb_trans hG6 (grown_ext he9)
        have h1 := HP.ai
        have h2 := HP.ij
        have h3 := HP.jb
        refine J.seq ?_
        refine J.seq ?_
        refine J.region ?_
        refine L.va rfl (X.move (by conv => lhs; whnf)) ?_
        refine L.va rfl (X.move (by conv => lhs; whnf)) ?_
        refine L.va rfl (X.gtr rfl rfl) ?_
        refine L.nil ?_
        refine J.dec rfl (fun hgt => ?_) (fun hgt => ?_)
        · have hd := HP.done (by omega) (by omega)
          refine J.seq ?_
          refine J.draw (ℓ := 1000000) (S := (fun _ => True)) mixed (fun w12d hSE hS_h => ?_)
          have hS : ((fun _ => True)) w12d := trivial
          have hrw12 := (Reads.of_own HO).ext hSE
          have hoX := HO.ext hSE
          have hG : w9.grownBy w12d (Value.ownBlock (.slice A n c)) := grown_ext hSE
          refine D.va 0 rfl (by kernel_rfl) (fun _ _ _ h => h) rfl (fun w' hw => X.move (by conv => lhs; whnf)) hS ?_
          refine D.va 1 rfl (by kernel_rfl) (fun _ _ _ h => h) rfl (fun w' hw => X.move (by conv => lhs; whnf)) hS ?_
          refine D.va 2 rfl (by kernel_rfl) (fun _ _ _ h => h) rfl (fun w' hw => X.move (by conv => lhs; whnf)) hS ?_
          refine D.va 3 rfl (by kernel_rfl) (fun _ _ _ h => h) rfl (fun w' hw => X.move (by conv => lhs; whnf)) hS ?_
          refine D.va 4 rfl (by kernel_rfl) (fun _ _ _ h => h) rfl (fun w' hw => X.move (by conv => lhs; whnf)) hS ?_
          refine D.va 5 rfl (by kernel_rfl) (fun _ _ _ h => h) rfl (fun w' hw => X.move (by conv => lhs; whnf)) hS ?_
          refine D.va 6 rfl (by kernel_rfl) (fun _ _ _ h => h) rfl (fun w' hw => (by first | exact X.index1n rfl rfl Try.underlying22 sz_30 (by first | exact Option.some_ne_none _ | exact hA) (by omega) | exact X.index1 rfl rfl Try.underlying22 sz_30 (by first | exact Option.some_ne_none _ | exact hA) (by omega))) hS ?_
          refine D.va 8 rfl (by kernel_rfl) (fun _ _ _ h => h) rfl (fun w' hw => X.move (by conv => lhs; whnf)) hS ?_
          refine D.va 9 rfl (by kernel_rfl) (fun _ _ _ h => h) rfl (fun w' hw => X.move (by conv => lhs; whnf)) hS ?_
          refine D.va 10 rfl (by kernel_rfl) (fun _ _ _ h => h) rfl (fun w' hw => (by first | exact X.index1n rfl rfl Try.underlying22 sz_30 (by first | exact Option.some_ne_none _ | exact hA) (by omega) | exact X.index1 rfl rfl Try.underlying22 sz_30 (by first | exact Option.some_ne_none _ | exact hA) (by omega))) hS ?_
          refine D.two 7 11 (by kernel_rfl) rfl rfl ?_ ?_
          · refine L.va rfl (X.load rfl sc_30 (Ld.num hrw12 (j := a) (by omega))) ?_
            refine L.nil ?_
            refine ⟨fun _ => hS, ?_⟩
            refine D.one 11 (by kernel_rfl) rfl ?_
            refine L.va rfl (X.load rfl sc_30 (Ld.num hrw12 (j := j) (by omega))) ?_
            refine L.nil ?_
            refine ⟨fun _ => hS, ?_⟩
            refine D.va 12 rfl (by kernel_rfl) (fun _ _ _ h => h) rfl (fun w' hw => (by first | exact X.index1n rfl rfl Try.underlying22 sz_30 (by first | exact Option.some_ne_none _ | exact hA) (by omega) | exact X.index1 rfl rfl Try.underlying22 sz_30 (by first | exact Option.some_ne_none _ | exact hA) (by omega))) hS ?_
            refine D.one 13 (by kernel_rfl) rfl ?_
            refine L.storeON rfl rfl (by conv => lhs; whnf) sz_30 (hoX) (by omega) ?_
            intro w12 hoX hg2 hb2 hs2
            have hS1 := trivial
            refine L.nil ?_
            refine ⟨fun _ => hS1, ?_⟩
            replace hG := grb_trans hG hg2
            refine D.va 14 rfl (by kernel_rfl) (fun _ _ _ h => h) rfl (fun w' hw => (by first | exact X.index1n rfl rfl Try.underlying22 sz_30 (by first | exact Option.some_ne_none _ | exact hA) (by omega) | exact X.index1 rfl rfl Try.underlying22 sz_30 (by first | exact Option.some_ne_none _ | exact hA) (by omega))) hS1 ?_
            refine D.one 15 (by kernel_rfl) rfl ?_
            refine L.storeON rfl rfl (by conv => lhs; whnf) sz_30 (hoX) (by omega) ?_
            intro w12 hoX hg2 hb2 hs2
            have hS2 := trivial
            refine L.nil ?_
            refine ⟨fun _ => hS2, ?_⟩
            replace hG := grb_trans hG hg2
            refine D.done (by kernel_rfl) ?_
            refine J.seq ?_
            refine J.region ?_
            refine L.va rfl (X.move (by conv => lhs; whnf)) ?_
            refine L.va rfl (X.assign (by conv => lhs; whnf)) ?_
            refine L.va rfl (X.assign (by conv => lhs; whnf)) ?_
            refine L.nil ?_
            refine J.ret ?_
            refine thn_ret <| ?_
            refine fin2 ?_
            exact ⟨swp m j a, j, true, rfl, ⟨hoX, grb_trans hG9 hG, .step M.p ⟨by omega, by omega⟩ ⟨by omega, by omega⟩ (by omega)⟩, by omega, by omega, hd.1, hd.2⟩
          · refine L.va rfl (X.load rfl sc_30 (Ld.num hrw12 (j := j) (by omega))) ?_
            refine L.nil ?_
            refine ⟨fun _ => hS, ?_⟩
            refine D.one 7 (by kernel_rfl) rfl ?_
            refine L.va rfl (X.load rfl sc_30 (Ld.num hrw12 (j := a) (by omega))) ?_
            refine L.nil ?_
            refine ⟨fun _ => hS, ?_⟩
            refine D.va 12 rfl (by kernel_rfl) (fun _ _ _ h => h) rfl (fun w' hw => (by first | exact X.index1n rfl rfl Try.underlying22 sz_30 (by first | exact Option.some_ne_none _ | exact hA) (by omega) | exact X.index1 rfl rfl Try.underlying22 sz_30 (by first | exact Option.some_ne_none _ | exact hA) (by omega))) hS ?_
            refine D.one 13 (by kernel_rfl) rfl ?_
            refine L.storeON rfl rfl (by conv => lhs; whnf) sz_30 (hoX) (by omega) ?_
            intro w12 hoX hg2 hb2 hs2
            have hS1 := trivial
            refine L.nil ?_
            refine ⟨fun _ => hS1, ?_⟩
            replace hG := grb_trans hG hg2
            refine D.va 14 rfl (by kernel_rfl) (fun _ _ _ h => h) rfl (fun w' hw => (by first | exact X.index1n rfl rfl Try.underlying22 sz_30 (by first | exact Option.some_ne_none _ | exact hA) (by omega) | exact X.index1 rfl rfl Try.underlying22 sz_30 (by first | exact Option.some_ne_none _ | exact hA) (by omega))) hS1 ?_
            refine D.one 15 (by kernel_rfl) rfl ?_
            refine L.storeON rfl rfl (by conv => lhs; whnf) sz_30 (hoX) (by omega) ?_
            intro w12 hoX hg2 hb2 hs2
            have hS2 := trivial
            refine L.nil ?_
            refine ⟨fun _ => hS2, ?_⟩
            replace hG := grb_trans hG hg2
            refine D.done (by kernel_rfl) ?_
            refine J.seq ?_
            refine J.region ?_
            refine L.va rfl (X.move (by conv => lhs; whnf)) ?_
            refine L.va rfl (X.assign (by conv => lhs; whnf)) ?_
            refine L.va rfl (X.assign (by conv => lhs; whnf)) ?_
            refine L.nil ?_
            refine J.ret ?_
            refine thn_ret <| ?_
            refine fin2 ?_
            exact ⟨swp m j a, j, true, rfl, ⟨hoX, grb_trans hG9 hG, .step M.p ⟨by omega, by omega⟩ ⟨by omega, by omega⟩ (by omega)⟩, by omega, by omega, hd.1, hd.2⟩
        · have hi' := hi (by omega)
          have hj' := hj (by omega)
          have hne : i ≠ j := fun e => by subst e; omega
          obtain ⟨j, rfl⟩ : ∃ j', j = j' + 1 := ⟨j - 1, by omega⟩
          have ej : ((j + 1 : Nat) : Int) - 1 = (j : Int) := by omega
          refine J.skip ?_
          refine J.seq ?_
          refine J.draw (ℓ := 1000000) (S := (fun _ => True)) mixed (fun w12d hSE hS_h => ?_)
          have hS : ((fun _ => True)) w12d := trivial
          have hrw12 := (Reads.of_own HO).ext hSE
          have hoX := HO.ext hSE
          have hG : w9.grownBy w12d (Value.ownBlock (.slice A n c)) := grown_ext hSE
          refine D.va 0 rfl (by kernel_rfl) (fun _ _ _ h => h) rfl (fun w' hw => X.move (by conv => lhs; whnf)) hS ?_
          refine D.va 1 rfl (by kernel_rfl) (fun _ _ _ h => h) rfl (fun w' hw => X.move (by conv => lhs; whnf)) hS ?_
          refine D.va 2 rfl (by kernel_rfl) (fun _ _ _ h => h) rfl (fun w' hw => X.move (by conv => lhs; whnf)) hS ?_
          refine D.va 3 rfl (by kernel_rfl) (fun _ _ _ h => h) rfl (fun w' hw => X.move (by conv => lhs; whnf)) hS ?_
          refine D.va 4 rfl (by kernel_rfl) (fun _ _ _ h => h) rfl (fun w' hw => X.move (by conv => lhs; whnf)) hS ?_
          refine D.va 5 rfl (by kernel_rfl) (fun _ _ _ h => h) rfl (fun w' hw => X.move (by conv => lhs; whnf)) hS ?_
          refine D.va 6 rfl (by kernel_rfl) (fun _ _ _ h => h) rfl (fun w' hw => (by first | exact X.index1n rfl rfl Try.underlying22 sz_30 (by first | exact Option.some_ne_none _ | exact hA) (by omega) | exact X.index1 rfl rfl Try.underlying22 sz_30 (by first | exact Option.some_ne_none _ | exact hA) (by omega))) hS ?_
          refine D.va 8 rfl (by kernel_rfl) (fun _ _ _ h => h) rfl (fun w' hw => X.move (by conv => lhs; whnf)) hS ?_
          refine D.va 9 rfl (by kernel_rfl) (fun _ _ _ h => h) rfl (fun w' hw => X.move (by conv => lhs; whnf)) hS ?_
          refine D.va 10 rfl (by kernel_rfl) (fun _ _ _ h => h) rfl (fun w' hw => (by first | exact X.index1n rfl rfl Try.underlying22 sz_30 (by first | exact Option.some_ne_none _ | exact hA) (by omega) | exact X.index1 rfl rfl Try.underlying22 sz_30 (by first | exact Option.some_ne_none _ | exact hA) (by omega))) hS ?_
          refine D.two 7 11 (by kernel_rfl) rfl rfl ?_ ?_
          · refine L.va rfl (X.load rfl sc_30 (Ld.num hrw12 (j := j + 1) (by omega))) ?_
            refine L.nil ?_
            refine ⟨fun _ => hS, ?_⟩
            refine D.one 11 (by kernel_rfl) rfl ?_
            refine L.va rfl (X.load rfl sc_30 (Ld.num hrw12 (j := i) (by omega))) ?_
            refine L.nil ?_
            refine ⟨fun _ => hS, ?_⟩
            refine D.va 12 rfl (by kernel_rfl) (fun _ _ _ h => h) rfl (fun w' hw => (by first | exact X.index1n rfl rfl Try.underlying22 sz_30 (by first | exact Option.some_ne_none _ | exact hA) (by omega) | exact X.index1 rfl rfl Try.underlying22 sz_30 (by first | exact Option.some_ne_none _ | exact hA) (by omega))) hS ?_
            refine D.one 13 (by kernel_rfl) rfl ?_
            refine L.storeON rfl rfl (by conv => lhs; whnf) sz_30 (hoX) (by omega) ?_
            intro w12 hoX hg2 hb2 hs2
            have hS1 := trivial
            refine L.nil ?_
            refine ⟨fun _ => hS1, ?_⟩
            replace hG := grb_trans hG hg2
            refine D.va 14 rfl (by kernel_rfl) (fun _ _ _ h => h) rfl (fun w' hw => (by first | exact X.index1n rfl rfl Try.underlying22 sz_30 (by first | exact Option.some_ne_none _ | exact hA) (by omega) | exact X.index1 rfl rfl Try.underlying22 sz_30 (by first | exact Option.some_ne_none _ | exact hA) (by omega))) hS1 ?_
            refine D.one 15 (by kernel_rfl) rfl ?_
            refine L.storeON rfl rfl (by conv => lhs; whnf) sz_30 (hoX) (by omega) ?_
            intro w12 hoX hg2 hb2 hs2
            have hS2 := trivial
            refine L.nil ?_
            refine ⟨fun _ => hS2, ?_⟩
            replace hG := grb_trans hG hg2
            refine D.done (by kernel_rfl) ?_
            refine J.seq ?_
            refine J.region ?_
            refine L.va rfl (X.move (by conv => lhs; whnf)) ?_
            refine L.va rfl (X.add rfl rfl (by omega)) ?_
            refine L.va rfl (X.assign (by conv => lhs; whnf)) ?_
            refine L.nil ?_
            refine J.seq ?_
            refine J.region ?_
            refine L.va rfl (X.move (by conv => lhs; whnf)) ?_
            refine L.va rfl (X.sub rfl rfl (by omega)) ?_
            refine L.va rfl (X.assign (by conv => lhs; whnf)) ?_
            refine L.nil ?_
            refine J.seq ?_
            refine J.block ?_
            have M2 : SwU w w12 A n c N a b l (swp m i (j + 1)) := ⟨hoX, grb_trans hG9 hG, .step M.p ⟨by omega, by omega⟩ ⟨by omega, by omega⟩ (by omega)⟩
            have HP2 := HP.swap (by omega) (by omega) (by omega) (by omega)
            rw [ej]
            refine J.loop (X := Nat × Nat × List Int) [10, 11, 99, 100, 101, 102, 103, 104, 105, 106, 107, 108, 109, 110, 111, 112, 113, 114, 115, 116, 117, 118, 119, 120, 121, 122, 123, 124, 125, 126, 127, 128, 129, 130, 131, 132, 133, 134, 135, 136, 137, 138, 139, 140, 141, 142, 143, 144, 145, 146, 147, 148, 149, 150, 151, 152] (fun (i, j, m) => [(10, .int .i64 (i : Int)), (11, .int .i64 (j : Int))]) (fun (i, j, m) w' => SwU w w' A n c N a b l m ∧ Pt (· < ·) (fun x y => y ≤ x) m a b i j) (fun (i, j, _) => j + 1 - i) ((i + 1, j, swp m i (j + 1))) (At2 (by first | rfl | exact at_int rfl (by omega) | exact at_slice rfl (by omega) | exact at_int rfl (by simp)) (by first | rfl | exact at_int rfl (by omega) | exact at_slice rfl (by omega) | exact at_int rfl (by simp))) ?_ ?_
            · exact ⟨M2, HP2⟩
            · rintro ⟨i, j, m⟩ g w13 ⟨M, HP⟩
              have hml : m.length = n := by rw [M.p.len, hl]
              have HO := M.o
              obtain ⟨io, hio⟩ : ∃ io, io = i := ⟨_, rfl⟩
              refine J.block ?_
              refine J.cut (X := Nat) [10, 99, 100, 101, 102, 103, 104, 105, 106, 107, 108, 109, 110, 111, 112, 113, 114] (fun i => [(10, .int .i64 (i : Int))]) (fun i w' => Pt (· < ·) (fun x y => y ≤ x) m a b i j ∧ (i ≤ j → ¬ m.getD i 0 < m.getD a 0) ∧ io ≤ i ∧ Ext w13 w') ?_ ?_
              · refine J.block ?_
                refine J.loop (X := Nat) [10, 99, 100, 101, 102, 103, 104, 105, 106, 107, 108, 109, 110, 111, 112, 113, 114] (fun i => [(10, .int .i64 (i : Int))]) (fun i w' => Pt (· < ·) (fun x y => y ≤ x) m a b i j ∧ io ≤ i ∧ Ext w13 w') (fun i => j + 1 - i) (i) (At1 (by first | rfl | exact at_int rfl (by omega) | exact at_slice rfl (by omega) | exact at_int rfl (by simp))) ?_ ?_
                · exact ⟨HP, by omega, Ext.refl _⟩
                · rintro i g w14 ⟨HP, hbd, he⟩
                  have h1 := HP.ai
                  have h2 := HP.ij
                  have h3 := HP.jb
                  have hr := Reads.of_own (HO.ext he)
                  have hA := hr.some_ (by omega)
                  refine J.seq ?_
                  refine J.seq ?_
                  refine J.quiet mixed (by kernel_rfl) ?_
                  refine Qt.va rfl (fun w' hw => X.move (by conv => lhs; whnf)) ?_
                  refine Qt.va rfl (fun w' hw => X.move (by conv => lhs; whnf)) ?_
                  refine Qt.va rfl (fun w' hw => X.leq rfl rfl) ?_
                  refine Qt.va rfl (fun w' hw => X.move (by conv => lhs; whnf)) ?_
                  refine Qt.caseDec (k := 102) rfl (fun hij => ?_) (fun hij => ?_)
                  · refine Qt.va rfl (fun w' hw => X.move (by conv => lhs; whnf)) ?_
                    refine Qt.va rfl (fun w' hw => X.move (by conv => lhs; whnf)) ?_
                    refine Qt.va rfl (fun w' hw => (by first | exact X.index1n rfl rfl Try.underlying22 sz_30 (by first | exact Option.some_ne_none _ | exact hr.some_ (by omega) | exact hA) (by omega) | exact X.index1 rfl rfl Try.underlying22 sz_30 (by first | exact Option.some_ne_none _ | exact hr.some_ (by omega) | exact hA) (by omega))) ?_
                    refine Qt.va rfl (fun w' hw => X.load rfl sc_30 (by first | exact Ld.num (hr.ext hw) (by omega) | exact hA)) ?_
                    refine Qt.va rfl (fun w' hw => X.move (by conv => lhs; whnf)) ?_
                    refine Qt.va rfl (fun w' hw => X.move (by conv => lhs; whnf)) ?_
                    refine Qt.va rfl (fun w' hw => (by first | exact X.index1n rfl rfl Try.underlying22 sz_30 (by first | exact Option.some_ne_none _ | exact hr.some_ (by omega) | exact hA) (by omega) | exact X.index1 rfl rfl Try.underlying22 sz_30 (by first | exact Option.some_ne_none _ | exact hr.some_ (by omega) | exact hA) (by omega))) ?_
                    refine Qt.va rfl (fun w' hw => X.load rfl sc_30 (by first | exact Ld.num (hr.ext hw) (by omega) | exact hA)) ?_
                    refine Qt.call rfl en_44 rfl (fun w' hw => calls_same hw (clessU (m.getD i 0) (m.getD a 0) w')) ?_
                    refine Qt.va rfl (fun w' hw => X.pickT rfl (by conv => lhs; whnf)) ?_
                    refine Qt.nil (fun w15 hq => ?_)
                    by_cases hd : m.getD i 0 < m.getD a 0
                    · rw [show decide (m.getD i 0 < m.getD a 0) = true from decide_eq_true (by omega)]
                      refine J.iteT rfl ?_
                      refine J.skip ?_
                      refine J.block ?_
                      refine J.region ?_
                      refine L.va rfl (X.move (by conv => lhs; whnf)) ?_
                      refine L.va rfl (X.add rfl rfl (by omega)) ?_
                      refine L.va rfl (X.assign (by conv => lhs; whnf)) ?_
                      refine L.nil ?_
                      refine ⟨i + 1, At1 (by first | rfl | exact at_int rfl (by omega) | exact at_slice rfl (by omega) | exact at_int rfl (by simp)), (by (iterate 18 refine Agr.lk rfl ?_); exact Agr.lk rfl (Agr.hav rfl Agr.rfl')), ?_⟩
                      exact ⟨⟨⟨by omega, by omega, h3, fun k k1 k2 => by
                        rcases Nat.lt_or_ge k i with h | h
                        · exact HP.le k k1 h
                        · obtain rfl : k = i := by omega
                          exact hd, HP.ri⟩, by omega, he.trans hq⟩, by omega⟩
                    · rw [show decide (m.getD i 0 < m.getD a 0) = false from decide_eq_false (by omega)]
                      refine J.iteF rfl ?_
                      refine J.exit ?_
                      refine ⟨i, At1 (by first | rfl | exact at_int rfl (by omega) | exact at_slice rfl (by omega) | exact at_int rfl (by simp)), (by (iterate 15 refine Agr.lk rfl ?_); refine Agr.lk rfl ?_; refine Agr.hav rfl ?_; exact Agr.rfl'), ?_⟩
                      exact ⟨HP, (fun _ => hd), hbd, he.trans hq⟩
                  · skip
                    refine Qt.no rfl ?_
                    refine Qt.no rfl ?_
                    refine Qt.no rfl ?_
                    refine Qt.no rfl ?_
                    refine Qt.no rfl ?_
                    refine Qt.no rfl ?_
                    refine Qt.no rfl ?_
                    refine Qt.no rfl ?_
                    refine Qt.no rfl ?_
                    refine Qt.va rfl (fun w' hw => X.pickF rfl (by conv => lhs; whnf)) ?_
                    refine Qt.nil (fun w15 hq => ?_)
                    refine J.iteF rfl ?_
                    refine J.exit ?_
                    refine ⟨i, At1 (by first | rfl | exact at_int rfl (by omega) | exact at_slice rfl (by omega) | exact at_int rfl (by simp)), (by (iterate 15 refine Agr.lk rfl ?_); refine Agr.lk rfl ?_; refine Agr.hav rfl ?_; exact Agr.rfl'), ?_⟩
                    exact ⟨HP, (fun h => absurd h (by omega)), hbd, he.trans hq⟩
              · rintro i g w16 ⟨HP, hi, hio2, he16⟩
                replace HO := HO.ext he16
                have hG16 : w.grownBy w16 (Value.ownBlock (.slice A n c)) := grb_trans M.g (grown_ext he16)
                obtain ⟨jo, hjo⟩ : ∃ jo, jo = j := ⟨_, rfl⟩
                rw [← hjo] at hi
                refine J.cut (X := Nat) [11, 115, 116, 117, 118, 119, 120, 121, 122, 123, 124, 125, 126, 127, 128, 129, 130, 131] (fun j => [(11, .int .i64 (j : Int))]) (fun j w' => Pt (· < ·) (fun x y => y ≤ x) m a b i j ∧ (i ≤ j → ¬ m.getD a 0 ≤ m.getD j 0) ∧ j ≤ jo ∧ Ext w16 w') ?_ ?_
                · refine J.block ?_
                  refine J.loop (X := Nat) [11, 115, 116, 117, 118, 119, 120, 121, 122, 123, 124, 125, 126, 127, 128, 129, 130, 131] (fun j => [(11, .int .i64 (j : Int))]) (fun j w' => Pt (· < ·) (fun x y => y ≤ x) m a b i j ∧ j ≤ jo ∧ Ext w16 w') (fun j => j) (j) (At1 (by first | rfl | exact at_int rfl (by omega) | exact at_slice rfl (by omega) | exact at_int rfl (by simp))) ?_ ?_
                  · exact ⟨HP, by omega, Ext.refl _⟩
                  · rintro j g w17 ⟨HP, hbd, he⟩
                    have h1 := HP.ai
                    have h2 := HP.ij
                    have h3 := HP.jb
                    have hr := Reads.of_own (HO.ext he)
                    have hA := hr.some_ (by omega)
                    refine J.seq ?_
                    refine J.seq ?_
                    refine J.quiet mixed (by kernel_rfl) ?_
                    refine Qt.va rfl (fun w' hw => X.move (by conv => lhs; whnf)) ?_
                    refine Qt.va rfl (fun w' hw => X.move (by conv => lhs; whnf)) ?_
                    refine Qt.va rfl (fun w' hw => X.leq rfl rfl) ?_
                    refine Qt.va rfl (fun w' hw => X.move (by conv => lhs; whnf)) ?_
                    refine Qt.caseDec (k := 118) rfl (fun hij => ?_) (fun hij => ?_)
                    · refine Qt.va rfl (fun w' hw => X.move (by conv => lhs; whnf)) ?_
                      refine Qt.va rfl (fun w' hw => X.move (by conv => lhs; whnf)) ?_
                      refine Qt.va rfl (fun w' hw => (by first | exact X.index1n rfl rfl Try.underlying22 sz_30 (by first | exact Option.some_ne_none _ | exact hr.some_ (by omega) | exact hA) (by omega) | exact X.index1 rfl rfl Try.underlying22 sz_30 (by first | exact Option.some_ne_none _ | exact hr.some_ (by omega) | exact hA) (by omega))) ?_
                      refine Qt.va rfl (fun w' hw => X.load rfl sc_30 (by first | exact Ld.num (hr.ext hw) (by omega) | exact hA)) ?_
                      refine Qt.va rfl (fun w' hw => X.move (by conv => lhs; whnf)) ?_
                      refine Qt.va rfl (fun w' hw => X.move (by conv => lhs; whnf)) ?_
                      refine Qt.va rfl (fun w' hw => (by first | exact X.index1n rfl rfl Try.underlying22 sz_30 (by first | exact Option.some_ne_none _ | exact hr.some_ (by omega) | exact hA) (by omega) | exact X.index1 rfl rfl Try.underlying22 sz_30 (by first | exact Option.some_ne_none _ | exact hr.some_ (by omega) | exact hA) (by omega))) ?_
                      refine Qt.va rfl (fun w' hw => X.load rfl sc_30 (by first | exact Ld.num (hr.ext hw) (by omega) | exact hA)) ?_
                      refine Qt.call rfl en_44 rfl (fun w' hw => calls_same hw (clessU (m.getD j 0) (m.getD a 0) w')) ?_
                      refine Qt.va rfl (fun w' hw => X.not rfl) ?_
                      refine Qt.va rfl (fun w' hw => X.pickT rfl (by conv => lhs; whnf)) ?_
                      refine Qt.nil (fun w18 hq => ?_)
                      by_cases hd : m.getD a 0 ≤ m.getD j 0
                      · rw [show decide (m.getD j 0 < m.getD a 0) = false from decide_eq_false (by omega)]
                        refine J.iteT rfl ?_
                        refine J.skip ?_
                        refine J.block ?_
                        refine J.region ?_
                        refine L.va rfl (X.move (by conv => lhs; whnf)) ?_
                        refine L.va rfl (X.sub rfl rfl (by omega)) ?_
                        refine L.va rfl (X.assign (by conv => lhs; whnf)) ?_
                        refine L.nil ?_
                        obtain ⟨j', rfl⟩ : ∃ j', j = j' + 1 := ⟨j - 1, by omega⟩
                        refine ⟨j', At1 (by first | rfl | exact at_int rfl (by omega) | exact at_slice rfl (by omega) | exact at_int rfl (by simp)), (by (iterate 19 refine Agr.lk rfl ?_); exact Agr.lk rfl (Agr.hav rfl Agr.rfl')), ?_⟩
                        exact ⟨⟨⟨h1, by omega, by omega, HP.le, fun k k1 k2 => by
                          rcases Nat.lt_or_ge (j' + 1) k with h | h
                          · exact HP.ri k h k2
                          · obtain rfl : k = j' + 1 := by omega
                            exact hd⟩, by omega, he.trans hq⟩, by omega⟩
                      · rw [show decide (m.getD j 0 < m.getD a 0) = true from decide_eq_true (by omega)]
                        refine J.iteF rfl ?_
                        refine J.exit ?_
                        refine ⟨j, At1 (by first | rfl | exact at_int rfl (by omega) | exact at_slice rfl (by omega) | exact at_int rfl (by simp)), (by (iterate 16 refine Agr.lk rfl ?_); refine Agr.lk rfl ?_; refine Agr.hav rfl ?_; exact Agr.rfl'), ?_⟩
                        exact ⟨HP, (fun _ => hd), hbd, he.trans hq⟩
                    · skip
                      refine Qt.no rfl ?_
                      refine Qt.no rfl ?_
                      refine Qt.no rfl ?_
                      refine Qt.no rfl ?_
                      refine Qt.no rfl ?_
                      refine Qt.no rfl ?_
                      refine Qt.no rfl ?_
                      refine Qt.no rfl ?_
                      refine Qt.no rfl ?_
                      refine Qt.no rfl ?_
                      refine Qt.va rfl (fun w' hw => X.pickF rfl (by conv => lhs; whnf)) ?_
                      refine Qt.nil (fun w18 hq => ?_)
                      refine J.iteF rfl ?_
                      refine J.exit ?_
                      refine ⟨j, At1 (by first | rfl | exact at_int rfl (by omega) | exact at_slice rfl (by omega) | exact at_int rfl (by simp)), (by (iterate 16 refine Agr.lk rfl ?_); refine Agr.lk rfl ?_; refine Agr.hav rfl ?_; exact Agr.rfl'), ?_⟩
                      exact ⟨HP, (fun h => absurd h (by omega)), hbd, he.trans hq⟩
                · rintro j g w19 ⟨HP, hj, hjo2, he19⟩
                  replace HO := HO.ext he19
                  have hG19 := grb_trans hG16 (grown_ext he19)
                  have h1 := HP.ai
                  have h2 := HP.ij
                  have h3 := HP.jb
                  refine J.seq ?_
                  refine J.seq ?_
                  refine J.region ?_
                  refine L.va rfl (X.move (by conv => lhs; whnf)) ?_
                  refine L.va rfl (X.move (by conv => lhs; whnf)) ?_
                  refine L.va rfl (X.gtr rfl rfl) ?_
                  refine L.nil ?_
                  refine J.dec rfl (fun hgt => ?_) (fun hgt => ?_)
                  · have hd := HP.done (by omega) (by omega)
                    refine J.exit ?_
                    refine J.seq ?_
                    refine J.draw (ℓ := 1000000) (S := (fun _ => True)) mixed (fun w22d hSE hS_h => ?_)
                    have hS : ((fun _ => True)) w22d := trivial
                    have hrw22 := (Reads.of_own HO).ext hSE
                    have hoX := HO.ext hSE
                    have hG : w19.grownBy w22d (Value.ownBlock (.slice A n c)) := grown_ext hSE
                    refine D.va 0 rfl (by kernel_rfl) (fun _ _ _ h => h) rfl (fun w' hw => X.move (by conv => lhs; whnf)) hS ?_
                    refine D.va 1 rfl (by kernel_rfl) (fun _ _ _ h => h) rfl (fun w' hw => X.move (by conv => lhs; whnf)) hS ?_
                    refine D.va 2 rfl (by kernel_rfl) (fun _ _ _ h => h) rfl (fun w' hw => X.move (by conv => lhs; whnf)) hS ?_
                    refine D.va 3 rfl (by kernel_rfl) (fun _ _ _ h => h) rfl (fun w' hw => X.move (by conv => lhs; whnf)) hS ?_
                    refine D.va 4 rfl (by kernel_rfl) (fun _ _ _ h => h) rfl (fun w' hw => X.move (by conv => lhs; whnf)) hS ?_
                    refine D.va 5 rfl (by kernel_rfl) (fun _ _ _ h => h) rfl (fun w' hw => X.move (by conv => lhs; whnf)) hS ?_
                    refine D.va 6 rfl (by kernel_rfl) (fun _ _ _ h => h) rfl (fun w' hw => (by first | exact X.index1n rfl rfl Try.underlying22 sz_30 (by first | exact Option.some_ne_none _ | exact hA) (by omega) | exact X.index1 rfl rfl Try.underlying22 sz_30 (by first | exact Option.some_ne_none _ | exact hA) (by omega))) hS ?_
                    refine D.va 8 rfl (by kernel_rfl) (fun _ _ _ h => h) rfl (fun w' hw => X.move (by conv => lhs; whnf)) hS ?_
                    refine D.va 9 rfl (by kernel_rfl) (fun _ _ _ h => h) rfl (fun w' hw => X.move (by conv => lhs; whnf)) hS ?_
                    refine D.va 10 rfl (by kernel_rfl) (fun _ _ _ h => h) rfl (fun w' hw => (by first | exact X.index1n rfl rfl Try.underlying22 sz_30 (by first | exact Option.some_ne_none _ | exact hA) (by omega) | exact X.index1 rfl rfl Try.underlying22 sz_30 (by first | exact Option.some_ne_none _ | exact hA) (by omega))) hS ?_
                    refine D.two 7 11 (by kernel_rfl) rfl rfl ?_ ?_
                    · refine L.va rfl (X.load rfl sc_30 (Ld.num hrw22 (j := a) (by omega))) ?_
                      refine L.nil ?_
                      refine ⟨fun _ => hS, ?_⟩
                      refine D.one 11 (by kernel_rfl) rfl ?_
                      refine L.va rfl (X.load rfl sc_30 (Ld.num hrw22 (j := j) (by omega))) ?_
                      refine L.nil ?_
                      refine ⟨fun _ => hS, ?_⟩
                      refine D.va 12 rfl (by kernel_rfl) (fun _ _ _ h => h) rfl (fun w' hw => (by first | exact X.index1n rfl rfl Try.underlying22 sz_30 (by first | exact Option.some_ne_none _ | exact hA) (by omega) | exact X.index1 rfl rfl Try.underlying22 sz_30 (by first | exact Option.some_ne_none _ | exact hA) (by omega))) hS ?_
                      refine D.one 13 (by kernel_rfl) rfl ?_
                      refine L.storeON rfl rfl (by conv => lhs; whnf) sz_30 (hoX) (by omega) ?_
                      intro w22 hoX hg2 hb2 hs2
                      have hS1 := trivial
                      refine L.nil ?_
                      refine ⟨fun _ => hS1, ?_⟩
                      replace hG := grb_trans hG hg2
                      refine D.va 14 rfl (by kernel_rfl) (fun _ _ _ h => h) rfl (fun w' hw => (by first | exact X.index1n rfl rfl Try.underlying22 sz_30 (by first | exact Option.some_ne_none _ | exact hA) (by omega) | exact X.index1 rfl rfl Try.underlying22 sz_30 (by first | exact Option.some_ne_none _ | exact hA) (by omega))) hS1 ?_
                      refine D.one 15 (by kernel_rfl) rfl ?_
                      refine L.storeON rfl rfl (by conv => lhs; whnf) sz_30 (hoX) (by omega) ?_
                      intro w22 hoX hg2 hb2 hs2
                      have hS2 := trivial
                      refine L.nil ?_
                      refine ⟨fun _ => hS2, ?_⟩
                      replace hG := grb_trans hG hg2
                      refine D.done (by kernel_rfl) ?_
                      refine J.seq ?_
                      refine J.region ?_
                      refine L.va rfl (X.move (by conv => lhs; whnf)) ?_
                      refine L.va rfl (X.assign (by conv => lhs; whnf)) ?_
                      refine L.va rfl (X.assign (by conv => lhs; whnf)) ?_
                      refine L.nil ?_
                      refine J.ret ?_
                      refine fin2 ?_
                      exact ⟨swp m j a, j, false, rfl, ⟨hoX, grb_trans hG19 hG, .step M.p ⟨by omega, by omega⟩ ⟨by omega, by omega⟩ (by omega)⟩, by omega, by omega, hd.1, hd.2⟩
                    · refine L.va rfl (X.load rfl sc_30 (Ld.num hrw22 (j := j) (by omega))) ?_
                      refine L.nil ?_
                      refine ⟨fun _ => hS, ?_⟩
                      refine D.one 7 (by kernel_rfl) rfl ?_
                      refine L.va rfl (X.load rfl sc_30 (Ld.num hrw22 (j := a) (by omega))) ?_
                      refine L.nil ?_
                      refine ⟨fun _ => hS, ?_⟩
                      refine D.va 12 rfl (by kernel_rfl) (fun _ _ _ h => h) rfl (fun w' hw => (by first | exact X.index1n rfl rfl Try.underlying22 sz_30 (by first | exact Option.some_ne_none _ | exact hA) (by omega) | exact X.index1 rfl rfl Try.underlying22 sz_30 (by first | exact Option.some_ne_none _ | exact hA) (by omega))) hS ?_
                      refine D.one 13 (by kernel_rfl) rfl ?_
                      refine L.storeON rfl rfl (by conv => lhs; whnf) sz_30 (hoX) (by omega) ?_
                      intro w22 hoX hg2 hb2 hs2
                      have hS1 := trivial
                      refine L.nil ?_
                      refine ⟨fun _ => hS1, ?_⟩
                      replace hG := grb_trans hG hg2
                      refine D.va 14 rfl (by kernel_rfl) (fun _ _ _ h => h) rfl (fun w' hw => (by first | exact X.index1n rfl rfl Try.underlying22 sz_30 (by first | exact Option.some_ne_none _ | exact hA) (by omega) | exact X.index1 rfl rfl Try.underlying22 sz_30 (by first | exact Option.some_ne_none _ | exact hA) (by omega))) hS1 ?_
                      refine D.one 15 (by kernel_rfl) rfl ?_
                      refine L.storeON rfl rfl (by conv => lhs; whnf) sz_30 (hoX) (by omega) ?_
                      intro w22 hoX hg2 hb2 hs2
                      have hS2 := trivial
                      refine L.nil ?_
                      refine ⟨fun _ => hS2, ?_⟩
                      replace hG := grb_trans hG hg2
                      refine D.done (by kernel_rfl) ?_
                      refine J.seq ?_
                      refine J.region ?_
                      refine L.va rfl (X.move (by conv => lhs; whnf)) ?_
                      refine L.va rfl (X.assign (by conv => lhs; whnf)) ?_
                      refine L.va rfl (X.assign (by conv => lhs; whnf)) ?_
                      refine L.nil ?_
                      refine J.ret ?_
                      refine fin2 ?_
                      exact ⟨swp m j a, j, false, rfl, ⟨hoX, grb_trans hG19 hG, .step M.p ⟨by omega, by omega⟩ ⟨by omega, by omega⟩ (by omega)⟩, by omega, by omega, hd.1, hd.2⟩
                  · have hi' := hi (by omega)
                    have hj' := hj (by omega)
                    have hne : i ≠ j := fun e => by subst e; omega
                    obtain ⟨j, rfl⟩ : ∃ j', j = j' + 1 := ⟨j - 1, by omega⟩
                    refine J.skip ?_
                    refine J.seq ?_
                    refine J.draw (ℓ := 1000000) (S := (fun _ => True)) mixed (fun w22d hSE hS_h => ?_)
                    have hS : ((fun _ => True)) w22d := trivial
                    have hrw22 := (Reads.of_own HO).ext hSE
                    have hoX := HO.ext hSE
                    have hG : w19.grownBy w22d (Value.ownBlock (.slice A n c)) := grown_ext hSE
                    refine D.va 0 rfl (by kernel_rfl) (fun _ _ _ h => h) rfl (fun w' hw => X.move (by conv => lhs; whnf)) hS ?_
                    refine D.va 1 rfl (by kernel_rfl) (fun _ _ _ h => h) rfl (fun w' hw => X.move (by conv => lhs; whnf)) hS ?_
                    refine D.va 2 rfl (by kernel_rfl) (fun _ _ _ h => h) rfl (fun w' hw => X.move (by conv => lhs; whnf)) hS ?_
                    refine D.va 3 rfl (by kernel_rfl) (fun _ _ _ h => h) rfl (fun w' hw => X.move (by conv => lhs; whnf)) hS ?_
                    refine D.va 4 rfl (by kernel_rfl) (fun _ _ _ h => h) rfl (fun w' hw => X.move (by conv => lhs; whnf)) hS ?_
                    refine D.va 5 rfl (by kernel_rfl) (fun _ _ _ h => h) rfl (fun w' hw => X.move (by conv => lhs; whnf)) hS ?_
                    refine D.va 6 rfl (by kernel_rfl) (fun _ _ _ h => h) rfl (fun w' hw => (by first | exact X.index1n rfl rfl Try.underlying22 sz_30 (by first | exact Option.some_ne_none _ | exact hA) (by omega) | exact X.index1 rfl rfl Try.underlying22 sz_30 (by first | exact Option.some_ne_none _ | exact hA) (by omega))) hS ?_
                    refine D.va 8 rfl (by kernel_rfl) (fun _ _ _ h => h) rfl (fun w' hw => X.move (by conv => lhs; whnf)) hS ?_
                    refine D.va 9 rfl (by kernel_rfl) (fun _ _ _ h => h) rfl (fun w' hw => X.move (by conv => lhs; whnf)) hS ?_
                    refine D.va 10 rfl (by kernel_rfl) (fun _ _ _ h => h) rfl (fun w' hw => (by first | exact X.index1n rfl rfl Try.underlying22 sz_30 (by first | exact Option.some_ne_none _ | exact hA) (by omega) | exact X.index1 rfl rfl Try.underlying22 sz_30 (by first | exact Option.some_ne_none _ | exact hA) (by omega))) hS ?_
                    refine D.two 7 11 (by kernel_rfl) rfl rfl ?_ ?_
                    · refine L.va rfl (X.load rfl sc_30 (Ld.num hrw22 (j := j + 1) (by omega))) ?_
                      refine L.nil ?_
                      refine ⟨fun _ => hS, ?_⟩
                      refine D.one 11 (by kernel_rfl) rfl ?_
                      refine L.va rfl (X.load rfl sc_30 (Ld.num hrw22 (j := i) (by omega))) ?_
                      refine L.nil ?_
                      refine ⟨fun _ => hS, ?_⟩
                      refine D.va 12 rfl (by kernel_rfl) (fun _ _ _ h => h) rfl (fun w' hw => (by first | exact X.index1n rfl rfl Try.underlying22 sz_30 (by first | exact Option.some_ne_none _ | exact hA) (by omega) | exact X.index1 rfl rfl Try.underlying22 sz_30 (by first | exact Option.some_ne_none _ | exact hA) (by omega))) hS ?_
                      refine D.one 13 (by kernel_rfl) rfl ?_
                      refine L.storeON rfl rfl (by conv => lhs; whnf) sz_30 (hoX) (by omega) ?_
                      intro w22 hoX hg2 hb2 hs2
                      have hS1 := trivial
                      refine L.nil ?_
                      refine ⟨fun _ => hS1, ?_⟩
                      replace hG := grb_trans hG hg2
                      refine D.va 14 rfl (by kernel_rfl) (fun _ _ _ h => h) rfl (fun w' hw => (by first | exact X.index1n rfl rfl Try.underlying22 sz_30 (by first | exact Option.some_ne_none _ | exact hA) (by omega) | exact X.index1 rfl rfl Try.underlying22 sz_30 (by first | exact Option.some_ne_none _ | exact hA) (by omega))) hS1 ?_
                      refine D.one 15 (by kernel_rfl) rfl ?_
                      refine L.storeON rfl rfl (by conv => lhs; whnf) sz_30 (hoX) (by omega) ?_
                      intro w22 hoX hg2 hb2 hs2
                      have hS2 := trivial
                      refine L.nil ?_
                      refine ⟨fun _ => hS2, ?_⟩
                      replace hG := grb_trans hG hg2
                      refine D.done (by kernel_rfl) ?_
                      refine J.seq ?_
                      refine J.region ?_
                      refine L.va rfl (X.move (by conv => lhs; whnf)) ?_
                      refine L.va rfl (X.add rfl rfl (by omega)) ?_
                      refine L.va rfl (X.assign (by conv => lhs; whnf)) ?_
                      refine L.nil ?_
                      refine J.region ?_
                      refine L.va rfl (X.move (by conv => lhs; whnf)) ?_
                      refine L.va rfl (X.sub rfl rfl (by omega)) ?_
                      refine L.va rfl (X.assign (by conv => lhs; whnf)) ?_
                      refine L.nil ?_
                      refine ⟨(i + 1, j, swp m i (j + 1)), At2 (by first | rfl | exact at_int rfl (by omega) | exact at_slice rfl (by omega) | exact at_int rfl (by simp)) (by first | rfl | exact at_int rfl (by omega) | exact at_slice rfl (by omega) | exact at_int rfl (by simp)), (by (iterate 23 refine Agr.lk rfl ?_); refine Agr.lk rfl ?_; refine Agr.hav rfl ?_; refine Agr.lk rfl ?_; refine Agr.hav rfl ?_; exact Agr.lk rfl (Agr.hav rfl Agr.rfl')), ?_⟩
                      exact ⟨⟨⟨hoX, grb_trans hG19 hG, .step M.p ⟨by omega, by omega⟩ ⟨by omega, by omega⟩ (by omega)⟩, HP.swap (by omega) (by omega) (by omega) (by omega)⟩, by show j + 1 - (i + 1) < _ + 1 - _; omega⟩
                    · refine L.va rfl (X.load rfl sc_30 (Ld.num hrw22 (j := i) (by omega))) ?_
                      refine L.nil ?_
                      refine ⟨fun _ => hS, ?_⟩
                      refine D.one 7 (by kernel_rfl) rfl ?_
                      refine L.va rfl (X.load rfl sc_30 (Ld.num hrw22 (j := j + 1) (by omega))) ?_
                      refine L.nil ?_
                      refine ⟨fun _ => hS, ?_⟩
                      refine D.va 12 rfl (by kernel_rfl) (fun _ _ _ h => h) rfl (fun w' hw => (by first | exact X.index1n rfl rfl Try.underlying22 sz_30 (by first | exact Option.some_ne_none _ | exact hA) (by omega) | exact X.index1 rfl rfl Try.underlying22 sz_30 (by first | exact Option.some_ne_none _ | exact hA) (by omega))) hS ?_
                      refine D.one 13 (by kernel_rfl) rfl ?_
                      refine L.storeON rfl rfl (by conv => lhs; whnf) sz_30 (hoX) (by omega) ?_
                      intro w22 hoX hg2 hb2 hs2
                      have hS1 := trivial
                      refine L.nil ?_
                      refine ⟨fun _ => hS1, ?_⟩
                      replace hG := grb_trans hG hg2
                      refine D.va 14 rfl (by kernel_rfl) (fun _ _ _ h => h) rfl (fun w' hw => (by first | exact X.index1n rfl rfl Try.underlying22 sz_30 (by first | exact Option.some_ne_none _ | exact hA) (by omega) | exact X.index1 rfl rfl Try.underlying22 sz_30 (by first | exact Option.some_ne_none _ | exact hA) (by omega))) hS1 ?_
                      refine D.one 15 (by kernel_rfl) rfl ?_
                      refine L.storeON rfl rfl (by conv => lhs; whnf) sz_30 (hoX) (by omega) ?_
                      intro w22 hoX hg2 hb2 hs2
                      have hS2 := trivial
                      refine L.nil ?_
                      refine ⟨fun _ => hS2, ?_⟩
                      replace hG := grb_trans hG hg2
                      refine D.done (by kernel_rfl) ?_
                      refine J.seq ?_
                      refine J.region ?_
                      refine L.va rfl (X.move (by conv => lhs; whnf)) ?_
                      refine L.va rfl (X.add rfl rfl (by omega)) ?_
                      refine L.va rfl (X.assign (by conv => lhs; whnf)) ?_
                      refine L.nil ?_
                      refine J.region ?_
                      refine L.va rfl (X.move (by conv => lhs; whnf)) ?_
                      refine L.va rfl (X.sub rfl rfl (by omega)) ?_
                      refine L.va rfl (X.assign (by conv => lhs; whnf)) ?_
                      refine L.nil ?_
                      refine ⟨(i + 1, j, swp m i (j + 1)), At2 (by first | rfl | exact at_int rfl (by omega) | exact at_slice rfl (by omega) | exact at_int rfl (by simp)) (by first | rfl | exact at_int rfl (by omega) | exact at_slice rfl (by omega) | exact at_int rfl (by simp)), (by (iterate 23 refine Agr.lk rfl ?_); refine Agr.lk rfl ?_; refine Agr.hav rfl ?_; refine Agr.lk rfl ?_; refine Agr.hav rfl ?_; exact Agr.lk rfl (Agr.hav rfl Agr.rfl')), ?_⟩
                      exact ⟨⟨⟨hoX, grb_trans hG19 hG, .step M.p ⟨by omega, by omega⟩ ⟨by omega, by omega⟩ (by omega)⟩, HP.swap (by omega) (by omega) (by omega) (by omega)⟩, by show j + 1 - (i + 1) < _ + 1 - _; omega⟩
          · refine L.va rfl (X.load rfl sc_30 (Ld.num hrw12 (j := i) (by omega))) ?_
            refine L.nil ?_
            refine ⟨fun _ => hS, ?_⟩
            refine D.one 7 (by kernel_rfl) rfl ?_
            refine L.va rfl (X.load rfl sc_30 (Ld.num hrw12 (j := j + 1) (by omega))) ?_
            refine L.nil ?_
            refine ⟨fun _ => hS, ?_⟩
            refine D.va 12 rfl (by kernel_rfl) (fun _ _ _ h => h) rfl (fun w' hw => (by first | exact X.index1n rfl rfl Try.underlying22 sz_30 (by first | exact Option.some_ne_none _ | exact hA) (by omega) | exact X.index1 rfl rfl Try.underlying22 sz_30 (by first | exact Option.some_ne_none _ | exact hA) (by omega))) hS ?_
            refine D.one 13 (by kernel_rfl) rfl ?_
            refine L.storeON rfl rfl (by conv => lhs; whnf) sz_30 (hoX) (by omega) ?_
            intro w12 hoX hg2 hb2 hs2
            have hS1 := trivial
            refine L.nil ?_
            refine ⟨fun _ => hS1, ?_⟩
            replace hG := grb_trans hG hg2
            refine D.va 14 rfl (by kernel_rfl) (fun _ _ _ h => h) rfl (fun w' hw => (by first | exact X.index1n rfl rfl Try.underlying22 sz_30 (by first | exact Option.some_ne_none _ | exact hA) (by omega) | exact X.index1 rfl rfl Try.underlying22 sz_30 (by first | exact Option.some_ne_none _ | exact hA) (by omega))) hS1 ?_
            refine D.one 15 (by kernel_rfl) rfl ?_
            refine L.storeON rfl rfl (by conv => lhs; whnf) sz_30 (hoX) (by omega) ?_
            intro w12 hoX hg2 hb2 hs2
            have hS2 := trivial
            refine L.nil ?_
            refine ⟨fun _ => hS2, ?_⟩
            replace hG := grb_trans hG hg2
            refine D.done (by kernel_rfl) ?_
            refine J.seq ?_
            refine J.region ?_
            refine L.va rfl (X.move (by conv => lhs; whnf)) ?_
            refine L.va rfl (X.add rfl rfl (by omega)) ?_
            refine L.va rfl (X.assign (by conv => lhs; whnf)) ?_
            refine L.nil ?_
            refine J.seq ?_
            refine J.region ?_
            refine L.va rfl (X.move (by conv => lhs; whnf)) ?_
            refine L.va rfl (X.sub rfl rfl (by omega)) ?_
            refine L.va rfl (X.assign (by conv => lhs; whnf)) ?_
            refine L.nil ?_
            refine J.seq ?_
            refine J.block ?_
            have M2 : SwU w w12 A n c N a b l (swp m i (j + 1)) := ⟨hoX, grb_trans hG9 hG, .step M.p ⟨by omega, by omega⟩ ⟨by omega, by omega⟩ (by omega)⟩
            have HP2 := HP.swap (by omega) (by omega) (by omega) (by omega)
            rw [ej]
            refine J.loop (X := Nat × Nat × List Int) [10, 11, 99, 100, 101, 102, 103, 104, 105, 106, 107, 108, 109, 110, 111, 112, 113, 114, 115, 116, 117, 118, 119, 120, 121, 122, 123, 124, 125, 126, 127, 128, 129, 130, 131, 132, 133, 134, 135, 136, 137, 138, 139, 140, 141, 142, 143, 144, 145, 146, 147, 148, 149, 150, 151, 152] (fun (i, j, m) => [(10, .int .i64 (i : Int)), (11, .int .i64 (j : Int))]) (fun (i, j, m) w' => SwU w w' A n c N a b l m ∧ Pt (· < ·) (fun x y => y ≤ x) m a b i j) (fun (i, j, _) => j + 1 - i) ((i + 1, j, swp m i (j + 1))) (At2 (by first | rfl | exact at_int rfl (by omega) | exact at_slice rfl (by omega) | exact at_int rfl (by simp)) (by first | rfl | exact at_int rfl (by omega) | exact at_slice rfl (by omega) | exact at_int rfl (by simp))) ?_ ?_
            · exact ⟨M2, HP2⟩
            · rintro ⟨i, j, m⟩ g w13 ⟨M, HP⟩
              have hml : m.length = n := by rw [M.p.len, hl]
              have HO := M.o
              obtain ⟨io, hio⟩ : ∃ io, io = i := ⟨_, rfl⟩
              refine J.block ?_
              refine J.cut (X := Nat) [10, 99, 100, 101, 102, 103, 104, 105, 106, 107, 108, 109, 110, 111, 112, 113, 114] (fun i => [(10, .int .i64 (i : Int))]) (fun i w' => Pt (· < ·) (fun x y => y ≤ x) m a b i j ∧ (i ≤ j → ¬ m.getD i 0 < m.getD a 0) ∧ io ≤ i ∧ Ext w13 w') ?_ ?_
              · refine J.block ?_
                refine J.loop (X := Nat) [10, 99, 100, 101, 102, 103, 104, 105, 106, 107, 108, 109, 110, 111, 112, 113, 114] (fun i => [(10, .int .i64 (i : Int))]) (fun i w' => Pt (· < ·) (fun x y => y ≤ x) m a b i j ∧ io ≤ i ∧ Ext w13 w') (fun i => j + 1 - i) (i) (At1 (by first | rfl | exact at_int rfl (by omega) | exact at_slice rfl (by omega) | exact at_int rfl (by simp))) ?_ ?_
                · exact ⟨HP, by omega, Ext.refl _⟩
                · rintro i g w14 ⟨HP, hbd, he⟩
                  have h1 := HP.ai
                  have h2 := HP.ij
                  have h3 := HP.jb
                  have hr := Reads.of_own (HO.ext he)
                  have hA := hr.some_ (by omega)
                  refine J.seq ?_
                  refine J.seq ?_
                  refine J.quiet mixed (by kernel_rfl) ?_
                  refine Qt.va rfl (fun w' hw => X.move (by conv => lhs; whnf)) ?_
                  refine Qt.va rfl (fun w' hw => X.move (by conv => lhs; whnf)) ?_
                  refine Qt.va rfl (fun w' hw => X.leq rfl rfl) ?_
                  refine Qt.va rfl (fun w' hw => X.move (by conv => lhs; whnf)) ?_
                  refine Qt.caseDec (k := 102) rfl (fun hij => ?_) (fun hij => ?_)
                  · refine Qt.va rfl (fun w' hw => X.move (by conv => lhs; whnf)) ?_
                    refine Qt.va rfl (fun w' hw => X.move (by conv => lhs; whnf)) ?_
                    refine Qt.va rfl (fun w' hw => (by first | exact X.index1n rfl rfl Try.underlying22 sz_30 (by first | exact Option.some_ne_none _ | exact hr.some_ (by omega) | exact hA) (by omega) | exact X.index1 rfl rfl Try.underlying22 sz_30 (by first | exact Option.some_ne_none _ | exact hr.some_ (by omega) | exact hA) (by omega))) ?_
                    refine Qt.va rfl (fun w' hw => X.load rfl sc_30 (by first | exact Ld.num (hr.ext hw) (by omega) | exact hA)) ?_
                    refine Qt.va rfl (fun w' hw => X.move (by conv => lhs; whnf)) ?_
                    refine Qt.va rfl (fun w' hw => X.move (by conv => lhs; whnf)) ?_
                    refine Qt.va rfl (fun w' hw => (by first | exact X.index1n rfl rfl Try.underlying22 sz_30 (by first | exact Option.some_ne_none _ | exact hr.some_ (by omega) | exact hA) (by omega) | exact X.index1 rfl rfl Try.underlying22 sz_30 (by first | exact Option.some_ne_none _ | exact hr.some_ (by omega) | exact hA) (by omega))) ?_
                    refine Qt.va rfl (fun w' hw => X.load rfl sc_30 (by first | exact Ld.num (hr.ext hw) (by omega) | exact hA)) ?_
                    refine Qt.call rfl en_44 rfl (fun w' hw => calls_same hw (clessU (m.getD i 0) (m.getD a 0) w')) ?_
                    refine Qt.va rfl (fun w' hw => X.pickT rfl (by conv => lhs; whnf)) ?_
                    refine Qt.nil (fun w15 hq => ?_)
                    by_cases hd : m.getD i 0 < m.getD a 0
                    · rw [show decide (m.getD i 0 < m.getD a 0) = true from decide_eq_true (by omega)]
                      refine J.iteT rfl ?_
                      refine J.skip ?_
                      refine J.block ?_
                      refine J.region ?_
                      refine L.va rfl (X.move (by conv => lhs; whnf)) ?_
                      refine L.va rfl (X.add rfl rfl (by omega)) ?_
                      refine L.va rfl (X.assign (by conv => lhs; whnf)) ?_
                      refine L.nil ?_
                      refine ⟨i + 1, At1 (by first | rfl | exact at_int rfl (by omega) | exact at_slice rfl (by omega) | exact at_int rfl (by simp)), (by (iterate 18 refine Agr.lk rfl ?_); exact Agr.lk rfl (Agr.hav rfl Agr.rfl')), ?_⟩
                      exact ⟨⟨⟨by omega, by omega, h3, fun k k1 k2 => by
                        rcases Nat.lt_or_ge k i with h | h
                        · exact HP.le k k1 h
                        · obtain rfl : k = i := by omega
                          exact hd, HP.ri⟩, by omega, he.trans hq⟩, by omega⟩
                    · rw [show decide (m.getD i 0 < m.getD a 0) = false from decide_eq_false (by omega)]
                      refine J.iteF rfl ?_
                      refine J.exit ?_
                      refine ⟨i, At1 (by first | rfl | exact at_int rfl (by omega) | exact at_slice rfl (by omega) | exact at_int rfl (by simp)), (by (iterate 15 refine Agr.lk rfl ?_); refine Agr.lk rfl ?_; refine Agr.hav rfl ?_; exact Agr.rfl'), ?_⟩
                      exact ⟨HP, (fun _ => hd), hbd, he.trans hq⟩
                  · skip
                    refine Qt.no rfl ?_
                    refine Qt.no rfl ?_
                    refine Qt.no rfl ?_
                    refine Qt.no rfl ?_
                    refine Qt.no rfl ?_
                    refine Qt.no rfl ?_
                    refine Qt.no rfl ?_
                    refine Qt.no rfl ?_
                    refine Qt.no rfl ?_
                    refine Qt.va rfl (fun w' hw => X.pickF rfl (by conv => lhs; whnf)) ?_
                    refine Qt.nil (fun w15 hq => ?_)
                    refine J.iteF rfl ?_
                    refine J.exit ?_
                    refine ⟨i, At1 (by first | rfl | exact at_int rfl (by omega) | exact at_slice rfl (by omega) | exact at_int rfl (by simp)), (by (iterate 15 refine Agr.lk rfl ?_); refine Agr.lk rfl ?_; refine Agr.hav rfl ?_; exact Agr.rfl'), ?_⟩
                    exact ⟨HP, (fun h => absurd h (by omega)), hbd, he.trans hq⟩
              · rintro i g w16 ⟨HP, hi, hio2, he16⟩
                replace HO := HO.ext he16
                have hG16 : w.grownBy w16 (Value.ownBlock (.slice A n c)) := grb_trans M.g (grown_ext he16)
                obtain ⟨jo, hjo⟩ : ∃ jo, jo = j := ⟨_, rfl⟩
                rw [← hjo] at hi
                refine J.cut (X := Nat) [11, 115, 116, 117, 118, 119, 120, 121, 122, 123, 124, 125, 126, 127, 128, 129, 130, 131] (fun j => [(11, .int .i64 (j : Int))]) (fun j w' => Pt (· < ·) (fun x y => y ≤ x) m a b i j ∧ (i ≤ j → ¬ m.getD a 0 ≤ m.getD j 0) ∧ j ≤ jo ∧ Ext w16 w') ?_ ?_
                · refine J.block ?_
                  refine J.loop (X := Nat) [11, 115, 116, 117, 118, 119, 120, 121, 122, 123, 124, 125, 126, 127, 128, 129, 130, 131] (fun j => [(11, .int .i64 (j : Int))]) (fun j w' => Pt (· < ·) (fun x y => y ≤ x) m a b i j ∧ j ≤ jo ∧ Ext w16 w') (fun j => j) (j) (At1 (by first | rfl | exact at_int rfl (by omega) | exact at_slice rfl (by omega) | exact at_int rfl (by simp))) ?_ ?_
                  · exact ⟨HP, by omega, Ext.refl _⟩
                  · rintro j g w17 ⟨HP, hbd, he⟩
                    have h1 := HP.ai
                    have h2 := HP.ij
                    have h3 := HP.jb
                    have hr := Reads.of_own (HO.ext he)
                    have hA := hr.some_ (by omega)
                    refine J.seq ?_
                    refine J.seq ?_
                    refine J.quiet mixed (by kernel_rfl) ?_
                    refine Qt.va rfl (fun w' hw => X.move (by conv => lhs; whnf)) ?_
                    refine Qt.va rfl (fun w' hw => X.move (by conv => lhs; whnf)) ?_
                    refine Qt.va rfl (fun w' hw => X.leq rfl rfl) ?_
                    refine Qt.va rfl (fun w' hw => X.move (by conv => lhs; whnf)) ?_
                    refine Qt.caseDec (k := 118) rfl (fun hij => ?_) (fun hij => ?_)
                    · refine Qt.va rfl (fun w' hw => X.move (by conv => lhs; whnf)) ?_
                      refine Qt.va rfl (fun w' hw => X.move (by conv => lhs; whnf)) ?_
                      refine Qt.va rfl (fun w' hw => (by first | exact X.index1n rfl rfl Try.underlying22 sz_30 (by first | exact Option.some_ne_none _ | exact hr.some_ (by omega) | exact hA) (by omega) | exact X.index1 rfl rfl Try.underlying22 sz_30 (by first | exact Option.some_ne_none _ | exact hr.some_ (by omega) | exact hA) (by omega))) ?_
                      refine Qt.va rfl (fun w' hw => X.load rfl sc_30 (by first | exact Ld.num (hr.ext hw) (by omega) | exact hA)) ?_
                      refine Qt.va rfl (fun w' hw => X.move (by conv => lhs; whnf)) ?_
                      refine Qt.va rfl (fun w' hw => X.move (by conv => lhs; whnf)) ?_
                      refine Qt.va rfl (fun w' hw => (by first | exact X.index1n rfl rfl Try.underlying22 sz_30 (by first | exact Option.some_ne_none _ | exact hr.some_ (by omega) | exact hA) (by omega) | exact X.index1 rfl rfl Try.underlying22 sz_30 (by first | exact Option.some_ne_none _ | exact hr.some_ (by omega) | exact hA) (by omega))) ?_
                      refine Qt.va rfl (fun w' hw => X.load rfl sc_30 (by first | exact Ld.num (hr.ext hw) (by omega) | exact hA)) ?_
                      refine Qt.call rfl en_44 rfl (fun w' hw => calls_same hw (clessU (m.getD j 0) (m.getD a 0) w')) ?_
                      refine Qt.va rfl (fun w' hw => X.not rfl) ?_
                      refine Qt.va rfl (fun w' hw => X.pickT rfl (by conv => lhs; whnf)) ?_
                      refine Qt.nil (fun w18 hq => ?_)
                      by_cases hd : m.getD a 0 ≤ m.getD j 0
                      · rw [show decide (m.getD j 0 < m.getD a 0) = false from decide_eq_false (by omega)]
                        refine J.iteT rfl ?_
                        refine J.skip ?_
                        refine J.block ?_
                        refine J.region ?_
                        refine L.va rfl (X.move (by conv => lhs; whnf)) ?_
                        refine L.va rfl (X.sub rfl rfl (by omega)) ?_
                        refine L.va rfl (X.assign (by conv => lhs; whnf)) ?_
                        refine L.nil ?_
                        obtain ⟨j', rfl⟩ : ∃ j', j = j' + 1 := ⟨j - 1, by omega⟩
                        refine ⟨j', At1 (by first | rfl | exact at_int rfl (by omega) | exact at_slice rfl (by omega) | exact at_int rfl (by simp)), (by (iterate 19 refine Agr.lk rfl ?_); exact Agr.lk rfl (Agr.hav rfl Agr.rfl')), ?_⟩
                        exact ⟨⟨⟨h1, by omega, by omega, HP.le, fun k k1 k2 => by
                          rcases Nat.lt_or_ge (j' + 1) k with h | h
                          · exact HP.ri k h k2
                          · obtain rfl : k = j' + 1 := by omega
                            exact hd⟩, by omega, he.trans hq⟩, by omega⟩
                      · rw [show decide (m.getD j 0 < m.getD a 0) = true from decide_eq_true (by omega)]
                        refine J.iteF rfl ?_
                        refine J.exit ?_
                        refine ⟨j, At1 (by first | rfl | exact at_int rfl (by omega) | exact at_slice rfl (by omega) | exact at_int rfl (by simp)), (by (iterate 16 refine Agr.lk rfl ?_); refine Agr.lk rfl ?_; refine Agr.hav rfl ?_; exact Agr.rfl'), ?_⟩
                        exact ⟨HP, (fun _ => hd), hbd, he.trans hq⟩
                    · skip
                      refine Qt.no rfl ?_
                      refine Qt.no rfl ?_
                      refine Qt.no rfl ?_
                      refine Qt.no rfl ?_
                      refine Qt.no rfl ?_
                      refine Qt.no rfl ?_
                      refine Qt.no rfl ?_
                      refine Qt.no rfl ?_
                      refine Qt.no rfl ?_
                      refine Qt.no rfl ?_
                      refine Qt.va rfl (fun w' hw => X.pickF rfl (by conv => lhs; whnf)) ?_
                      refine Qt.nil (fun w18 hq => ?_)
                      refine J.iteF rfl ?_
                      refine J.exit ?_
                      refine ⟨j, At1 (by first | rfl | exact at_int rfl (by omega) | exact at_slice rfl (by omega) | exact at_int rfl (by simp)), (by (iterate 16 refine Agr.lk rfl ?_); refine Agr.lk rfl ?_; refine Agr.hav rfl ?_; exact Agr.rfl'), ?_⟩
                      exact ⟨HP, (fun h => absurd h (by omega)), hbd, he.trans hq⟩
                · rintro j g w19 ⟨HP, hj, hjo2, he19⟩
                  replace HO := HO.ext he19
                  have hG19 := grb_trans hG16 (grown_ext he19)
                  have h1 := HP.ai
                  have h2 := HP.ij
                  have h3 := HP.jb
                  refine J.seq ?_
                  refine J.seq ?_
                  refine J.region ?_
                  refine L.va rfl (X.move (by conv => lhs; whnf)) ?_
                  refine L.va rfl (X.move (by conv => lhs; whnf)) ?_
                  refine L.va rfl (X.gtr rfl rfl) ?_
                  refine L.nil ?_
                  refine J.dec rfl (fun hgt => ?_) (fun hgt => ?_)
                  · have hd := HP.done (by omega) (by omega)
                    refine J.exit ?_
                    refine J.seq ?_
                    refine J.draw (ℓ := 1000000) (S := (fun _ => True)) mixed (fun w22d hSE hS_h => ?_)
                    have hS : ((fun _ => True)) w22d := trivial
                    have hrw22 := (Reads.of_own HO).ext hSE
                    have hoX := HO.ext hSE
                    have hG : w19.grownBy w22d (Value.ownBlock (.slice A n c)) := grown_ext hSE
                    refine D.va 0 rfl (by kernel_rfl) (fun _ _ _ h => h) rfl (fun w' hw => X.move (by conv => lhs; whnf)) hS ?_
                    refine D.va 1 rfl (by kernel_rfl) (fun _ _ _ h => h) rfl (fun w' hw => X.move (by conv => lhs; whnf)) hS ?_
                    refine D.va 2 rfl (by kernel_rfl) (fun _ _ _ h => h) rfl (fun w' hw => X.move (by conv => lhs; whnf)) hS ?_
                    refine D.va 3 rfl (by kernel_rfl) (fun _ _ _ h => h) rfl (fun w' hw => X.move (by conv => lhs; whnf)) hS ?_
                    refine D.va 4 rfl (by kernel_rfl) (fun _ _ _ h => h) rfl (fun w' hw => X.move (by conv => lhs; whnf)) hS ?_
                    refine D.va 5 rfl (by kernel_rfl) (fun _ _ _ h => h) rfl (fun w' hw => X.move (by conv => lhs; whnf)) hS ?_
                    refine D.va 6 rfl (by kernel_rfl) (fun _ _ _ h => h) rfl (fun w' hw => (by first | exact X.index1n rfl rfl Try.underlying22 sz_30 (by first | exact Option.some_ne_none _ | exact hA) (by omega) | exact X.index1 rfl rfl Try.underlying22 sz_30 (by first | exact Option.some_ne_none _ | exact hA) (by omega))) hS ?_
                    refine D.va 8 rfl (by kernel_rfl) (fun _ _ _ h => h) rfl (fun w' hw => X.move (by conv => lhs; whnf)) hS ?_
                    refine D.va 9 rfl (by kernel_rfl) (fun _ _ _ h => h) rfl (fun w' hw => X.move (by conv => lhs; whnf)) hS ?_
                    refine D.va 10 rfl (by kernel_rfl) (fun _ _ _ h => h) rfl (fun w' hw => (by first | exact X.index1n rfl rfl Try.underlying22 sz_30 (by first | exact Option.some_ne_none _ | exact hA) (by omega) | exact X.index1 rfl rfl Try.underlying22 sz_30 (by first | exact Option.some_ne_none _ | exact hA) (by omega))) hS ?_
                    refine D.two 7 11 (by kernel_rfl) rfl rfl ?_ ?_
                    · refine L.va rfl (X.load rfl sc_30 (Ld.num hrw22 (j := a) (by omega))) ?_
                      refine L.nil ?_
                      refine ⟨fun _ => hS, ?_⟩
                      refine D.one 11 (by kernel_rfl) rfl ?_
                      refine L.va rfl (X.load rfl sc_30 (Ld.num hrw22 (j := j) (by omega))) ?_
                      refine L.nil ?_
                      refine ⟨fun _ => hS, ?_⟩
                      refine D.va 12 rfl (by kernel_rfl) (fun _ _ _ h => h) rfl (fun w' hw => (by first | exact X.index1n rfl rfl Try.underlying22 sz_30 (by first | exact Option.some_ne_none _ | exact hA) (by omega) | exact X.index1 rfl rfl Try.underlying22 sz_30 (by first | exact Option.some_ne_none _ | exact hA) (by omega))) hS ?_
                      refine D.one 13 (by kernel_rfl) rfl ?_
                      refine L.storeON rfl rfl (by conv => lhs; whnf) sz_30 (hoX) (by omega) ?_
                      intro w22 hoX hg2 hb2 hs2
                      have hS1 := trivial
                      refine L.nil ?_
                      refine ⟨fun _ => hS1, ?_⟩
                      replace hG := grb_trans hG hg2
                      refine D.va 14 rfl (by kernel_rfl) (fun _ _ _ h => h) rfl (fun w' hw => (by first | exact X.index1n rfl rfl Try.underlying22 sz_30 (by first | exact Option.some_ne_none _ | exact hA) (by omega) | exact X.index1 rfl rfl Try.underlying22 sz_30 (by first | exact Option.some_ne_none _ | exact hA) (by omega))) hS1 ?_
                      refine D.one 15 (by kernel_rfl) rfl ?_
                      refine L.storeON rfl rfl (by conv => lhs; whnf) sz_30 (hoX) (by omega) ?_
                      intro w22 hoX hg2 hb2 hs2
                      have hS2 := trivial
                      refine L.nil ?_
                      refine ⟨fun _ => hS2, ?_⟩
                      replace hG := grb_trans hG hg2
                      refine D.done (by kernel_rfl) ?_
                      refine J.seq ?_
                      refine J.region ?_
                      refine L.va rfl (X.move (by conv => lhs; whnf)) ?_
                      refine L.va rfl (X.assign (by conv => lhs; whnf)) ?_
                      refine L.va rfl (X.assign (by conv => lhs; whnf)) ?_
                      refine L.nil ?_
                      refine J.ret ?_
                      refine fin2 ?_
                      exact ⟨swp m j a, j, false, rfl, ⟨hoX, grb_trans hG19 hG, .step M.p ⟨by omega, by omega⟩ ⟨by omega, by omega⟩ (by omega)⟩, by omega, by omega, hd.1, hd.2⟩
                    · refine L.va rfl (X.load rfl sc_30 (Ld.num hrw22 (j := j) (by omega))) ?_
                      refine L.nil ?_
                      refine ⟨fun _ => hS, ?_⟩
                      refine D.one 7 (by kernel_rfl) rfl ?_
                      refine L.va rfl (X.load rfl sc_30 (Ld.num hrw22 (j := a) (by omega))) ?_
                      refine L.nil ?_
                      refine ⟨fun _ => hS, ?_⟩
                      refine D.va 12 rfl (by kernel_rfl) (fun _ _ _ h => h) rfl (fun w' hw => (by first | exact X.index1n rfl rfl Try.underlying22 sz_30 (by first | exact Option.some_ne_none _ | exact hA) (by omega) | exact X.index1 rfl rfl Try.underlying22 sz_30 (by first | exact Option.some_ne_none _ | exact hA) (by omega))) hS ?_
                      refine D.one 13 (by kernel_rfl) rfl ?_
                      refine L.storeON rfl rfl (by conv => lhs; whnf) sz_30 (hoX) (by omega) ?_
                      intro w22 hoX hg2 hb2 hs2
                      have hS1 := trivial
                      refine L.nil ?_
                      refine ⟨fun _ => hS1, ?_⟩
                      replace hG := grb_trans hG hg2
                      refine D.va 14 rfl (by kernel_rfl) (fun _ _ _ h => h) rfl (fun w' hw => (by first | exact X.index1n rfl rfl Try.underlying22 sz_30 (by first | exact Option.some_ne_none _ | exact hA) (by omega) | exact X.index1 rfl rfl Try.underlying22 sz_30 (by first | exact Option.some_ne_none _ | exact hA) (by omega))) hS1 ?_
                      refine D.one 15 (by kernel_rfl) rfl ?_
                      refine L.storeON rfl rfl (by conv => lhs; whnf) sz_30 (hoX) (by omega) ?_
                      intro w22 hoX hg2 hb2 hs2
                      have hS2 := trivial
                      refine L.nil ?_
                      refine ⟨fun _ => hS2, ?_⟩
                      replace hG := grb_trans hG hg2
                      refine D.done (by kernel_rfl) ?_
                      refine J.seq ?_
                      refine J.region ?_
                      refine L.va rfl (X.move (by conv => lhs; whnf)) ?_
                      refine L.va rfl (X.assign (by conv => lhs; whnf)) ?_
                      refine L.va rfl (X.assign (by conv => lhs; whnf)) ?_
                      refine L.nil ?_
                      refine J.ret ?_
                      refine fin2 ?_
                      exact ⟨swp m j a, j, false, rfl, ⟨hoX, grb_trans hG19 hG, .step M.p ⟨by omega, by omega⟩ ⟨by omega, by omega⟩ (by omega)⟩, by omega, by omega, hd.1, hd.2⟩
                  · have hi' := hi (by omega)
                    have hj' := hj (by omega)
                    have hne : i ≠ j := fun e => by subst e; omega
                    obtain ⟨j, rfl⟩ : ∃ j', j = j' + 1 := ⟨j - 1, by omega⟩
                    refine J.skip ?_
                    refine J.seq ?_
                    refine J.draw (ℓ := 1000000) (S := (fun _ => True)) mixed (fun w22d hSE hS_h => ?_)
                    have hS : ((fun _ => True)) w22d := trivial
                    have hrw22 := (Reads.of_own HO).ext hSE
                    have hoX := HO.ext hSE
                    have hG : w19.grownBy w22d (Value.ownBlock (.slice A n c)) := grown_ext hSE
                    refine D.va 0 rfl (by kernel_rfl) (fun _ _ _ h => h) rfl (fun w' hw => X.move (by conv => lhs; whnf)) hS ?_
                    refine D.va 1 rfl (by kernel_rfl) (fun _ _ _ h => h) rfl (fun w' hw => X.move (by conv => lhs; whnf)) hS ?_
                    refine D.va 2 rfl (by kernel_rfl) (fun _ _ _ h => h) rfl (fun w' hw => X.move (by conv => lhs; whnf)) hS ?_
                    refine D.va 3 rfl (by kernel_rfl) (fun _ _ _ h => h) rfl (fun w' hw => X.move (by conv => lhs; whnf)) hS ?_
                    refine D.va 4 rfl (by kernel_rfl) (fun _ _ _ h => h) rfl (fun w' hw => X.move (by conv => lhs; whnf)) hS ?_
                    refine D.va 5 rfl (by kernel_rfl) (fun _ _ _ h => h) rfl (fun w' hw => X.move (by conv => lhs; whnf)) hS ?_
                    refine D.va 6 rfl (by kernel_rfl) (fun _ _ _ h => h) rfl (fun w' hw => (by first | exact X.index1n rfl rfl Try.underlying22 sz_30 (by first | exact Option.some_ne_none _ | exact hA) (by omega) | exact X.index1 rfl rfl Try.underlying22 sz_30 (by first | exact Option.some_ne_none _ | exact hA) (by omega))) hS ?_
                    refine D.va 8 rfl (by kernel_rfl) (fun _ _ _ h => h) rfl (fun w' hw => X.move (by conv => lhs; whnf)) hS ?_
                    refine D.va 9 rfl (by kernel_rfl) (fun _ _ _ h => h) rfl (fun w' hw => X.move (by conv => lhs; whnf)) hS ?_
                    refine D.va 10 rfl (by kernel_rfl) (fun _ _ _ h => h) rfl (fun w' hw => (by first | exact X.index1n rfl rfl Try.underlying22 sz_30 (by first | exact Option.some_ne_none _ | exact hA) (by omega) | exact X.index1 rfl rfl Try.underlying22 sz_30 (by first | exact Option.some_ne_none _ | exact hA) (by omega))) hS ?_
                    refine D.two 7 11 (by kernel_rfl) rfl rfl ?_ ?_
                    · refine L.va rfl (X.load rfl sc_30 (Ld.num hrw22 (j := j + 1) (by omega))) ?_
                      refine L.nil ?_
                      refine ⟨fun _ => hS, ?_⟩
                      refine D.one 11 (by kernel_rfl) rfl ?_
                      refine L.va rfl (X.load rfl sc_30 (Ld.num hrw22 (j := i) (by omega))) ?_
                      refine L.nil ?_
                      refine ⟨fun _ => hS, ?_⟩
                      refine D.va 12 rfl (by kernel_rfl) (fun _ _ _ h => h) rfl (fun w' hw => (by first | exact X.index1n rfl rfl Try.underlying22 sz_30 (by first | exact Option.some_ne_none _ | exact hA) (by omega) | exact X.index1 rfl rfl Try.underlying22 sz_30 (by first | exact Option.some_ne_none _ | exact hA) (by omega))) hS ?_
                      refine D.one 13 (by kernel_rfl) rfl ?_
                      refine L.storeON rfl rfl (by conv => lhs; whnf) sz_30 (hoX) (by omega) ?_
                      intro w22 hoX hg2 hb2 hs2
                      have hS1 := trivial
                      refine L.nil ?_
                      refine ⟨fun _ => hS1, ?_⟩
                      replace hG := grb_trans hG hg2
                      refine D.va 14 rfl (by kernel_rfl) (fun _ _ _ h => h) rfl (fun w' hw => (by first | exact X.index1n rfl rfl Try.underlying22 sz_30 (by first | exact Option.some_ne_none _ | exact hA) (by omega) | exact X.index1 rfl rfl Try.underlying22 sz_30 (by first | exact Option.some_ne_none _ | exact hA) (by omega))) hS1 ?_
                      refine D.one 15 (by kernel_rfl) rfl ?_
                      refine L.storeON rfl rfl (by conv => lhs; whnf) sz_30 (hoX) (by omega) ?_
                      intro w22 hoX hg2 hb2 hs2
                      have hS2 := trivial
                      refine L.nil ?_
                      refine ⟨fun _ => hS2, ?_⟩
                      replace hG := grb_trans hG hg2
                      refine D.done (by kernel_rfl) ?_
                      refine J.seq ?_
                      refine J.region ?_
                      refine L.va rfl (X.move (by conv => lhs; whnf)) ?_
                      refine L.va rfl (X.add rfl rfl (by omega)) ?_
                      refine L.va rfl (X.assign (by conv => lhs; whnf)) ?_
                      refine L.nil ?_
                      refine J.region ?_
                      refine L.va rfl (X.move (by conv => lhs; whnf)) ?_
                      refine L.va rfl (X.sub rfl rfl (by omega)) ?_
                      refine L.va rfl (X.assign (by conv => lhs; whnf)) ?_
                      refine L.nil ?_
                      refine ⟨(i + 1, j, swp m i (j + 1)), At2 (by first | rfl | exact at_int rfl (by omega) | exact at_slice rfl (by omega) | exact at_int rfl (by simp)) (by first | rfl | exact at_int rfl (by omega) | exact at_slice rfl (by omega) | exact at_int rfl (by simp)), (by (iterate 23 refine Agr.lk rfl ?_); refine Agr.lk rfl ?_; refine Agr.hav rfl ?_; refine Agr.lk rfl ?_; refine Agr.hav rfl ?_; exact Agr.lk rfl (Agr.hav rfl Agr.rfl')), ?_⟩
                      exact ⟨⟨⟨hoX, grb_trans hG19 hG, .step M.p ⟨by omega, by omega⟩ ⟨by omega, by omega⟩ (by omega)⟩, HP.swap (by omega) (by omega) (by omega) (by omega)⟩, by show j + 1 - (i + 1) < _ + 1 - _; omega⟩
                    · refine L.va rfl (X.load rfl sc_30 (Ld.num hrw22 (j := i) (by omega))) ?_
                      refine L.nil ?_
                      refine ⟨fun _ => hS, ?_⟩
                      refine D.one 7 (by kernel_rfl) rfl ?_
                      refine L.va rfl (X.load rfl sc_30 (Ld.num hrw22 (j := j + 1) (by omega))) ?_
                      refine L.nil ?_
                      refine ⟨fun _ => hS, ?_⟩
                      refine D.va 12 rfl (by kernel_rfl) (fun _ _ _ h => h) rfl (fun w' hw => (by first | exact X.index1n rfl rfl Try.underlying22 sz_30 (by first | exact Option.some_ne_none _ | exact hA) (by omega) | exact X.index1 rfl rfl Try.underlying22 sz_30 (by first | exact Option.some_ne_none _ | exact hA) (by omega))) hS ?_
                      refine D.one 13 (by kernel_rfl) rfl ?_
                      refine L.storeON rfl rfl (by conv => lhs; whnf) sz_30 (hoX) (by omega) ?_
                      intro w22 hoX hg2 hb2 hs2
                      have hS1 := trivial
                      refine L.nil ?_
                      refine ⟨fun _ => hS1, ?_⟩
                      replace hG := grb_trans hG hg2
                      refine D.va 14 rfl (by kernel_rfl) (fun _ _ _ h => h) rfl (fun w' hw => (by first | exact X.index1n rfl rfl Try.underlying22 sz_30 (by first | exact Option.some_ne_none _ | exact hA) (by omega) | exact X.index1 rfl rfl Try.underlying22 sz_30 (by first | exact Option.some_ne_none _ | exact hA) (by omega))) hS1 ?_
                      refine D.one 15 (by kernel_rfl) rfl ?_
                      refine L.storeON rfl rfl (by conv => lhs; whnf) sz_30 (hoX) (by omega) ?_
                      intro w22 hoX hg2 hb2 hs2
                      have hS2 := trivial
                      refine L.nil ?_
                      refine ⟨fun _ => hS2, ?_⟩
                      replace hG := grb_trans hG hg2
                      refine D.done (by kernel_rfl) ?_
                      refine J.seq ?_
                      refine J.region ?_
                      refine L.va rfl (X.move (by conv => lhs; whnf)) ?_
                      refine L.va rfl (X.add rfl rfl (by omega)) ?_
                      refine L.va rfl (X.assign (by conv => lhs; whnf)) ?_
                      refine L.nil ?_
                      refine J.region ?_
                      refine L.va rfl (X.move (by conv => lhs; whnf)) ?_
                      refine L.va rfl (X.sub rfl rfl (by omega)) ?_
                      refine L.va rfl (X.assign (by conv => lhs; whnf)) ?_
                      refine L.nil ?_
                      refine ⟨(i + 1, j, swp m i (j + 1)), At2 (by first | rfl | exact at_int rfl (by omega) | exact at_slice rfl (by omega) | exact at_int rfl (by simp)) (by first | rfl | exact at_int rfl (by omega) | exact at_slice rfl (by omega) | exact at_int rfl (by simp)), (by (iterate 23 refine Agr.lk rfl ?_); refine Agr.lk rfl ?_; refine Agr.hav rfl ?_; refine Agr.lk rfl ?_; refine Agr.hav rfl ?_; exact Agr.lk rfl (Agr.hav rfl Agr.rfl')), ?_⟩
                      exact ⟨⟨⟨hoX, grb_trans hG19 hG, .step M.p ⟨by omega, by omega⟩ ⟨by omega, by omega⟩ (by omega)⟩, HP.swap (by omega) (by omega) (by omega) (by omega)⟩, by show j + 1 - (i + 1) < _ + 1 - _; omega⟩
end Go.Proofs.Ytjegcohpmmbchaa
namespace Go.Proofs.Ytjegcohpmmbchaa
set_option maxRecDepth 100000
open Go.RowKit H
open Srt
set_option linter.unusedVariables false
theorem SwU.up {w w' w'' : World} {A : Option Addr} {n c N a b : Nat} {l m : List Int} (h : SwU w w' A n c N a b l m) (he : Ext w' w'') : SwU w w'' A n c N a b l m := ⟨h.o.ext he, grb_trans h.g (grown_ext he), h.p⟩
theorem SwU.sw {w w' w'' : World} {A : Option Addr} {n c N a b i j : Nat} {l m : List Int} (h : SwU w w' A n c N a b l m) (ho : w''.ownsRow N 30 1 (.slice A n c) n (nums .u32 (swp m i j))) (hg : w'.grownBy w'' (Value.ownBlock (.slice A n c))) (hi : a ≤ i ∧ i < b) (hj : a ≤ j ∧ j < b) (hb : b ≤ m.length) : SwU w w'' A n c N a b l (swp m i j) :=
  ⟨ho, grb_trans h.g hg, .step h.p hi hj hb⟩
theorem partinsU (A : Option Addr) (n c N a b : Nat) (l : List Int) (w : World) (ho : w.ownsRow N 30 1 (.slice A n c) n (nums .u32 l)) (hb : b ≤ n) (hn : n ≤ 900000) (hab : a + 1 ≤ b) (hLo : Lo l a b) :
    Calls Try.prog 43 #[.slice A n c, .int .i64 (a : Int), .int .i64 (b : Int)] w fun e w' => ∃ (l' : List Int) (z : Bool), e = .returned (.bool z) ∧ SwU w w' A n c N a b l l' ∧ (z = true → In l' a b) := by
  have hl : l.length = n := by have := ho.1; simpa [nums] using this
  have hA := (Reads.of_own ho).some_ (by omega)
  refine enter Try.func43 rfl (by kernel_rfl) ?_
  refine J.seq ?_
  refine J.region ?_
  refine L.va rfl (X.assign (by conv => lhs; whnf)) ?_
  refine L.nil ?_
  refine J.seq ?_
  refine J.region ?_
  refine L.va rfl (X.move (by conv => lhs; whnf)) ?_
  refine L.va rfl (X.add rfl rfl (by omega)) ?_
  refine L.va rfl (X.assign (by conv => lhs; whnf)) ?_
  refine L.nil ?_
  refine J.seq ?_
  refine J.seq ?_
  refine J.region ?_
  refine L.va rfl (X.assign (by conv => lhs; whnf)) ?_
  refine L.nil ?_
  refine J.block ?_
  refine J.loop (X := Nat × Nat × List Int) [6, 7, 8, 9, 10, 13, 14, 15, 16, 17, 18, 19, 20, 21, 22, 23, 24, 25, 26, 27, 28, 29, 30, 31, 32, 33, 34, 35, 36, 37, 38, 39, 40, 41, 42, 43, 44, 45, 46, 47, 48, 49, 50, 51, 52, 53, 54, 55, 56, 57, 58, 59, 60, 61, 62, 63, 64, 65, 66, 67, 68, 69, 70, 71, 72, 73, 74, 75, 76, 77, 78, 79, 80, 81, 82, 83, 84, 85, 86, 87, 88, 89, 90, 91, 92, 93, 94, 95, 96, 97, 98, 99, 100, 101, 102, 103, 104, 105, 106, 107, 108, 109, 110, 111, 112, 113, 114, 115, 116, 117, 118, 119, 120, 121, 122, 123, 124, 125, 126, 127, 128, 129, 130, 131, 132] (fun (i, q, m) => [(7, .int .i64 (i : Int)), (8, .int .i64 (q : Int))]) (fun (i, q, m) w' => a + 1 ≤ i ∧ i ≤ b ∧ q ≤ 5 ∧ SwU w w' A n c N a b l m ∧ In m a i) (fun (_, q, _) => 5 - q) ((a + 1, 0, l)) (At2 (by first | rfl | exact at_int rfl (by omega) | exact at_slice rfl (by omega) | exact at_int rfl (by simp)) (by first | rfl | exact at_int rfl (by omega) | exact at_slice rfl (by omega) | exact at_int rfl (by simp))) ?_ ?_
  · exact ⟨Nat.le_refl _, hab, by omega, ⟨ho, grown_ext (Ext.refl _), .refl _⟩, In.tiny (Nat.le_refl _)⟩
  · rintro ⟨i, q, m⟩ g w2 ⟨h1, h2, hq5, M, hI⟩
    have hml : m.length = n := by rw [M.p.len, hl]
    refine J.seq ?_
    refine J.seq ?_
    refine J.region ?_
    refine L.va rfl (X.move (by conv => lhs; whnf)) ?_
    refine L.va rfl (X.lss rfl rfl) ?_
    refine L.nil ?_
    refine J.dec rfl (fun hlt => ?_) (fun hlt => ?_)
    · refine J.skip ?_
      refine J.cut (X := Nat × List Int) [6, 7, 9, 10, 17, 18, 19, 20, 21, 22, 23, 24, 25, 26, 27, 28, 29, 30, 31, 32, 33, 34, 35, 36, 37, 38, 39, 40, 41, 42, 43, 44, 45, 46, 47, 48, 49, 50, 51, 52, 53, 54, 55, 56, 57, 58, 59, 60, 61, 62, 63, 64, 65, 66, 67, 68, 69, 70, 71, 72, 73, 74, 75, 76, 77, 78, 79, 80, 81, 82, 83, 84, 85, 86, 87, 88, 89, 90, 91, 92, 93, 94, 95, 96, 97, 98, 99, 100, 101, 102, 103, 104, 105, 106, 107, 108, 109, 110, 111, 112, 113, 114, 115, 116, 117, 118, 119, 120, 121, 122, 123, 124, 125, 126, 127, 128, 129, 130, 131, 132] (fun (i, m) => [(7, .int .i64 (i : Int))]) (fun (i, m) w' => a + 1 ≤ i ∧ i ≤ b ∧ SwU w w' A n c N a b l m ∧ In m a i) ?_ ?_
      · refine J.block ?_
        refine J.cut (X := Nat) [7, 17, 18, 19, 20, 21, 22, 23, 24, 25, 26, 27, 28, 29, 30, 31, 32, 33, 34] (fun i => [(7, .int .i64 (i : Int))]) (fun i w' => a + 1 ≤ i ∧ i ≤ b ∧ In m a i ∧ (i < b → m.getD i 0 < m.getD (i - 1) 0) ∧ Ext w2 w') ?_ ?_
        · refine J.block ?_
          refine J.loop (X := Nat) [7, 17, 18, 19, 20, 21, 22, 23, 24, 25, 26, 27, 28, 29, 30, 31, 32, 33, 34] (fun i => [(7, .int .i64 (i : Int))]) (fun i w' => a + 1 ≤ i ∧ i ≤ b ∧ In m a i ∧ Ext w2 w') (fun i => b - i) (i) (At1 (by first | rfl | exact at_int rfl (by omega) | exact at_slice rfl (by omega) | exact at_int rfl (by simp))) ?_ ?_
          · exact ⟨h1, h2, hI, Ext.refl _⟩
          · rintro i g w3 ⟨h1, h2, hI, he⟩
            have hr := Reads.of_own (M.o.ext he)
            refine J.seq ?_
            refine J.seq ?_
            refine J.quiet mixed (by kernel_rfl) ?_
            refine Qt.va rfl (fun w' hw => X.move (by conv => lhs; whnf)) ?_
            refine Qt.va rfl (fun w' hw => X.move (by conv => lhs; whnf)) ?_
            refine Qt.va rfl (fun w' hw => X.lss rfl rfl) ?_
            refine Qt.va rfl (fun w' hw => X.move (by conv => lhs; whnf)) ?_
            refine Qt.caseDec (k := 20) rfl (fun hib => ?_) (fun hib => ?_)
            · refine Qt.va rfl (fun w' hw => X.move (by conv => lhs; whnf)) ?_
              refine Qt.va rfl (fun w' hw => X.move (by conv => lhs; whnf)) ?_
              refine Qt.va rfl (fun w' hw => (by first | exact X.index1n rfl rfl Try.underlying22 sz_30 (by first | exact Option.some_ne_none _ | exact hr.some_ (by omega) | exact hA) (by omega) | exact X.index1 rfl rfl Try.underlying22 sz_30 (by first | exact Option.some_ne_none _ | exact hr.some_ (by omega) | exact hA) (by omega))) ?_
              refine Qt.va rfl (fun w' hw => X.load rfl sc_30 (by first | exact Ld.num (hr.ext hw) (by omega) | exact hA)) ?_
              refine Qt.va rfl (fun w' hw => X.move (by conv => lhs; whnf)) ?_
              refine Qt.va rfl (fun w' hw => X.move (by conv => lhs; whnf)) ?_
              refine Qt.va rfl (fun w' hw => X.sub rfl rfl (by omega)) ?_
              refine Qt.va rfl (fun w' hw => X.index1eU (j := i - 1) rfl rfl (by omega) Try.underlying22 sz_30 hA (by omega)) ?_
              refine Qt.va rfl (fun w' hw => X.load rfl sc_30 (by first | exact Ld.num (hr.ext hw) (by omega) | exact hA)) ?_
              refine Qt.call rfl en_44 rfl (fun w' hw => calls_same hw (clessU (m.getD i 0) (m.getD (i - 1) 0) w')) ?_
              refine Qt.va rfl (fun w' hw => X.not rfl) ?_
              refine Qt.va rfl (fun w' hw => X.pickT rfl (by conv => lhs; whnf)) ?_
              refine Qt.nil (fun w4 hq => ?_)
              by_cases hd : m.getD i 0 < m.getD (i - 1) 0
              · rw [decide_eq_true hd]
                refine J.iteF rfl ?_
                refine J.exit ?_
                refine ⟨i, At1 (by first | rfl | exact at_int rfl (by omega) | exact at_slice rfl (by omega) | exact at_int rfl (by simp)), (by (iterate 17 refine Agr.lk rfl ?_); refine Agr.lk rfl ?_; refine Agr.hav rfl ?_; exact Agr.rfl'), ?_⟩
                exact ⟨h1, h2, hI, (fun _ => hd), he.trans hq⟩
              · rw [decide_eq_false hd]
                refine J.iteT rfl ?_
                refine J.skip ?_
                refine J.block ?_
                refine J.region ?_
                refine L.va rfl (X.move (by conv => lhs; whnf)) ?_
                refine L.va rfl (X.add rfl rfl (by omega)) ?_
                refine L.va rfl (X.assign (by conv => lhs; whnf)) ?_
                refine L.nil ?_
                refine ⟨i + 1, At1 (by first | rfl | exact at_int rfl (by omega) | exact at_slice rfl (by omega) | exact at_int rfl (by simp)), (by (iterate 20 refine Agr.lk rfl ?_); exact Agr.lk rfl (Agr.hav rfl Agr.rfl')), ?_⟩
                refine ⟨⟨by omega, by omega, fun p q k1 k2 k3 => ?_, he.trans hq⟩, by omega⟩
                by_cases e : q = i
                · subst e
                  by_cases e2 : p = q - 1
                  · rw [e2]; omega
                  · exact Int.le_trans (hI p (q - 1) k1 (by omega) (by omega)) (by omega)
                · exact hI p q k1 k2 (by omega)
            · skip
              refine Qt.no rfl ?_
              refine Qt.no rfl ?_
              refine Qt.no rfl ?_
              refine Qt.no rfl ?_
              refine Qt.no rfl ?_
              refine Qt.no rfl ?_
              refine Qt.no rfl ?_
              refine Qt.no rfl ?_
              refine Qt.no rfl ?_
              refine Qt.no rfl ?_
              refine Qt.no rfl ?_
              refine Qt.va rfl (fun w' hw => X.pickF rfl (by conv => lhs; whnf)) ?_
              refine Qt.nil (fun w4 hq => ?_)
              refine J.iteF rfl ?_
              refine J.exit ?_
              refine ⟨i, At1 (by first | rfl | exact at_int rfl (by omega) | exact at_slice rfl (by omega) | exact at_int rfl (by simp)), (by (iterate 17 refine Agr.lk rfl ?_); refine Agr.lk rfl ?_; refine Agr.hav rfl ?_; exact Agr.rfl'), ?_⟩
              exact ⟨h1, h2, hI, (fun h => absurd h (by omega)), he.trans hq⟩
        · rintro i g w5 ⟨h1, h2, hI, hst, he5⟩
          replace M := M.up he5
          refine J.seq ?_
          refine J.seq ?_
          refine J.region ?_
          refine L.va rfl (X.move (by conv => lhs; whnf)) ?_
          refine L.va rfl (X.move (by conv => lhs; whnf)) ?_
          refine L.va rfl (X.eql rfl rfl) ?_
          refine L.nil ?_
          refine J.dec rfl (fun heq => ?_) (fun heq => ?_)
          · obtain rfl : i = b := by omega
            refine J.seq ?_
            refine J.region ?_
            refine L.va rfl (X.assign (by conv => lhs; whnf)) ?_
            refine L.nil ?_
            refine J.ret ?_
            refine thn_ret <|  inB_ret <|  thn_ret <|  thn_ret <|  inB_ret <|  thn_ret <| ?_
            refine fin1 ?_
            exact ⟨m, true, rfl, M, fun _ => hI⟩
          · have hst := hst (by omega)
            refine J.skip ?_
            refine J.seq ?_
            refine J.seq ?_
            refine J.region ?_
            refine L.va rfl (X.move (by conv => lhs; whnf)) ?_
            refine L.va rfl (X.move (by conv => lhs; whnf)) ?_
            refine L.va rfl (X.sub rfl rfl (by omega)) ?_
            refine L.va rfl (X.lss rfl rfl) ?_
            refine L.nil ?_
            refine J.dec rfl (fun h50 => ?_) (fun h50 => ?_)
            · refine J.seq ?_
              refine J.region ?_
              refine L.va rfl (X.assign (by conv => lhs; whnf)) ?_
              refine L.nil ?_
              refine J.ret ?_
              refine thn_ret <|  inB_ret <|  thn_ret <|  thn_ret <|  inB_ret <|  thn_ret <| ?_
              refine fin1 ?_
              exact ⟨m, false, rfl, M, fun h => by cases h⟩
            · obtain ⟨i, rfl⟩ : ∃ i', i = i' + 1 := ⟨i - 1, by omega⟩
              have HO := M.o
              refine J.skip ?_
              refine J.cut (X := List Int) [42, 43, 44, 45, 46, 47, 48, 49, 50, 51, 52, 53, 54, 55, 56, 57] (fun m => [(7, .int .i64 ((i + 1 : Nat) : Int))]) (fun m w' => SwU w w' A n c N a b l m ∧ InBut m a i i) ?_ ?_
              · skip
                refine J.draw (ℓ := 1000000) (S := (fun _ => True)) mixed (fun w6d hSE hS_h => ?_)
                have hS : ((fun _ => True)) w6d := trivial
                have hrw6 := (Reads.of_own HO).ext hSE
                have hoX := HO.ext hSE
                have hG : w5.grownBy w6d (Value.ownBlock (.slice A n c)) := grown_ext hSE
                refine D.va 0 rfl (by kernel_rfl) (fun _ _ _ h => h) rfl (fun w' hw => X.move (by conv => lhs; whnf)) hS ?_
                refine D.va 1 rfl (by kernel_rfl) (fun _ _ _ h => h) rfl (fun w' hw => X.move (by conv => lhs; whnf)) hS ?_
                refine D.va 2 rfl (by kernel_rfl) (fun _ _ _ h => h) rfl (fun w' hw => X.move (by conv => lhs; whnf)) hS ?_
                refine D.va 3 rfl (by kernel_rfl) (fun _ _ _ h => h) rfl (fun w' hw => X.move (by conv => lhs; whnf)) hS ?_
                refine D.va 4 rfl (by kernel_rfl) (fun _ _ _ h => h) rfl (fun w' hw => X.sub rfl rfl (by omega)) hS ?_
                refine D.va 5 rfl (by kernel_rfl) (fun _ _ _ h => h) rfl (fun w' hw => X.move (by conv => lhs; whnf)) hS ?_
                refine D.va 6 rfl (by kernel_rfl) (fun _ _ _ h => h) rfl (fun w' hw => X.move (by conv => lhs; whnf)) hS ?_
                refine D.va 7 rfl (by kernel_rfl) (fun _ _ _ h => h) rfl (fun w' hw => X.sub rfl rfl (by omega)) hS ?_
                refine D.va 8 rfl (by kernel_rfl) (fun _ _ _ h => h) rfl (fun w' hw => X.index1eU (j := i) rfl rfl (by omega) Try.underlying22 sz_30 hA (by omega)) hS ?_
                refine D.va 10 rfl (by kernel_rfl) (fun _ _ _ h => h) rfl (fun w' hw => X.move (by conv => lhs; whnf)) hS ?_
                refine D.va 11 rfl (by kernel_rfl) (fun _ _ _ h => h) rfl (fun w' hw => X.move (by conv => lhs; whnf)) hS ?_
                refine D.va 12 rfl (by kernel_rfl) (fun _ _ _ h => h) rfl (fun w' hw => (by first | exact X.index1n rfl rfl Try.underlying22 sz_30 (by first | exact Option.some_ne_none _ | exact hA) (by omega) | exact X.index1 rfl rfl Try.underlying22 sz_30 (by first | exact Option.some_ne_none _ | exact hA) (by omega))) hS ?_
                refine D.two 9 13 (by kernel_rfl) rfl rfl ?_ ?_
                · refine L.va rfl (X.load rfl sc_30 (Ld.num hrw6 (j := i) (by omega))) ?_
                  refine L.nil ?_
                  refine ⟨fun _ => hS, ?_⟩
                  refine D.one 13 (by kernel_rfl) rfl ?_
                  refine L.va rfl (X.load rfl sc_30 (Ld.num hrw6 (j := i + 1) (by omega))) ?_
                  refine L.nil ?_
                  refine ⟨fun _ => hS, ?_⟩
                  refine D.va 14 rfl (by kernel_rfl) (fun _ _ _ h => h) rfl (fun w' hw => (by first | exact X.index1n rfl rfl Try.underlying22 sz_30 (by first | exact Option.some_ne_none _ | exact hA) (by omega) | exact X.index1 rfl rfl Try.underlying22 sz_30 (by first | exact Option.some_ne_none _ | exact hA) (by omega))) hS ?_
                  refine D.one 15 (by kernel_rfl) rfl ?_
                  refine L.storeON rfl rfl (by conv => lhs; whnf) sz_30 (hoX) (by omega) ?_
                  intro w6 hoX hg2 hb2 hs2
                  have hS1 := trivial
                  refine L.nil ?_
                  refine ⟨fun _ => hS1, ?_⟩
                  replace hG := grb_trans hG hg2
                  refine D.va 16 rfl (by kernel_rfl) (fun _ _ _ h => h) rfl (fun w' hw => X.index1eU (j := i) rfl rfl (by omega) Try.underlying22 sz_30 hA (by omega)) hS1 ?_
                  refine D.one 17 (by kernel_rfl) rfl ?_
                  refine L.storeON rfl rfl (by conv => lhs; whnf) sz_30 (hoX) (by omega) ?_
                  intro w6 hoX hg2 hb2 hs2
                  have hS2 := trivial
                  refine L.nil ?_
                  refine ⟨fun _ => hS2, ?_⟩
                  replace hG := grb_trans hG hg2
                  refine D.done (by kernel_rfl) ?_
                  refine ⟨swp m (i + 1) i, At1 (by first | rfl | exact at_int rfl (by omega) | exact at_slice rfl (by omega) | exact at_int rfl (by simp)), (by (iterate 16 refine Agr.lk rfl ?_); exact Agr.rfl'), ?_⟩
                  exact ⟨M.sw hoX hG ⟨by omega, by omega⟩ ⟨by omega, by omega⟩ (by omega), hI.but (by omega)⟩
                · refine L.va rfl (X.load rfl sc_30 (Ld.num hrw6 (j := i + 1) (by omega))) ?_
                  refine L.nil ?_
                  refine ⟨fun _ => hS, ?_⟩
                  refine D.one 9 (by kernel_rfl) rfl ?_
                  refine L.va rfl (X.load rfl sc_30 (Ld.num hrw6 (j := i) (by omega))) ?_
                  refine L.nil ?_
                  refine ⟨fun _ => hS, ?_⟩
                  refine D.va 14 rfl (by kernel_rfl) (fun _ _ _ h => h) rfl (fun w' hw => (by first | exact X.index1n rfl rfl Try.underlying22 sz_30 (by first | exact Option.some_ne_none _ | exact hA) (by omega) | exact X.index1 rfl rfl Try.underlying22 sz_30 (by first | exact Option.some_ne_none _ | exact hA) (by omega))) hS ?_
                  refine D.one 15 (by kernel_rfl) rfl ?_
                  refine L.storeON rfl rfl (by conv => lhs; whnf) sz_30 (hoX) (by omega) ?_
                  intro w6 hoX hg2 hb2 hs2
                  have hS1 := trivial
                  refine L.nil ?_
                  refine ⟨fun _ => hS1, ?_⟩
                  replace hG := grb_trans hG hg2
                  refine D.va 16 rfl (by kernel_rfl) (fun _ _ _ h => h) rfl (fun w' hw => X.index1eU (j := i) rfl rfl (by omega) Try.underlying22 sz_30 hA (by omega)) hS1 ?_
                  refine D.one 17 (by kernel_rfl) rfl ?_
                  refine L.storeON rfl rfl (by conv => lhs; whnf) sz_30 (hoX) (by omega) ?_
                  intro w6 hoX hg2 hb2 hs2
                  have hS2 := trivial
                  refine L.nil ?_
                  refine ⟨fun _ => hS2, ?_⟩
                  replace hG := grb_trans hG hg2
                  refine D.done (by kernel_rfl) ?_
                  refine ⟨swp m (i + 1) i, At1 (by first | rfl | exact at_int rfl (by omega) | exact at_slice rfl (by omega) | exact at_int rfl (by simp)), (by (iterate 16 refine Agr.lk rfl ?_); exact Agr.rfl'), ?_⟩
                  exact ⟨M.sw hoX hG ⟨by omega, by omega⟩ ⟨by omega, by omega⟩ (by omega), hI.but (by omega)⟩
              · rintro m g w7 ⟨M, hB⟩
                have hml : m.length = n := by rw [M.p.len, hl]
                refine J.cut (X := List Int) [9, 58, 59, 60, 61, 62, 63, 64, 65, 66, 67, 68, 69, 70, 71, 72, 73, 74, 75, 76, 77, 78, 79, 80, 81, 82, 83, 84, 85, 86, 87, 88, 89, 90, 91, 92, 93, 94] (fun m => [(7, .int .i64 ((i + 1 : Nat) : Int))]) (fun m w' => SwU w w' A n c N a b l m ∧ In m a (i + 1)) ?_ ?_
                · refine J.seq ?_
                  refine J.region ?_
                  refine L.va rfl (X.move (by conv => lhs; whnf)) ?_
                  refine L.va rfl (X.move (by conv => lhs; whnf)) ?_
                  refine L.va rfl (X.sub rfl rfl (by omega)) ?_
                  refine L.va rfl (X.geq rfl rfl) ?_
                  refine L.nil ?_
                  refine J.dec rfl (fun hi2 => ?_) (fun hi2 => ?_)
                  · refine J.seq ?_
                    refine J.region ?_
                    refine L.va rfl (X.move (by conv => lhs; whnf)) ?_
                    refine L.va rfl (X.sub rfl rfl (by omega)) ?_
                    refine L.va rfl (X.assign (by conv => lhs; whnf)) ?_
                    refine L.nil ?_
                    refine J.block ?_
                    rw [show ((i + 1 : Nat) : Int) - 1 = (i : Int) by omega]
                    refine J.loop (X := Nat × List Int) [9, 64, 65, 66, 67, 68, 69, 70, 71, 72, 73, 74, 75, 76, 77, 78, 79, 80, 81, 82, 83, 84, 85, 86, 87, 88, 89, 90, 91, 92, 93, 94] (fun (j, m) => [(9, .int .i64 (j : Int))]) (fun (j, m) w' => a ≤ j ∧ j ≤ i ∧ SwU w w' A n c N a b l m ∧ InBut m a i j) (fun (j, _) => j) ((i, m)) (At1 (by first | rfl | exact at_int rfl (by omega) | exact at_slice rfl (by omega) | exact at_int rfl (by simp))) ?_ ?_
                    · exact ⟨by omega, Nat.le_refl _, M, hB⟩
                    · rintro ⟨j, m⟩ g w8 ⟨j1, j2, M, hB⟩
                      have hml : m.length = n := by rw [M.p.len, hl]
                      have hr := Reads.of_own M.o
                      have hlo := hLo.keep M.p
                      refine J.seq ?_
                      refine J.seq ?_
                      refine J.region ?_
                      refine L.va rfl (X.move (by conv => lhs; whnf)) ?_
                      refine L.va rfl (X.geq rfl rfl) ?_
                      refine L.nil ?_
                      refine J.dec rfl (fun hj1 => ?_) (fun hj1 => ?_)
                      · skip
                        refine J.skip ?_
                        refine J.seq ?_
                        refine J.block ?_
                        refine J.seq ?_
                        refine J.seq ?_
                        refine J.quiet mixed (by kernel_rfl) ?_
                        refine Qt.va rfl (fun w' hw => X.move (by conv => lhs; whnf)) ?_
                        refine Qt.va rfl (fun w' hw => X.move (by conv => lhs; whnf)) ?_
                        refine Qt.va rfl (fun w' hw => (by first | exact X.index1n rfl rfl Try.underlying22 sz_30 (by first | exact Option.some_ne_none _ | exact hr.some_ (by omega) | exact hA) (by omega) | exact X.index1 rfl rfl Try.underlying22 sz_30 (by first | exact Option.some_ne_none _ | exact hr.some_ (by omega) | exact hA) (by omega))) ?_
                        refine Qt.va rfl (fun w' hw => X.load rfl sc_30 (by first | exact Ld.num (hr.ext hw) (by omega) | exact hA)) ?_
                        refine Qt.va rfl (fun w' hw => X.move (by conv => lhs; whnf)) ?_
                        refine Qt.va rfl (fun w' hw => X.move (by conv => lhs; whnf)) ?_
                        refine Qt.va rfl (fun w' hw => X.sub rfl rfl (by omega)) ?_
                        refine Qt.va rfl (fun w' hw => X.index1eU (j := j - 1) rfl rfl (by omega) Try.underlying22 sz_30 hA (by omega)) ?_
                        refine Qt.va rfl (fun w' hw => X.load rfl sc_30 (by first | exact Ld.num (hr.ext hw) (by omega) | exact hA)) ?_
                        refine Qt.call rfl en_44 rfl (fun w' hw => calls_same hw (clessU (m.getD j 0) (m.getD (j - 1) 0) w')) ?_
                        refine Qt.va rfl (fun w' hw => X.not rfl) ?_
                        refine Qt.nil (fun w9 hq => ?_)
                        have M9 := M.up hq
                        have HO := M9.o
                        by_cases hd : m.getD j 0 < m.getD (j - 1) 0
                        · rw [decide_eq_true hd]
                          have hja : a < j := by
                            rcases Nat.lt_or_ge a j with h | h
                            · exact h
                            · obtain rfl : j = a := by omega
                              have := hlo (by omega) j (Nat.le_refl _) (by omega)
                              omega
                          obtain ⟨j, rfl⟩ : ∃ j', j = j' + 1 := ⟨j - 1, by omega⟩
                          rw [Nat.add_sub_cancel] at hd
                          refine J.iteF rfl ?_
                          refine J.skip ?_
                          refine J.draw (ℓ := 1000000) (S := (fun _ => True)) mixed (fun w10d hSE hS_h => ?_)
                          have hS : ((fun _ => True)) w10d := trivial
                          have hrw10 := (Reads.of_own HO).ext hSE
                          have hoX := HO.ext hSE
                          have hG : w9.grownBy w10d (Value.ownBlock (.slice A n c)) := grown_ext hSE
                          refine D.va 0 rfl (by kernel_rfl) (fun _ _ _ h => h) rfl (fun w' hw => X.move (by conv => lhs; whnf)) hS ?_
                          refine D.va 1 rfl (by kernel_rfl) (fun _ _ _ h => h) rfl (fun w' hw => X.move (by conv => lhs; whnf)) hS ?_
                          refine D.va 2 rfl (by kernel_rfl) (fun _ _ _ h => h) rfl (fun w' hw => X.move (by conv => lhs; whnf)) hS ?_
                          refine D.va 3 rfl (by kernel_rfl) (fun _ _ _ h => h) rfl (fun w' hw => X.move (by conv => lhs; whnf)) hS ?_
                          refine D.va 4 rfl (by kernel_rfl) (fun _ _ _ h => h) rfl (fun w' hw => X.sub rfl rfl (by omega)) hS ?_
                          refine D.va 5 rfl (by kernel_rfl) (fun _ _ _ h => h) rfl (fun w' hw => X.move (by conv => lhs; whnf)) hS ?_
                          refine D.va 6 rfl (by kernel_rfl) (fun _ _ _ h => h) rfl (fun w' hw => X.move (by conv => lhs; whnf)) hS ?_
                          refine D.va 7 rfl (by kernel_rfl) (fun _ _ _ h => h) rfl (fun w' hw => X.sub rfl rfl (by omega)) hS ?_
                          refine D.va 8 rfl (by kernel_rfl) (fun _ _ _ h => h) rfl (fun w' hw => X.index1eU (j := j) rfl rfl (by omega) Try.underlying22 sz_30 hA (by omega)) hS ?_
                          refine D.va 10 rfl (by kernel_rfl) (fun _ _ _ h => h) rfl (fun w' hw => X.move (by conv => lhs; whnf)) hS ?_
                          refine D.va 11 rfl (by kernel_rfl) (fun _ _ _ h => h) rfl (fun w' hw => X.move (by conv => lhs; whnf)) hS ?_
                          refine D.va 12 rfl (by kernel_rfl) (fun _ _ _ h => h) rfl (fun w' hw => (by first | exact X.index1n rfl rfl Try.underlying22 sz_30 (by first | exact Option.some_ne_none _ | exact hA) (by omega) | exact X.index1 rfl rfl Try.underlying22 sz_30 (by first | exact Option.some_ne_none _ | exact hA) (by omega))) hS ?_
                          refine D.two 9 13 (by kernel_rfl) rfl rfl ?_ ?_
                          · refine L.va rfl (X.load rfl sc_30 (Ld.num hrw10 (j := j) (by omega))) ?_
                            refine L.nil ?_
                            refine ⟨fun _ => hS, ?_⟩
                            refine D.one 13 (by kernel_rfl) rfl ?_
                            refine L.va rfl (X.load rfl sc_30 (Ld.num hrw10 (j := j + 1) (by omega))) ?_
                            refine L.nil ?_
                            refine ⟨fun _ => hS, ?_⟩
                            refine D.va 14 rfl (by kernel_rfl) (fun _ _ _ h => h) rfl (fun w' hw => (by first | exact X.index1n rfl rfl Try.underlying22 sz_30 (by first | exact Option.some_ne_none _ | exact hA) (by omega) | exact X.index1 rfl rfl Try.underlying22 sz_30 (by first | exact Option.some_ne_none _ | exact hA) (by omega))) hS ?_
                            refine D.one 15 (by kernel_rfl) rfl ?_
                            refine L.storeON rfl rfl (by conv => lhs; whnf) sz_30 (hoX) (by omega) ?_
                            intro w10 hoX hg2 hb2 hs2
                            have hS1 := trivial
                            refine L.nil ?_
                            refine ⟨fun _ => hS1, ?_⟩
                            replace hG := grb_trans hG hg2
                            refine D.va 16 rfl (by kernel_rfl) (fun _ _ _ h => h) rfl (fun w' hw => X.index1eU (j := j) rfl rfl (by omega) Try.underlying22 sz_30 hA (by omega)) hS1 ?_
                            refine D.one 17 (by kernel_rfl) rfl ?_
                            refine L.storeON rfl rfl (by conv => lhs; whnf) sz_30 (hoX) (by omega) ?_
                            intro w10 hoX hg2 hb2 hs2
                            have hS2 := trivial
                            refine L.nil ?_
                            refine ⟨fun _ => hS2, ?_⟩
                            replace hG := grb_trans hG hg2
                            refine D.done (by kernel_rfl) ?_
                            refine J.region ?_
                            refine L.va rfl (X.move (by conv => lhs; whnf)) ?_
                            refine L.va rfl (X.sub rfl rfl (by omega)) ?_
                            refine L.va rfl (X.assign (by conv => lhs; whnf)) ?_
                            refine L.nil ?_
                            refine ⟨(j, swp m (j + 1) j), At1 (by first | rfl | exact at_int rfl (by omega) | exact at_slice rfl (by omega) | exact at_int rfl (by simp)), (by (iterate 32 refine Agr.lk rfl ?_); exact Agr.lk rfl (Agr.hav rfl Agr.rfl')), ?_⟩
                            exact ⟨⟨by omega, by omega, M9.sw hoX hG ⟨by omega, by omega⟩ ⟨by omega, by omega⟩ (by omega), hB.step (by omega) j2 (by omega) hd⟩, by show j < j + 1; omega⟩
                          · refine L.va rfl (X.load rfl sc_30 (Ld.num hrw10 (j := j + 1) (by omega))) ?_
                            refine L.nil ?_
                            refine ⟨fun _ => hS, ?_⟩
                            refine D.one 9 (by kernel_rfl) rfl ?_
                            refine L.va rfl (X.load rfl sc_30 (Ld.num hrw10 (j := j) (by omega))) ?_
                            refine L.nil ?_
                            refine ⟨fun _ => hS, ?_⟩
                            refine D.va 14 rfl (by kernel_rfl) (fun _ _ _ h => h) rfl (fun w' hw => (by first | exact X.index1n rfl rfl Try.underlying22 sz_30 (by first | exact Option.some_ne_none _ | exact hA) (by omega) | exact X.index1 rfl rfl Try.underlying22 sz_30 (by first | exact Option.some_ne_none _ | exact hA) (by omega))) hS ?_
                            refine D.one 15 (by kernel_rfl) rfl ?_
                            refine L.storeON rfl rfl (by conv => lhs; whnf) sz_30 (hoX) (by omega) ?_
                            intro w10 hoX hg2 hb2 hs2
                            have hS1 := trivial
                            refine L.nil ?_
                            refine ⟨fun _ => hS1, ?_⟩
                            replace hG := grb_trans hG hg2
                            refine D.va 16 rfl (by kernel_rfl) (fun _ _ _ h => h) rfl (fun w' hw => X.index1eU (j := j) rfl rfl (by omega) Try.underlying22 sz_30 hA (by omega)) hS1 ?_
                            refine D.one 17 (by kernel_rfl) rfl ?_
                            refine L.storeON rfl rfl (by conv => lhs; whnf) sz_30 (hoX) (by omega) ?_
                            intro w10 hoX hg2 hb2 hs2
                            have hS2 := trivial
                            refine L.nil ?_
                            refine ⟨fun _ => hS2, ?_⟩
                            replace hG := grb_trans hG hg2
                            refine D.done (by kernel_rfl) ?_
                            refine J.region ?_
                            refine L.va rfl (X.move (by conv => lhs; whnf)) ?_
                            refine L.va rfl (X.sub rfl rfl (by omega)) ?_
                            refine L.va rfl (X.assign (by conv => lhs; whnf)) ?_
                            refine L.nil ?_
                            refine ⟨(j, swp m (j + 1) j), At1 (by first | rfl | exact at_int rfl (by omega) | exact at_slice rfl (by omega) | exact at_int rfl (by simp)), (by (iterate 32 refine Agr.lk rfl ?_); exact Agr.lk rfl (Agr.hav rfl Agr.rfl')), ?_⟩
                            exact ⟨⟨by omega, by omega, M9.sw hoX hG ⟨by omega, by omega⟩ ⟨by omega, by omega⟩ (by omega), hB.step (by omega) j2 (by omega) hd⟩, by show j < j + 1; omega⟩
                        · rw [decide_eq_false hd]
                          refine J.iteT rfl ?_
                          refine J.exit ?_
                          refine ⟨m, At1 (by first | rfl | exact at_int rfl (by omega) | exact at_slice rfl (by omega) | exact at_int rfl (by simp)), (by (iterate 13 refine Agr.lk rfl ?_); refine Agr.lk rfl ?_; refine Agr.hav rfl ?_; (iterate 7 refine Agr.lk rfl ?_); exact Agr.rfl'), ?_⟩
                          exact ⟨M9, hB.stop j2 (.inr (by omega))⟩
                      · refine J.exit ?_
                        refine ⟨m, At1 (by first | rfl | exact at_int rfl (by omega) | exact at_slice rfl (by omega) | exact at_int rfl (by simp)), (by (iterate 2 refine Agr.lk rfl ?_); refine Agr.lk rfl ?_; refine Agr.hav rfl ?_; (iterate 7 refine Agr.lk rfl ?_); exact Agr.rfl'), ?_⟩
                        exact ⟨M, hB.stop j2 (.inl (by omega))⟩
                  · refine J.skip ?_
                    refine ⟨m, At1 (by first | rfl | exact at_int rfl (by omega) | exact at_slice rfl (by omega) | exact at_int rfl (by simp)), (by (iterate 4 refine Agr.lk rfl ?_); exact Agr.rfl'), ?_⟩
                    exact ⟨M, In.tiny (by omega)⟩
                · rintro m g w11 ⟨M, hI⟩
                  have hml : m.length = n := by rw [M.p.len, hl]
                  refine J.seq ?_
                  refine J.region ?_
                  refine L.va rfl (X.move (by conv => lhs; whnf)) ?_
                  refine L.va rfl (X.move (by conv => lhs; whnf)) ?_
                  refine L.va rfl (X.sub rfl rfl (by omega)) ?_
                  refine L.va rfl (X.geq rfl rfl) ?_
                  refine L.nil ?_
                  refine J.dec rfl (fun hb2 => ?_) (fun hb2 => ?_)
                  · refine J.seq ?_
                    refine J.region ?_
                    refine L.va rfl (X.move (by conv => lhs; whnf)) ?_
                    refine L.va rfl (X.add rfl rfl (by omega)) ?_
                    refine L.va rfl (X.assign (by conv => lhs; whnf)) ?_
                    refine L.nil ?_
                    refine J.block ?_
                    refine J.loop (X := Nat × List Int) [10, 101, 102, 103, 104, 105, 106, 107, 108, 109, 110, 111, 112, 113, 114, 115, 116, 117, 118, 119, 120, 121, 122, 123, 124, 125, 126, 127, 128, 129, 130, 131, 132] (fun (j, m) => [(10, .int .i64 (j : Int))]) (fun (j, m) w' => i + 2 ≤ j ∧ j ≤ b ∧ SwU w w' A n c N a b l m ∧ In m a (i + 1)) (fun (j, _) => b - j) ((i + 2, m)) (At1 (by first | rfl | exact at_int rfl (by omega) | exact at_slice rfl (by omega) | exact at_int rfl (by simp))) ?_ ?_
                    · exact ⟨Nat.le_refl _, by omega, M, hI⟩
                    · rintro ⟨j, m⟩ g w12 ⟨j1, j2, M, hI⟩
                      have hml : m.length = n := by rw [M.p.len, hl]
                      have hr := Reads.of_own M.o
                      refine J.seq ?_
                      refine J.seq ?_
                      refine J.region ?_
                      refine L.va rfl (X.move (by conv => lhs; whnf)) ?_
                      refine L.va rfl (X.move (by conv => lhs; whnf)) ?_
                      refine L.va rfl (X.lss rfl rfl) ?_
                      refine L.nil ?_
                      refine J.dec rfl (fun hjb => ?_) (fun hjb => ?_)
                      · skip
                        refine J.skip ?_
                        refine J.seq ?_
                        refine J.block ?_
                        refine J.seq ?_
                        refine J.seq ?_
                        refine J.quiet mixed (by kernel_rfl) ?_
                        refine Qt.va rfl (fun w' hw => X.move (by conv => lhs; whnf)) ?_
                        refine Qt.va rfl (fun w' hw => X.move (by conv => lhs; whnf)) ?_
                        refine Qt.va rfl (fun w' hw => (by first | exact X.index1n rfl rfl Try.underlying22 sz_30 (by first | exact Option.some_ne_none _ | exact hr.some_ (by omega) | exact hA) (by omega) | exact X.index1 rfl rfl Try.underlying22 sz_30 (by first | exact Option.some_ne_none _ | exact hr.some_ (by omega) | exact hA) (by omega))) ?_
                        refine Qt.va rfl (fun w' hw => X.load rfl sc_30 (by first | exact Ld.num (hr.ext hw) (by omega) | exact hA)) ?_
                        refine Qt.va rfl (fun w' hw => X.move (by conv => lhs; whnf)) ?_
                        refine Qt.va rfl (fun w' hw => X.move (by conv => lhs; whnf)) ?_
                        refine Qt.va rfl (fun w' hw => X.sub rfl rfl (by omega)) ?_
                        refine Qt.va rfl (fun w' hw => X.index1eU (j := j - 1) rfl rfl (by omega) Try.underlying22 sz_30 hA (by omega)) ?_
                        refine Qt.va rfl (fun w' hw => X.load rfl sc_30 (by first | exact Ld.num (hr.ext hw) (by omega) | exact hA)) ?_
                        refine Qt.call rfl en_44 rfl (fun w' hw => calls_same hw (clessU (m.getD j 0) (m.getD (j - 1) 0) w')) ?_
                        refine Qt.va rfl (fun w' hw => X.not rfl) ?_
                        refine Qt.nil (fun w13 hq => ?_)
                        have M13 := M.up hq
                        have HO := M13.o
                        by_cases hd : m.getD j 0 < m.getD (j - 1) 0
                        · rw [decide_eq_true hd]
                          obtain ⟨j, rfl⟩ : ∃ j', j = j' + 1 := ⟨j - 1, by omega⟩
                          refine J.iteF rfl ?_
                          refine J.skip ?_
                          refine J.draw (ℓ := 1000000) (S := (fun _ => True)) mixed (fun w14d hSE hS_h => ?_)
                          have hS : ((fun _ => True)) w14d := trivial
                          have hrw14 := (Reads.of_own HO).ext hSE
                          have hoX := HO.ext hSE
                          have hG : w13.grownBy w14d (Value.ownBlock (.slice A n c)) := grown_ext hSE
                          refine D.va 0 rfl (by kernel_rfl) (fun _ _ _ h => h) rfl (fun w' hw => X.move (by conv => lhs; whnf)) hS ?_
                          refine D.va 1 rfl (by kernel_rfl) (fun _ _ _ h => h) rfl (fun w' hw => X.move (by conv => lhs; whnf)) hS ?_
                          refine D.va 2 rfl (by kernel_rfl) (fun _ _ _ h => h) rfl (fun w' hw => X.move (by conv => lhs; whnf)) hS ?_
                          refine D.va 3 rfl (by kernel_rfl) (fun _ _ _ h => h) rfl (fun w' hw => X.move (by conv => lhs; whnf)) hS ?_
                          refine D.va 4 rfl (by kernel_rfl) (fun _ _ _ h => h) rfl (fun w' hw => X.sub rfl rfl (by omega)) hS ?_
                          refine D.va 5 rfl (by kernel_rfl) (fun _ _ _ h => h) rfl (fun w' hw => X.move (by conv => lhs; whnf)) hS ?_
                          refine D.va 6 rfl (by kernel_rfl) (fun _ _ _ h => h) rfl (fun w' hw => X.move (by conv => lhs; whnf)) hS ?_
                          refine D.va 7 rfl (by kernel_rfl) (fun _ _ _ h => h) rfl (fun w' hw => X.sub rfl rfl (by omega)) hS ?_
                          refine D.va 8 rfl (by kernel_rfl) (fun _ _ _ h => h) rfl (fun w' hw => X.index1eU (j := j) rfl rfl (by omega) Try.underlying22 sz_30 hA (by omega)) hS ?_
                          refine D.va 10 rfl (by kernel_rfl) (fun _ _ _ h => h) rfl (fun w' hw => X.move (by conv => lhs; whnf)) hS ?_
                          refine D.va 11 rfl (by kernel_rfl) (fun _ _ _ h => h) rfl (fun w' hw => X.move (by conv => lhs; whnf)) hS ?_
                          refine D.va 12 rfl (by kernel_rfl) (fun _ _ _ h => h) rfl (fun w' hw => (by first | exact X.index1n rfl rfl Try.underlying22 sz_30 (by first | exact Option.some_ne_none _ | exact hA) (by omega) | exact X.index1 rfl rfl Try.underlying22 sz_30 (by first | exact Option.some_ne_none _ | exact hA) (by omega))) hS ?_
                          refine D.two 9 13 (by kernel_rfl) rfl rfl ?_ ?_
                          · refine L.va rfl (X.load rfl sc_30 (Ld.num hrw14 (j := j) (by omega))) ?_
                            refine L.nil ?_
                            refine ⟨fun _ => hS, ?_⟩
                            refine D.one 13 (by kernel_rfl) rfl ?_
                            refine L.va rfl (X.load rfl sc_30 (Ld.num hrw14 (j := j + 1) (by omega))) ?_
                            refine L.nil ?_
                            refine ⟨fun _ => hS, ?_⟩
                            refine D.va 14 rfl (by kernel_rfl) (fun _ _ _ h => h) rfl (fun w' hw => (by first | exact X.index1n rfl rfl Try.underlying22 sz_30 (by first | exact Option.some_ne_none _ | exact hA) (by omega) | exact X.index1 rfl rfl Try.underlying22 sz_30 (by first | exact Option.some_ne_none _ | exact hA) (by omega))) hS ?_
                            refine D.one 15 (by kernel_rfl) rfl ?_
                            refine L.storeON rfl rfl (by conv => lhs; whnf) sz_30 (hoX) (by omega) ?_
                            intro w14 hoX hg2 hb2 hs2
                            have hS1 := trivial
                            refine L.nil ?_
                            refine ⟨fun _ => hS1, ?_⟩
                            replace hG := grb_trans hG hg2
                            refine D.va 16 rfl (by kernel_rfl) (fun _ _ _ h => h) rfl (fun w' hw => X.index1eU (j := j) rfl rfl (by omega) Try.underlying22 sz_30 hA (by omega)) hS1 ?_
                            refine D.one 17 (by kernel_rfl) rfl ?_
                            refine L.storeON rfl rfl (by conv => lhs; whnf) sz_30 (hoX) (by omega) ?_
                            intro w14 hoX hg2 hb2 hs2
                            have hS2 := trivial
                            refine L.nil ?_
                            refine ⟨fun _ => hS2, ?_⟩
                            replace hG := grb_trans hG hg2
                            refine D.done (by kernel_rfl) ?_
                            refine J.region ?_
                            refine L.va rfl (X.move (by conv => lhs; whnf)) ?_
                            refine L.va rfl (X.add rfl rfl (by omega)) ?_
                            refine L.va rfl (X.assign (by conv => lhs; whnf)) ?_
                            refine L.nil ?_
                            refine ⟨(j + 2, swp m (j + 1) j), At1 (by first | rfl | exact at_int rfl (by omega) | exact at_slice rfl (by omega) | exact at_int rfl (by simp)), (by (iterate 33 refine Agr.lk rfl ?_); exact Agr.lk rfl (Agr.hav rfl Agr.rfl')), ?_⟩
                            exact ⟨⟨by omega, by omega, M13.sw hoX hG ⟨by omega, by omega⟩ ⟨by omega, by omega⟩ (by omega), hI.same fun k hk => by rw [swp_at m (by omega) (by omega), if_neg (by omega), if_neg (by omega)]⟩, by show b - (j + 2) < b - (j + 1); omega⟩
                          · refine L.va rfl (X.load rfl sc_30 (Ld.num hrw14 (j := j + 1) (by omega))) ?_
                            refine L.nil ?_
                            refine ⟨fun _ => hS, ?_⟩
                            refine D.one 9 (by kernel_rfl) rfl ?_
                            refine L.va rfl (X.load rfl sc_30 (Ld.num hrw14 (j := j) (by omega))) ?_
                            refine L.nil ?_
                            refine ⟨fun _ => hS, ?_⟩
                            refine D.va 14 rfl (by kernel_rfl) (fun _ _ _ h => h) rfl (fun w' hw => (by first | exact X.index1n rfl rfl Try.underlying22 sz_30 (by first | exact Option.some_ne_none _ | exact hA) (by omega) | exact X.index1 rfl rfl Try.underlying22 sz_30 (by first | exact Option.some_ne_none _ | exact hA) (by omega))) hS ?_
                            refine D.one 15 (by kernel_rfl) rfl ?_
                            refine L.storeON rfl rfl (by conv => lhs; whnf) sz_30 (hoX) (by omega) ?_
                            intro w14 hoX hg2 hb2 hs2
                            have hS1 := trivial
                            refine L.nil ?_
                            refine ⟨fun _ => hS1, ?_⟩
                            replace hG := grb_trans hG hg2
                            refine D.va 16 rfl (by kernel_rfl) (fun _ _ _ h => h) rfl (fun w' hw => X.index1eU (j := j) rfl rfl (by omega) Try.underlying22 sz_30 hA (by omega)) hS1 ?_
                            refine D.one 17 (by kernel_rfl) rfl ?_
                            refine L.storeON rfl rfl (by conv => lhs; whnf) sz_30 (hoX) (by omega) ?_
                            intro w14 hoX hg2 hb2 hs2
                            have hS2 := trivial
                            refine L.nil ?_
                            refine ⟨fun _ => hS2, ?_⟩
                            replace hG := grb_trans hG hg2
                            refine D.done (by kernel_rfl) ?_
                            refine J.region ?_
                            refine L.va rfl (X.move (by conv => lhs; whnf)) ?_
                            refine L.va rfl (X.add rfl rfl (by omega)) ?_
                            refine L.va rfl (X.assign (by conv => lhs; whnf)) ?_
                            refine L.nil ?_
                            refine ⟨(j + 2, swp m (j + 1) j), At1 (by first | rfl | exact at_int rfl (by omega) | exact at_slice rfl (by omega) | exact at_int rfl (by simp)), (by (iterate 33 refine Agr.lk rfl ?_); exact Agr.lk rfl (Agr.hav rfl Agr.rfl')), ?_⟩
                            exact ⟨⟨by omega, by omega, M13.sw hoX hG ⟨by omega, by omega⟩ ⟨by omega, by omega⟩ (by omega), hI.same fun k hk => by rw [swp_at m (by omega) (by omega), if_neg (by omega), if_neg (by omega)]⟩, by show b - (j + 2) < b - (j + 1); omega⟩
                        · rw [decide_eq_false hd]
                          refine J.iteT rfl ?_
                          refine J.exit ?_
                          refine ⟨(i + 1, m), At1 (by first | rfl | exact at_int rfl (by omega) | exact at_slice rfl (by omega) | exact at_int rfl (by simp)), (by (iterate 14 refine Agr.lk rfl ?_); refine Agr.lk rfl ?_; refine Agr.hav rfl ?_; (iterate 7 refine Agr.lk rfl ?_); refine Agr.lk rfl ?_; refine Agr.hav rfl ?_; refine Agr.lk rfl ?_; refine Agr.hav rfl ?_; (iterate 7 refine Agr.lk rfl ?_); refine Agr.lk rfl ?_; refine Agr.hav rfl ?_; exact Agr.rfl'), ?_⟩
                          exact ⟨by omega, by omega, M13, hI⟩
                      · refine J.exit ?_
                        refine ⟨(i + 1, m), At1 (by first | rfl | exact at_int rfl (by omega) | exact at_slice rfl (by omega) | exact at_int rfl (by simp)), (by (iterate 3 refine Agr.lk rfl ?_); refine Agr.lk rfl ?_; refine Agr.hav rfl ?_; (iterate 7 refine Agr.lk rfl ?_); refine Agr.lk rfl ?_; refine Agr.hav rfl ?_; refine Agr.lk rfl ?_; refine Agr.hav rfl ?_; (iterate 7 refine Agr.lk rfl ?_); refine Agr.lk rfl ?_; refine Agr.hav rfl ?_; exact Agr.rfl'), ?_⟩
                        exact ⟨by omega, by omega, M, hI⟩
                  · refine J.skip ?_
                    refine ⟨(i + 1, m), At1 (by first | rfl | exact at_int rfl (by omega) | exact at_slice rfl (by omega) | exact at_int rfl (by simp)), (by (iterate 4 refine Agr.lk rfl ?_); refine Agr.lk rfl ?_; refine Agr.hav rfl ?_; refine Agr.lk rfl ?_; refine Agr.hav rfl ?_; (iterate 7 refine Agr.lk rfl ?_); refine Agr.lk rfl ?_; refine Agr.hav rfl ?_; exact Agr.rfl'), ?_⟩
                    exact ⟨by omega, by omega, M, hI⟩
      · rintro ⟨i, m⟩ g w15 ⟨i1, i2, M, hI⟩
        refine J.region ?_
        refine L.va rfl (X.move (by conv => lhs; whnf)) ?_
        refine L.va rfl (X.add rfl rfl (by omega)) ?_
        refine L.va rfl (X.assign (by conv => lhs; whnf)) ?_
        refine L.nil ?_
        refine ⟨(i, q + 1, m), At2 (by first | rfl | exact at_int rfl (by omega) | exact at_slice rfl (by omega) | exact at_int rfl (by simp)) (by first | rfl | exact at_int rfl (by omega) | exact at_slice rfl (by omega) | exact at_int rfl (by simp)), (by (iterate 3 refine Agr.lk rfl ?_); refine Agr.lk rfl ?_; refine Agr.hav rfl ?_; (iterate 2 refine Agr.lk rfl ?_); exact Agr.lk rfl (Agr.hav rfl Agr.rfl')), ?_⟩
        exact ⟨⟨i1, i2, by omega, M, hI⟩, by show 5 - (q + 1) < 5 - q; omega⟩
    · refine J.exit ?_
      refine J.seq ?_
      refine J.region ?_
      refine L.va rfl (X.assign (by conv => lhs; whnf)) ?_
      refine L.nil ?_
      refine J.ret ?_
      refine fin1 ?_
      exact ⟨m, false, rfl, M, fun h => by cases h⟩
end Go.Proofs.Ytjegcohpmmbchaa
namespace Go.Proofs.Ytjegcohpmmbchaa
set_option maxRecDepth 100000
open Go.RowKit H
open Srt
set_option linter.unusedVariables false
theorem pdqU (A : Option Addr) (n c N : Nat) (hn : n ≤ 900000) : ∀ (h a : Nat) (lim : Int) (l : List Int) (w : World), w.ownsRow N 30 1 (.slice A n c) n (nums .u32 l) → a + h ≤ n → 0 ≤ lim → lim ≤ 100 → Lo l a (a + h) →
    Calls Try.prog 26 #[.slice A n c, .int .i64 (a : Int), .int .i64 ((a + h : Nat) : Int), .int .i64 lim] w fun e w' => e = .returned (.tuple #[]) ∧ ∃ l', SwU w w' A n c N a (a + h) l l' ∧ In l' a (a + h) := by
  intro h
  induction h using Nat.strongRecOn with
  | ind H IH =>
  intro a0 lim0 l w ho hf hl0 hl1 hLo0
  have hl : l.length = n := by have := ho.1; simpa [nums] using this
  refine enter Try.func26 rfl (by kernel_rfl) ?_
  refine J.seq ?_
  refine J.region ?_
  refine L.va rfl (X.assign (by conv => lhs; whnf)) ?_
  refine L.nil ?_
  refine J.seq ?_
  refine J.region ?_
  refine L.va rfl (X.assign (by conv => lhs; whnf)) ?_
  refine L.nil ?_
  refine J.block ?_
  refine J.loop (X := Nat × Nat × Int × Bool × Bool × List Int) [1, 2, 3, 8, 9, 10, 11, 12, 13, 14, 15, 16, 17, 18, 19, 20, 21, 22, 23, 24, 25, 26, 27, 28, 29, 30, 31, 32, 33, 34, 35, 36, 37, 38, 39, 40, 41, 42, 43, 44, 45, 46, 47, 48, 49, 50, 51, 52, 53, 54, 55, 56, 57, 58, 59, 60, 61, 62, 63, 64, 65, 66, 67, 68, 69, 70, 71, 72, 73, 74, 75, 76, 77, 78, 79, 80, 81, 82, 83, 84, 85, 86, 87, 88, 89, 90, 91, 92, 93, 94, 95, 96, 97, 98, 99, 100, 101, 102, 103, 104, 105, 106, 107, 108, 109, 110, 111, 112, 113, 114, 115, 116, 117, 118, 119, 120, 121, 122, 123, 124, 125, 126, 127, 128, 129, 130, 131, 132, 133] (fun (a, h, lim, wb, wp, m) => [(1, .int .i64 (a : Int)), (2, .int .i64 ((a + h : Nat) : Int)), (3, .int .i64 lim), (8, .bool wb), (9, .bool wp)]) (fun (a, h, lim, wb, wp, m) w' => a0 ≤ a ∧ a + h ≤ a0 + H ∧ 0 ≤ lim ∧ lim ≤ 100 ∧ SwU w w' A n c N a0 (a0 + H) l m ∧ Lo m a (a + h) ∧ (∀ m', Pr a (a + h) m m' → In m' a (a + h) → In m' a0 (a0 + H))) (fun (_, h, _) => h) ((a0, H, lim0, true, true, l)) (At5 (by first | rfl | exact at_int rfl (by omega) | exact at_slice rfl (by omega) | exact at_int rfl (by simp)) (by first | rfl | exact at_int rfl (by omega) | exact at_slice rfl (by omega) | exact at_int rfl (by simp)) (by first | rfl | exact at_int rfl (by omega) | exact at_slice rfl (by omega) | exact at_int rfl (by simp)) (by first | rfl | exact at_int rfl (by omega) | exact at_slice rfl (by omega) | exact at_int rfl (by simp)) (by first | rfl | exact at_int rfl (by omega) | exact at_slice rfl (by omega) | exact at_int rfl (by simp))) ?_ ?_
  · exact ⟨Nat.le_refl _, Nat.le_refl _, hl0, hl1, ⟨ho, grown_ext (Ext.refl _), .refl _⟩, hLo0, fun m' _ hI => hI⟩
  · rintro ⟨a, h, lim, wb, wp, m⟩ g w2 ⟨ha, hh, hm0, hm1, M, hLo, hK⟩
    have hml : m.length = n := by rw [M.p.len, hl]
    have eh : ((a + h : Nat) : Int) - (a : Int) = (h : Int) := by omega
    have hwide : ∀ {x y : List Int}, Pr a (a + h) x y → x.length = n → Pr a0 (a0 + H) x y := fun hp hx => hp.wide ha hh (by omega)
    refine J.block ?_
    refine J.seq ?_
    refine J.region ?_
    refine L.va rfl (X.move (by conv => lhs; whnf)) ?_
    refine L.va rfl (X.move (by conv => lhs; whnf)) ?_
    refine L.va rfl (X.sub rfl rfl (by omega)) ?_
    refine L.va rfl (X.assign (by conv => lhs; whnf)) ?_
    refine L.nil ?_
    rw [eh]
    refine J.seq ?_
    refine J.seq ?_
    refine J.region ?_
    refine L.va rfl (X.move (by conv => lhs; whnf)) ?_
    refine L.va rfl (X.leq rfl rfl) ?_
    refine L.nil ?_
    refine J.dec rfl (fun h12 => ?_) (fun h12 => ?_)
    · have c1 := isortU A n c N a (a + h) m w2 M.o (by omega) (by omega) (by omega)
      refine J.seq ?_
      refine J.region ?_
      refine L.va rfl (X.move (by conv => lhs; whnf)) ?_
      refine L.va rfl (X.move (by conv => lhs; whnf)) ?_
      refine L.va rfl (X.move (by conv => lhs; whnf)) ?_
      refine L.call rfl en_38 rfl (c1) ?_
      rintro e w3 ⟨rfl, m', M', hI'⟩
      refine ⟨_, rfl, ?_⟩
      refine L.nil ?_
      refine J.ret ?_
      refine thn_ret <|  inB_ret <|  thn_ret <|  inB_ret <| ?_
      refine fin0 (.inl rfl) ?_
      exact ⟨rfl, m', ⟨M'.o, grb_trans M.g M'.g, M.p.trans (hwide M'.p hml)⟩, hK m' M'.p hI'⟩
    · refine J.skip ?_
      refine J.seq ?_
      refine J.seq ?_
      refine J.region ?_
      refine L.va rfl (X.move (by conv => lhs; whnf)) ?_
      refine L.va rfl (X.eql rfl rfl) ?_
      refine L.nil ?_
      refine J.dec rfl (fun hz => ?_) (fun hz => ?_)
      · have c1 := hsortU A n c N a h m w2 M.o (by omega) (by omega) (by omega)
        refine J.seq ?_
        refine J.region ?_
        refine L.va rfl (X.move (by conv => lhs; whnf)) ?_
        refine L.va rfl (X.move (by conv => lhs; whnf)) ?_
        refine L.va rfl (X.move (by conv => lhs; whnf)) ?_
        refine L.call rfl en_39 rfl (c1) ?_
        rintro e w3 ⟨rfl, m', M', hI'⟩
        refine ⟨_, rfl, ?_⟩
        refine L.nil ?_
        refine J.ret ?_
        refine thn_ret <|  inB_ret <|  thn_ret <|  inB_ret <| ?_
        refine fin0 (.inl rfl) ?_
        exact ⟨rfl, m', ⟨M'.o, grb_trans M.g M'.g, M.p.trans (hwide M'.p hml)⟩, hK m' M'.p hI'⟩
      · refine J.skip ?_
        refine J.cut (X := Int × List Int) [3, 34, 35, 36, 37, 38, 39, 40, 41] (fun (lim, m') => [(3, .int .i64 lim)]) (fun (lim, m') w' => 0 ≤ lim ∧ lim ≤ 100 ∧ SwU w2 w' A n c N a (a + h) m m') ?_ ?_
        · refine J.seq ?_
          refine J.region ?_
          refine L.va rfl (X.move (by conv => lhs; whnf)) ?_
          refine L.va rfl (X.not rfl) ?_
          refine L.nil ?_
          cases wb
          · refine J.iteT rfl ?_
            have c1 := breakpU A n c N a h m w2 M.o (by omega) hn (by omega)
            refine J.seq ?_
            refine J.region ?_
            refine L.va rfl (X.move (by conv => lhs; whnf)) ?_
            refine L.va rfl (X.move (by conv => lhs; whnf)) ?_
            refine L.va rfl (X.move (by conv => lhs; whnf)) ?_
            refine L.call rfl en_40 rfl (c1) ?_
            rintro e w3 ⟨rfl, m', M'⟩
            refine ⟨_, rfl, ?_⟩
            refine L.nil ?_
            refine J.region ?_
            refine L.va rfl (X.move (by conv => lhs; whnf)) ?_
            refine L.va rfl (X.sub rfl rfl (by omega)) ?_
            refine L.va rfl (X.assign (by conv => lhs; whnf)) ?_
            refine L.nil ?_
            refine ⟨(lim - 1, m'), At1 (by first | rfl | exact at_int rfl (by omega) | exact at_slice rfl (by omega) | exact at_int rfl (by simp)), (by (iterate 9 refine Agr.lk rfl ?_); exact Agr.rfl'), ?_⟩
            exact ⟨by omega, by omega, M'⟩
          · refine J.iteF rfl ?_
            refine J.skip ?_
            refine ⟨(lim, m), At1 (by first | rfl | exact at_int rfl (by omega) | exact at_slice rfl (by omega) | exact at_int rfl (by simp)), (by (iterate 2 refine Agr.lk rfl ?_); exact Agr.rfl'), ?_⟩
            exact ⟨hm0, hm1, M.o, grown_ext (Ext.refl _), .refl _⟩
        · rintro ⟨lim, m1⟩ g w3 ⟨hm0, hm1, M1⟩
          have hml1 : m1.length = n := by rw [M1.p.len, hml]
          refine J.seq ?_
          refine J.region ?_
          refine L.va rfl (X.move (by conv => lhs; whnf)) ?_
          refine L.va rfl (X.move (by conv => lhs; whnf)) ?_
          refine L.va rfl (X.move (by conv => lhs; whnf)) ?_
          refine L.call rfl en_41 rfl (pivotU A n c N a h m1 w3 M1.o (by omega) hn (by omega)) ?_
          rintro e w4 ⟨p, k, rfl, hp1, hp2, hk2, he4⟩
          refine ⟨_, rfl, ?_⟩
          replace M1 := M1.up he4
          refine L.va rfl (X.move (by conv => lhs; whnf)) ?_
          refine L.va rfl (X.extract rfl rfl) ?_
          refine L.va rfl (X.extract rfl rfl) ?_
          refine L.va rfl (X.assign (by conv => lhs; whnf)) ?_
          refine L.va rfl (X.assign (by conv => lhs; whnf)) ?_
          refine L.nil ?_
          refine J.cut (X := Nat × Nat × List Int) [11, 12, 49, 50, 51, 52, 53, 54, 55, 56, 57, 58, 59, 60] (fun (p, k, m') => [(11, .int .i64 (p : Int)), (12, .int .i64 (k : Int))]) (fun (p, k, m') w' => a ≤ p ∧ p < a + h ∧ SwU w2 w' A n c N a (a + h) m m') ?_ ?_
          · refine J.seq ?_
            refine J.region ?_
            refine L.va rfl (X.move (by conv => lhs; whnf)) ?_
            refine L.va rfl (X.eql rfl rfl) ?_
            refine L.nil ?_
            refine J.dec rfl (fun hk => ?_) (fun hk => ?_)
            · have c1 := reverseU A n c N a h m1 w4 M1.o (by omega) hn (by omega)
              refine J.seq ?_
              refine J.region ?_
              refine L.va rfl (X.move (by conv => lhs; whnf)) ?_
              refine L.va rfl (X.move (by conv => lhs; whnf)) ?_
              refine L.va rfl (X.move (by conv => lhs; whnf)) ?_
              refine L.call rfl en_42 rfl (c1) ?_
              rintro e w5 ⟨rfl, m', M'⟩
              refine ⟨_, rfl, ?_⟩
              refine L.nil ?_
              refine J.seq ?_
              refine J.region ?_
              refine L.va rfl (X.move (by conv => lhs; whnf)) ?_
              refine L.va rfl (X.sub rfl rfl (by omega)) ?_
              refine L.va rfl (X.move (by conv => lhs; whnf)) ?_
              refine L.va rfl (X.move (by conv => lhs; whnf)) ?_
              refine L.va rfl (X.sub rfl rfl (by omega)) ?_
              refine L.va rfl (X.sub rfl rfl (by omega)) ?_
              refine L.va rfl (X.assign (by conv => lhs; whnf)) ?_
              refine L.nil ?_
              refine J.region ?_
              refine L.va rfl (X.assign (by conv => lhs; whnf)) ?_
              refine L.nil ?_
              refine ⟨(a + h - 1 - (p - a), 1, m'), At2 (by first | rfl | exact at_int rfl (by omega) | exact at_slice rfl (by omega) | exact at_int rfl (by simp)) (by first | rfl | exact at_int rfl (by omega) | exact at_slice rfl (by omega) | exact at_int rfl (by simp)), (by (iterate 14 refine Agr.lk rfl ?_); exact Agr.rfl'), ?_⟩
              exact ⟨by omega, by omega, M'.o, grb_trans M1.g M'.g, M1.p.trans M'.p⟩
            · refine J.skip ?_
              refine ⟨(p, k, m1), At2 (by first | rfl | exact at_int rfl (by omega) | exact at_slice rfl (by omega) | exact at_int rfl (by simp)) (by first | rfl | exact at_int rfl (by omega) | exact at_slice rfl (by omega) | exact at_int rfl (by simp)), (by (iterate 2 refine Agr.lk rfl ?_); exact Agr.rfl'), ?_⟩
              exact ⟨hp1, hp2, M1⟩
          · rintro ⟨p, k, m2⟩ g w5 ⟨hp1, hp2, M2⟩
            have hml2 : m2.length = n := by rw [M2.p.len, hml]
            have hLo2 := hLo.keep M2.p
            refine J.cut (X := List Int) [61, 62, 63, 64, 65, 66, 67, 68, 69, 70, 71, 72] (fun _ => [(1, .int .i64 (a : Int))]) (fun m' w' => SwU w2 w' A n c N a (a + h) m m') ?_ ?_
            · refine J.seq ?_
              refine J.region ?_
              refine L.va rfl (X.move (by conv => lhs; whnf)) ?_
              refine L.va rfl (X.move (by conv => lhs; whnf)) ?_
              cases wb
              · refine L.caseBF (k := 62) rfl (by rfl) ?_
                refine L.no rfl ?_
                refine L.va rfl (X.pickF rfl (by conv => lhs; whnf)) ?_
                refine L.va rfl (X.move (by conv => lhs; whnf)) ?_
                refine L.no rfl ?_
                refine L.no rfl ?_
                refine L.va rfl (X.pickF rfl (by conv => lhs; whnf)) ?_
                refine L.nil ?_
                refine J.iteF rfl ?_
                refine J.skip ?_
                refine ⟨m2, At1 (by first | rfl | exact at_int rfl (by omega) | exact at_slice rfl (by omega) | exact at_int rfl (by simp)), (by (iterate 9 refine Agr.lk rfl ?_); exact Agr.rfl'), ?_⟩
                exact M2
              · refine L.caseBT (k := 62) rfl (by rfl) ?_
                refine L.va rfl (X.move (by conv => lhs; whnf)) ?_
                refine L.va rfl (X.pickT rfl (by conv => lhs; whnf)) ?_
                refine L.va rfl (X.move (by conv => lhs; whnf)) ?_
                cases wp
                · refine L.caseBF (k := 65) rfl (by rfl) ?_
                  refine L.no rfl ?_
                  refine L.no rfl ?_
                  refine L.va rfl (X.pickF rfl (by conv => lhs; whnf)) ?_
                  refine L.nil ?_
                  refine J.iteF rfl ?_
                  refine J.skip ?_
                  refine ⟨m2, At1 (by first | rfl | exact at_int rfl (by omega) | exact at_slice rfl (by omega) | exact at_int rfl (by simp)), (by (iterate 10 refine Agr.lk rfl ?_); exact Agr.rfl'), ?_⟩
                  exact M2
                · refine L.caseBT (k := 65) rfl (by rfl) ?_
                  refine L.va rfl (X.move (by conv => lhs; whnf)) ?_
                  refine L.va rfl (X.eql rfl rfl) ?_
                  refine L.va rfl (X.pickT rfl (by conv => lhs; whnf)) ?_
                  refine L.nil ?_
                  refine J.dec rfl (fun hk1 => ?_) (fun hk1 => ?_)
                  · have c1 := partinsU A n c N a (a + h) m2 w5 M2.o (by omega) hn (by omega) hLo2
                    refine J.seq ?_
                    refine J.region ?_
                    refine L.va rfl (X.move (by conv => lhs; whnf)) ?_
                    refine L.va rfl (X.move (by conv => lhs; whnf)) ?_
                    refine L.va rfl (X.move (by conv => lhs; whnf)) ?_
                    refine L.call rfl en_43 rfl (c1) ?_
                    rintro e w6 ⟨m3, z, rfl, M3, hz3⟩
                    refine ⟨_, rfl, ?_⟩
                    refine L.nil ?_
                    cases z
                    · refine J.iteF rfl ?_
                      refine J.skip ?_
                      refine ⟨m3, At1 (by first | rfl | exact at_int rfl (by omega) | exact at_slice rfl (by omega) | exact at_int rfl (by simp)), (by (iterate 14 refine Agr.lk rfl ?_); exact Agr.rfl'), ?_⟩
                      exact ⟨M3.o, grb_trans M2.g M3.g, M2.p.trans M3.p⟩
                    · refine J.iteT rfl ?_
                      refine J.ret ?_
                      refine thn_ret <|  inB_ret <|  thn_ret <|  inB_ret <| ?_
                      refine fin0 (.inl rfl) ?_
                      exact ⟨rfl, m3, ⟨M3.o, grb_trans M.g (grb_trans M2.g M3.g), M.p.trans (hwide (M2.p.trans M3.p) hml)⟩, hK m3 (M2.p.trans M3.p) (hz3 rfl)⟩
                  · refine J.skip ?_
                    refine ⟨m2, At1 (by first | rfl | exact at_int rfl (by omega) | exact at_slice rfl (by omega) | exact at_int rfl (by simp)), (by (iterate 10 refine Agr.lk rfl ?_); exact Agr.rfl'), ?_⟩
                    exact M2
            · rintro m3 g w6 M3
              have hml3 : m3.length = n := by rw [M3.p.len, hml]
              have hLo3 := hLo.keep M3.p
              have hr := Reads.of_own M3.o
              have hA := hr.some_ (by omega)
              refine J.cut (X := Unit) [1, 13, 73, 74, 75, 76, 77, 78, 79, 80, 81, 82, 83, 84, 85, 86, 87, 88, 89, 90, 91, 92, 93] (fun _ => [(1, .int .i64 (a : Int))]) (fun _ w' => Ext w6 w') ?_ ?_
              · refine J.seq ?_
                refine J.quiet mixed (by kernel_rfl) ?_
                refine Qt.va rfl (fun w' hw => X.move (by conv => lhs; whnf)) ?_
                refine Qt.va rfl (fun w' hw => X.gtr rfl rfl) ?_
                refine Qt.va rfl (fun w' hw => X.move (by conv => lhs; whnf)) ?_
                refine Qt.caseDec (k := 75) rfl (fun h0 => ?_) (fun h0 => ?_)
                · refine Qt.va rfl (fun w' hw => X.move (by conv => lhs; whnf)) ?_
                  refine Qt.va rfl (fun w' hw => X.move (by conv => lhs; whnf)) ?_
                  refine Qt.va rfl (fun w' hw => X.sub rfl rfl (by omega)) ?_
                  refine Qt.va rfl (fun w' hw => X.index1eU (j := a - 1) rfl rfl (by omega) Try.underlying22 sz_30 hA (by omega)) ?_
                  refine Qt.va rfl (fun w' hw => X.load rfl sc_30 (by first | exact Ld.num (hr.ext hw) (by omega) | exact hA)) ?_
                  refine Qt.va rfl (fun w' hw => X.move (by conv => lhs; whnf)) ?_
                  refine Qt.va rfl (fun w' hw => X.move (by conv => lhs; whnf)) ?_
                  refine Qt.va rfl (fun w' hw => (by first | exact X.index1n rfl rfl Try.underlying22 sz_30 (by first | exact Option.some_ne_none _ | exact hr.some_ (by omega) | exact hA) (by omega) | exact X.index1 rfl rfl Try.underlying22 sz_30 (by first | exact Option.some_ne_none _ | exact hr.some_ (by omega) | exact hA) (by omega))) ?_
                  refine Qt.va rfl (fun w' hw => X.load rfl sc_30 (by first | exact Ld.num (hr.ext hw) (by omega) | exact hA)) ?_
                  refine Qt.call rfl en_44 rfl (fun w' hw => calls_same hw (clessU (m3.getD (a - 1) 0) (m3.getD p 0) w')) ?_
                  refine Qt.va rfl (fun w' hw => X.not rfl) ?_
                  refine Qt.va rfl (fun w' hw => X.pickT rfl (by conv => lhs; whnf)) ?_
                  refine Qt.nil (fun w7 hq => ?_)
                  by_cases hd : m3.getD (a - 1) 0 < m3.getD p 0
                  · rw [decide_eq_true hd]
                    refine J.iteF rfl ?_
                    refine J.skip ?_
                    refine ⟨(), At1 (by first | rfl | exact at_int rfl (by omega) | exact at_slice rfl (by omega) | exact at_int rfl (by simp)), (by (iterate 16 refine Agr.lk rfl ?_); exact Agr.rfl'), ?_⟩
                    exact hq
                  · rw [decide_eq_false hd]
                    have M7 := M3.up hq
                    have hv : ∀ k, a ≤ k → k < a + h → m3.getD p 0 ≤ m3.getD k 0 := fun k k1 k2 => by
                      have := hLo3 (by omega) k k1 k2
                      omega
                    have c1 := parteqU A n c N a (a + h) p m3 w7 M7.o (by omega) hn ⟨hp1, hp2⟩
                    refine J.iteT rfl ?_
                    refine J.seq ?_
                    refine J.region ?_
                    refine L.va rfl (X.move (by conv => lhs; whnf)) ?_
                    refine L.va rfl (X.move (by conv => lhs; whnf)) ?_
                    refine L.va rfl (X.move (by conv => lhs; whnf)) ?_
                    refine L.va rfl (X.move (by conv => lhs; whnf)) ?_
                    refine L.call rfl en_45 rfl (c1) ?_
                    rintro e w8 ⟨m4, q, rfl, M4, hq1, hq2, hq3, hq4⟩
                    refine ⟨_, rfl, ?_⟩
                    obtain ⟨r1, r2⟩ := rest_eq hq1 hq3 hq4 (M4.p.all (p := fun z => m3.getD p 0 ≤ z) hv) hq2
                    have hqb : q + (a + h - q) = a + h := by omega
                    have P4 := M3.p.trans M4.p
                    refine L.va rfl (X.assign (by conv => lhs; whnf)) ?_
                    refine L.nil ?_
                    refine J.seq ?_
                    refine J.region ?_
                    refine L.va rfl (X.move (by conv => lhs; whnf)) ?_
                    refine L.va rfl (X.assign (by conv => lhs; whnf)) ?_
                    refine L.nil ?_
                    refine J.exit ?_
                    refine ⟨(q, a + h - q, lim, wb, wp, m4), At5 (by first | rfl | exact at_int rfl (by omega) | exact at_slice rfl (by omega) | exact at_int rfl (by simp)) (by first | rfl | exact at_int rfl (by omega) | exact at_slice rfl (by omega) | exact at_int rfl (by simp)) (by first | rfl | exact at_int rfl (by omega) | exact at_slice rfl (by omega) | exact at_int rfl (by simp)) (by first | rfl | exact at_int rfl (by omega) | exact at_slice rfl (by omega) | exact at_int rfl (by simp)) (by first | rfl | exact at_int rfl (by omega) | exact at_slice rfl (by omega) | exact at_int rfl (by simp)), (by (iterate 24 refine Agr.lk rfl ?_); refine Agr.lk rfl ?_; refine Agr.hav rfl ?_; refine Agr.lk rfl ?_; refine Agr.hav rfl ?_; (iterate 9 refine Agr.lk rfl ?_); refine Agr.lk rfl ?_; refine Agr.hav rfl ?_; (iterate 8 refine Agr.lk rfl ?_); exact Agr.lk rfl (Agr.hav rfl Agr.rfl')), ?_⟩
                    refine ⟨⟨by omega, by omega, hm0, hm1, ⟨M4.o, grb_trans M.g (grb_trans M7.g M4.g), M.p.trans (hwide P4 hml)⟩, by rw [hqb]; exact r1, fun m' hP hI => ?_⟩, by show a + h - q < h; omega⟩
                    rw [hqb] at hP hI
                    exact hK m' (P4.trans (hP.wide (by omega) (Nat.le_refl _) (by rw [P4.len, hml]; omega))) (r2 m' hP hI)
                · skip
                  refine Qt.no rfl ?_
                  refine Qt.no rfl ?_
                  refine Qt.no rfl ?_
                  refine Qt.no rfl ?_
                  refine Qt.no rfl ?_
                  refine Qt.no rfl ?_
                  refine Qt.no rfl ?_
                  refine Qt.no rfl ?_
                  refine Qt.no rfl ?_
                  refine Qt.no rfl ?_
                  refine Qt.no rfl ?_
                  refine Qt.va rfl (fun w' hw => X.pickF rfl (by conv => lhs; whnf)) ?_
                  refine Qt.nil (fun w7 hq => ?_)
                  refine J.iteF rfl ?_
                  refine J.skip ?_
                  refine ⟨(), At1 (by first | rfl | exact at_int rfl (by omega) | exact at_slice rfl (by omega) | exact at_int rfl (by simp)), (by (iterate 16 refine Agr.lk rfl ?_); exact Agr.rfl'), ?_⟩
                  exact hq
              · rintro ⟨⟩ g w7 he7
                have M7 := M3.up he7
                have c1 := partU A n c N a (a + h) p m3 w7 M7.o (by omega) hn ⟨hp1, hp2⟩
                refine J.seq ?_
                refine J.region ?_
                refine L.va rfl (X.move (by conv => lhs; whnf)) ?_
                refine L.va rfl (X.move (by conv => lhs; whnf)) ?_
                refine L.va rfl (X.move (by conv => lhs; whnf)) ?_
                refine L.va rfl (X.move (by conv => lhs; whnf)) ?_
                refine L.call rfl en_46 rfl (c1) ?_
                rintro e w8 ⟨m4, q, z, rfl, M4, hq1, hq2, hq3, hq4⟩
                refine ⟨_, rfl, ?_⟩
                have P4 := M3.p.trans M4.p
                have hml4 : m4.length = n := by rw [M4.p.len, hml3]
                have hLo4 := hLo.keep P4
                obtain ⟨d, rfl⟩ : ∃ d, q = a + d := ⟨q - a, by omega⟩
                refine L.va rfl (X.move (by conv => lhs; whnf)) ?_
                refine L.va rfl (X.extract rfl rfl) ?_
                refine L.va rfl (X.extract rfl rfl) ?_
                refine L.va rfl (X.assign (by conv => lhs; whnf)) ?_
                refine L.va rfl (X.assign (by conv => lhs; whnf)) ?_
                refine L.nil ?_
                refine J.seq ?_
                refine J.region ?_
                refine L.va rfl (X.move (by conv => lhs; whnf)) ?_
                refine L.va rfl (X.assign (by conv => lhs; whnf)) ?_
                refine L.nil ?_
                refine J.seq ?_
                refine J.region ?_
                refine L.va rfl (X.move (by conv => lhs; whnf)) ?_
                refine L.va rfl (X.move (by conv => lhs; whnf)) ?_
                refine L.va rfl (X.sub rfl rfl (by omega)) ?_
                refine L.va rfl (X.move (by conv => lhs; whnf)) ?_
                refine L.va rfl (X.move (by conv => lhs; whnf)) ?_
                refine L.va rfl (X.sub rfl rfl (by omega)) ?_
                refine L.va rfl (X.assign (by conv => lhs; whnf)) ?_
                refine L.va rfl (X.assign (by conv => lhs; whnf)) ?_
                refine L.nil ?_
                refine J.seq ?_
                refine J.region ?_
                refine L.va rfl (X.move (by conv => lhs; whnf)) ?_
                refine L.va rfl (X.quo rfl rfl (by omega)) ?_
                refine L.va rfl (X.assign (by conv => lhs; whnf)) ?_
                refine L.nil ?_
                refine J.seq ?_
                refine J.region ?_
                refine L.va rfl (X.move (by conv => lhs; whnf)) ?_
                refine L.va rfl (X.move (by conv => lhs; whnf)) ?_
                refine L.va rfl (X.lss rfl rfl) ?_
                refine L.nil ?_
                refine J.dec rfl (fun hlr => ?_) (fun hlr => ?_)
                · have c2 := IH d (by omega) a lim m4 w8 M4.o (by omega) hm0 hm1 (fun h0 k k1 k2 => hLo4 h0 k k1 (by omega))
                  refine J.seq ?_
                  refine J.region ?_
                  refine L.va rfl (X.move (by conv => lhs; whnf)) ?_
                  refine L.va rfl (X.move (by conv => lhs; whnf)) ?_
                  refine L.va rfl (X.geq rfl rfl) ?_
                  refine L.va rfl (X.assign (by conv => lhs; whnf)) ?_
                  refine L.nil ?_
                  refine J.seq ?_
                  refine J.region ?_
                  refine L.va rfl (X.move (by conv => lhs; whnf)) ?_
                  refine L.va rfl (X.move (by conv => lhs; whnf)) ?_
                  refine L.va rfl (X.move (by conv => lhs; whnf)) ?_
                  refine L.va rfl (X.move (by conv => lhs; whnf)) ?_
                  refine L.call rfl en_26 rfl (c2) ?_
                  rintro e w9 ⟨rfl, m5, M5, hI5⟩
                  refine ⟨_, rfl, ?_⟩
                  obtain ⟨r1, r2⟩ := rest_right (by omega) hq3 hq4 M5.p hI5
                  have P5 := P4.trans (M5.p.wide (Nat.le_refl _) (show a + d ≤ a + h by omega) (by omega))
                  have hqb : a + d + 1 + (h - d - 1) = a + h := by omega
                  refine L.nil ?_
                  refine J.region ?_
                  refine L.va rfl (X.move (by conv => lhs; whnf)) ?_
                  refine L.va rfl (X.add rfl rfl (by omega)) ?_
                  refine L.va rfl (X.assign (by conv => lhs; whnf)) ?_
                  refine L.nil ?_
                  refine ⟨(a + d + 1, h - d - 1, lim, decide ((h : Int) / 8 ≤ ((a + d : Nat) : Int) - (a : Int)), z, m5), At5 (by first | rfl | exact at_int rfl (by omega) | exact at_slice rfl (by omega) | exact at_int rfl (by simp)) (by first | rfl | exact at_int rfl (by omega) | exact at_slice rfl (by omega) | exact at_int rfl (by simp)) (by first | rfl | exact at_int rfl (by omega) | exact at_slice rfl (by omega) | exact at_int rfl (by simp)) (by first | rfl | exact at_int rfl (by omega) | exact at_slice rfl (by omega) | exact at_int rfl (by simp)) (by first | rfl | exact at_int rfl (by omega) | exact at_slice rfl (by omega) | exact at_int rfl (by simp)), (by (iterate 38 refine Agr.lk rfl ?_); refine Agr.lk rfl ?_; refine Agr.hav rfl ?_; refine Agr.lk rfl ?_; refine Agr.hav rfl ?_; refine Agr.lk rfl ?_; refine Agr.hav rfl ?_; (iterate 9 refine Agr.lk rfl ?_); refine Agr.lk rfl ?_; refine Agr.hav rfl ?_; (iterate 8 refine Agr.lk rfl ?_); exact Agr.lk rfl (Agr.hav rfl Agr.rfl')), ?_⟩
                  refine ⟨⟨by omega, by omega, hm0, hm1, ⟨M5.o, grb_trans M.g (grb_trans M7.g (grb_trans M4.g M5.g)), M.p.trans (hwide P5 hml)⟩, by rw [hqb]; exact r1, fun m' hP hI => ?_⟩, by show h - d - 1 < h; omega⟩
                  rw [hqb] at hP hI
                  exact hK m' (P5.trans (hP.wide (by omega) (Nat.le_refl _) (by rw [P5.len, hml]; omega))) (r2 m' hP hI)
                · have hqb : a + d + 1 + (h - d - 1) = a + h := by omega
                  have c2 := IH (h - d - 1) (by omega) (a + d + 1) lim m4 w8 M4.o (by omega) hm0 hm1 (by
                    rw [hqb]
                    exact fun _ k k1 k2 => by rw [Nat.add_sub_cancel]; exact hq4 k (by omega) k2)
                  rw [hqb] at c2
                  refine J.seq ?_
                  refine J.region ?_
                  refine L.va rfl (X.move (by conv => lhs; whnf)) ?_
                  refine L.va rfl (X.move (by conv => lhs; whnf)) ?_
                  refine L.va rfl (X.geq rfl rfl) ?_
                  refine L.va rfl (X.assign (by conv => lhs; whnf)) ?_
                  refine L.nil ?_
                  refine J.seq ?_
                  refine J.region ?_
                  refine L.va rfl (X.move (by conv => lhs; whnf)) ?_
                  refine L.va rfl (X.move (by conv => lhs; whnf)) ?_
                  refine L.va rfl (X.add rfl rfl (by omega)) ?_
                  refine L.va rfl (X.move (by conv => lhs; whnf)) ?_
                  refine L.va rfl (X.move (by conv => lhs; whnf)) ?_
                  refine L.call rfl en_26 rfl (c2) ?_
                  rintro e w9 ⟨rfl, m5, M5, hI5⟩
                  refine ⟨_, rfl, ?_⟩
                  obtain ⟨r1, r2⟩ := rest_left (by omega) hq3 hq4 hLo4 hq2 M5.p hI5
                  have P5 := P4.trans (M5.p.wide (show a ≤ a + d + 1 by omega) (Nat.le_refl _) (by omega))
                  refine L.nil ?_
                  refine J.region ?_
                  refine L.va rfl (X.move (by conv => lhs; whnf)) ?_
                  refine L.va rfl (X.assign (by conv => lhs; whnf)) ?_
                  refine L.nil ?_
                  refine ⟨(a, d, lim, decide ((h : Int) / 8 ≤ ((a + h : Nat) : Int) - ((a + d : Nat) : Int)), z, m5), At5 (by first | rfl | exact at_int rfl (by omega) | exact at_slice rfl (by omega) | exact at_int rfl (by simp)) (by first | rfl | exact at_int rfl (by omega) | exact at_slice rfl (by omega) | exact at_int rfl (by simp)) (by first | rfl | exact at_int rfl (by omega) | exact at_slice rfl (by omega) | exact at_int rfl (by simp)) (by first | rfl | exact at_int rfl (by omega) | exact at_slice rfl (by omega) | exact at_int rfl (by simp)) (by first | rfl | exact at_int rfl (by omega) | exact at_slice rfl (by omega) | exact at_int rfl (by simp)), (by (iterate 38 refine Agr.lk rfl ?_); refine Agr.lk rfl ?_; refine Agr.hav rfl ?_; refine Agr.lk rfl ?_; refine Agr.hav rfl ?_; refine Agr.lk rfl ?_; refine Agr.hav rfl ?_; (iterate 9 refine Agr.lk rfl ?_); refine Agr.lk rfl ?_; refine Agr.hav rfl ?_; (iterate 8 refine Agr.lk rfl ?_); exact Agr.lk rfl (Agr.hav rfl Agr.rfl')), ?_⟩
                  refine ⟨⟨ha, by omega, hm0, hm1, ⟨M5.o, grb_trans M.g (grb_trans M7.g (grb_trans M4.g M5.g)), M.p.trans (hwide P5 hml)⟩, r1, fun m' hP hI => ?_⟩, by show d < h; omega⟩
                  exact hK m' (P5.trans (hP.wide (Nat.le_refl _) (by omega) (by rw [P5.len, hml]; omega))) (r2 m' hP hI)
theorem sortU (A : Option Addr) (n c N : Nat) (l : List Int) (w : World) (ho : w.ownsRow N 30 1 (.slice A n c) n (nums .u32 l)) (hn : n ≤ 900000) :
    Calls Try.prog 19 #[.slice A n c] w fun e w' => e = .returned (.tuple #[]) ∧ ∃ l', w'.ownsRow N 30 1 (.slice A n c) n (nums .u32 l') ∧ w.grownBy w' (Value.ownBlock (.slice A n c)) ∧ l'.Perm l ∧ In l' 0 n := by
  refine enter Try.func19 rfl (by kernel_rfl) ?_
  refine J.seq ?_
  refine J.region ?_
  refine L.va rfl (X.move (by conv => lhs; whnf)) ?_
  refine L.va rfl (X.len rfl Try.underlying22) ?_
  refine L.va rfl (X.assign (by conv => lhs; whnf)) ?_
  refine L.nil ?_
  refine J.region ?_
  refine L.va rfl (X.move (by conv => lhs; whnf)) ?_
  refine L.va rfl (X.move (by conv => lhs; whnf)) ?_
  refine L.va rfl (X.move (by conv => lhs; whnf)) ?_
  refine L.va rfl ((by first | exact X.convU rfl is_3 Try.underlying46 (by omega) | exact X.convw rfl is_3 Try.underlying46)) ?_
  refine L.call rfl en_23 rfl (len_ n w (by omega)) ?_
  rintro e _ ⟨k, rfl, hk, _, rfl⟩
  refine ⟨_, rfl, ?_⟩
  have c1 := pdqU A n c N hn n 0 (k : Int) l w ho (by omega) (by omega) (by omega) (fun h => absurd h (by omega))
  rw [Nat.zero_add] at c1
  refine L.call rfl en_26 rfl (c1) ?_
  rintro e w1 ⟨rfl, l', M, hI⟩
  refine ⟨_, rfl, ?_⟩
  refine L.nil ?_
  refine fin0 (.inr rfl) ?_
  exact ⟨rfl, l', M.o, M.g, M.p.perm, hI⟩
end Go.Proofs.Ytjegcohpmmbchaa
