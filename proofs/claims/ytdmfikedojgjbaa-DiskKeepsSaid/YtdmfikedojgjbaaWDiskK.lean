/-
  The disk's laws: plays.
-/
import Derived.Test.YtdmfikedojgjbaaWDiskJ
namespace Go.Proofs.Ytdmfikedojgjbaa
set_option maxRecDepth 100000
open Go.RowKit H
set_option linter.unusedVariables false
namespace Dk
variable {v : Dk} {N N0 : Nat} {C : Nat → Prop} {w w' : World} {r : Rk}
theorem _root_.Go.Proofs.Ytdmfikedojgjbaa.Kq.grw {kb d g : Nat} {w'' : World} (k : Kq kb d C w w') (hg : w'.grownBy w'' (some g)) (h : w.heap.size ≤ g) : Kq kb d C w w'' :=
  ⟨hg.os.trans k.os, hg.tape.trans k.tape, hg.output.trans k.output, Nat.le_trans k.size hg.size, fun j hj h1 h2 h3 => (hg.block j (Nat.lt_of_lt_of_le hj k.size) (fun e => by injection e with e; omega)).trans (k.block j hj h1 h2 h3)⟩
theorem At.blk_ {g t : Nat} {cs : Array Value} (h : v.At N C w) (hb : Blk w g t cs) (hg : w.grownBy w' (some g)) (h1 : t ≠ 30) (h2 : t ≠ 58) (h3 : t ≠ 123) (h4 : t ≠ 5) : v.At N C w' :=
  have hd : ∀ x zs, Dat w x zs → Dat w' x zs := fun x zs hx => hx.grown hg (fun g' hg' ht => by injection hg' with hg'; subst hg'; exact h4 (hb.isT.fun_ ht))
  ⟨h.hb.grown hg (fun e => by injection e with e; subst e; exact h2 (hb.isT.fun_ h.dT)), h.hk.kept hg (.inr (own_blk_ne h.hk hb (fun e => h1 e.symm))), h.hp.kept hg (.inr (own_blk_ne h.hp hb (fun e => h3 e.symm))), h.hC, fun g hg' => Nat.lt_of_lt_of_le (h.hL g hg') hg.size, h.hCN, fun x hx => hd _ _ (h.kd x hx), fun x hx => ⟨(h.pd x hx).1, hd _ _ (h.pd x hx).2⟩, h.hN, h.h1, h.hl⟩
/-- where deeds have come to -/
structure Pl (v v' : Dk) (N N0 : Nat) (C : Nat → Prop) (r' : Rk) (m : Nat) (w w' : World) : Prop where
  hv : v'.At N C w'
  hd : v'.d = v.d
  hkb : v'.kb = v.kb
  hk : Kq v.kb v.d C w w'
  hr : r'.At N0 w'
  hne : r'.K.ownBlock ≠ some v.kb
  hab : v'.abs = r'.abs
  hok : r'.abs.Ok m
theorem At.plays_ (h : v.At N C w) (hN : N0 ≤ N) (hr : r.At N0 w) (hne : r.K.ownBlock ≠ some v.kb) (hab : v.abs = r.abs) {m : Nat} (hok : r.abs.Ok m) (hm : m + 60 ≤ 1000000) (xs : List Dm) (A : Option Addr) (n c : Nat) (hx : DmsAt xs A n N0 w) (hl : lightD xs = true) :
    Calls Try.prog 25 #[v.ptr, r.v, .slice A n c] w fun e w' => ∃ v' r', e = .returned (.tuple #[r'.v, .bool true]) ∧ Pl v v' N N0 C r' (m + 60) w w' := by
  obtain ⟨l60, lx⟩ := light_of hl
  have hlen := hx.hn
  have hR := hx.hr
  have hNs := h.nsz
  refine enter Try.func25 rfl (by kernel_rfl) ?_
  refine J.seq ?_
  refine J.region ?_
  -- box
  refine L.boxA (l := [_, _, _, _, _, _, _]) rfl rfl ?_
  intro b4 w1 hb4 hs1 hk4 he1
  -- alloc
  refine L.alloc rfl zr_44 ?_
  intro b6 w2 hb6 hs2 hk6 he2
  replace hk4 := hk4.ext he2
  have he02 := he1.trans he2
  have n46 : some b4 ≠ some b6 := by intro e; injection e with e; omega
  have g4 : ∀ g, some b4 = some g → w.heap.size ≤ g := by intro g hg; injection hg with hg; omega
  have g6 : ∀ g, some b6 = some g → w.heap.size ≤ g := by intro g hg; injection hg with hg; omega
  have hP0 : Pl v v N N0 C r (m + 0) w w2 := ⟨h.ext he02, rfl, rfl, .of_ext he02, hr.ext he02, hne, hab, hok⟩
  refine L.va rfl (X.assign (by conv => lhs; whnf)) ?_
  refine L.nil ?_
  refine J.seq ?_
  refine J.seq ?_
  refine J.region ?_
  refine L.va rfl (X.assign (by conv => lhs; whnf)) ?_
  refine L.nil ?_
  refine J.block ?_
  -- loop
  refine J.loop (X := Nat × Dk × Rk) [7, 8, 9, 10, 11, 12, 13, 14, 15, 16, 17, 18, 19, 20, 21, 22, 23, 24, 25, 26, 27, 28, 29, 30, 31, 32, 33, 34, 35, 36, 37, 38, 39, 40, 41, 42, 43, 44, 45, 46, 47, 48, 49, 50, 51, 52, 53, 54, 55, 56, 57, 58, 59, 60, 61, 62, 63, 64, 65, 66, 67, 68, 69, 70, 71, 72, 73, 74, 75, 76, 77, 78, 79] (fun x => [(8, .int .i64 (x.1 : Int))]) (fun x w' => x.1 ≤ n ∧ Pl v x.2.1 N N0 C x.2.2 (m + x.1) w w' ∧ Blk w' b4 44 x.2.2.vals.toArray ∧ Blk w' b6 44 #[.slice none 0 0, .slice none 0 0, .bool false, .int .i64 0, .int .i64 0, .int .i64 0, .int .i64 0]) (fun x => n - x.1) ((0, v, r)) (At1 (by first | rfl | exact at_int rfl (by omega) | exact at_slice rfl (by omega) | exact at_int rfl (by simp))) ?_ ?_
  · exact ⟨Nat.zero_le _, hP0, hk4, hk6⟩
  · rintro ⟨i, u, s⟩ g w3 ⟨hi, hP, hk4, hk6⟩
    dsimp only at hi hP hk4
    have q1 : ((i, u, s) : Nat × Dk × Rk).1 = i := rfl
    have hk4 : Blk w3 b4 44 #[s.K, s.P, .bool s.off, .int .i64 s.left, .int .i64 s.rd, .int .i64 s.wr, .int .i64 s.fl] := hk4
    have hptr : v.ptr = u.ptr := by unfold Dk.ptr; rw [hP.hd]
    have hz3 : w.heap.size ≤ w3.heap.size := hP.hk.size
    have hb3 : Below N w w3 := h.below hP.hk
    have hx3 := hx.low (Below.mono hb3 hN)
    have hR3 := hx3.hr
    rw [hptr]
    refine J.seq ?_
    refine J.seq ?_
    refine J.region ?_
    refine L.va rfl (X.move (by conv => lhs; whnf)) ?_
    refine L.va rfl (X.move (by conv => lhs; whnf)) ?_
    refine L.va rfl (X.len rfl Try.underlying22) ?_
    refine L.va rfl (X.lss rfl rfl) ?_
    refine L.nil ?_
    -- cond
    refine J.dec rfl (fun hlt => ?_) (fun hlt => ?_)
    · have hil : i < n := by dsimp only at hlt; omega
      obtain ⟨x, hxi, hxm, hxA⟩ := hx3.row hil
      obtain ⟨lx1, lx2⟩ := lx x hxm
      -- t24
      -- t31
      refine J.skip ?_
      refine J.seq ?_
      refine J.block ?_
      -- until
      refine J.cut (X := Unit) [20, 21, 22, 23, 24, 25, 26, 27, 28, 29, 30, 31, 32, 33] (fun _ => []) (fun _ w' => w' = w3 ∧ 0 ≤ x.kind ∧ x.kind ≤ 4) ?_ ?_
      · refine J.seq ?_
        refine J.region ?_
        refine L.va rfl (X.move (by conv => lhs; whnf)) ?_
        refine L.va rfl (X.move (by conv => lhs; whnf)) ?_
        refine L.va rfl ((by first | exact X.indexAddrn rfl rfl Try.underlying22 sz_34 (by first | exact Option.some_ne_none _ | exact hR3.some_ (by omega)) (by omega) | exact X.indexAddr rfl rfl Try.underlying22 sz_34 (by first | exact Option.some_ne_none _ | exact hR3.some_ (by omega)) (by omega))) ?_
        refine L.va rfl (X.fieldP rfl Try.underlying34 rfl sz_3 (by decide) (by first | exact Option.some_ne_none _ | exact hR3.some_ (by omega))) ?_
        refine L.va rfl (X.load rfl sc_3 (Ld.flat dm_len hR3 hxi (r := 0) rfl)) ?_
        refine L.va rfl (X.lss rfl rfl) ?_
        refine L.va rfl (X.move (by conv => lhs; whnf)) ?_
        -- case t26
        refine L.caseDec (k := 26) rfl (fun h0 => ?_) (fun h0 => ?_)
        · refine L.no rfl ?_
          refine L.no rfl ?_
          refine L.no rfl ?_
          refine L.no rfl ?_
          refine L.no rfl ?_
          refine L.no rfl ?_
          refine L.va rfl (X.pickT rfl (by conv => lhs; whnf)) ?_
          refine L.nil ?_
          -- cond
          refine J.iteT rfl ?_
          refine J.exit ?_
          refine J.region ?_
          refine L.va rfl (X.move (by conv => lhs; whnf)) ?_
          refine L.va rfl (X.add rfl rfl (by omega)) ?_
          refine L.va rfl (X.assign (by conv => lhs; whnf)) ?_
          refine L.nil ?_
          -- loopend
          refine ⟨(i + 1, u, s), At1 (by first | rfl | exact at_int rfl (by omega) | exact at_slice rfl (by omega) | exact at_int rfl (by simp)), (by (iterate 22 refine Agr.lk rfl ?_); exact Agr.lk rfl (Agr.hav rfl Agr.rfl')), ?_⟩
          exact ⟨⟨by dsimp only; omega, ⟨hP.hv, hP.hd, hP.hkb, hP.hk, hP.hr, hP.hne, hP.hab, hP.hok.more (by dsimp only; omega)⟩, hk4, hk6⟩, by dsimp only; omega⟩
        · refine L.va rfl (X.move (by conv => lhs; whnf)) ?_
          refine L.va rfl (X.move (by conv => lhs; whnf)) ?_
          refine L.va rfl ((by first | exact X.indexAddrn rfl rfl Try.underlying22 sz_34 (by first | exact Option.some_ne_none _ | exact hR3.some_ (by omega)) (by omega) | exact X.indexAddr rfl rfl Try.underlying22 sz_34 (by first | exact Option.some_ne_none _ | exact hR3.some_ (by omega)) (by omega))) ?_
          refine L.va rfl (X.fieldP rfl Try.underlying34 rfl sz_3 (by decide) (by first | exact Option.some_ne_none _ | exact hR3.some_ (by omega))) ?_
          refine L.va rfl (X.load rfl sc_3 (Ld.flat dm_len hR3 hxi (r := 0) rfl)) ?_
          refine L.va rfl (X.gtr rfl rfl) ?_
          refine L.va rfl (X.pickF rfl (by conv => lhs; whnf)) ?_
          refine L.nil ?_
          -- cond
          refine J.dec rfl (fun h4 => ?_) (fun h4 => ?_)
          · refine J.exit ?_
            refine J.region ?_
            refine L.va rfl (X.move (by conv => lhs; whnf)) ?_
            refine L.va rfl (X.add rfl rfl (by omega)) ?_
            refine L.va rfl (X.assign (by conv => lhs; whnf)) ?_
            refine L.nil ?_
            -- loopend
            refine ⟨(i + 1, u, s), At1 (by first | rfl | exact at_int rfl (by omega) | exact at_slice rfl (by omega) | exact at_int rfl (by simp)), (by (iterate 22 refine Agr.lk rfl ?_); exact Agr.lk rfl (Agr.hav rfl Agr.rfl')), ?_⟩
            exact ⟨⟨by dsimp only; omega, ⟨hP.hv, hP.hd, hP.hkb, hP.hk, hP.hr, hP.hne, hP.hab, hP.hok.more (by dsimp only; omega)⟩, hk4, hk6⟩, by dsimp only; omega⟩
          · refine J.skip ?_
            -- cutend
            refine ⟨(), At0 , (by (iterate 15 refine Agr.lk rfl ?_); exact Agr.rfl'), ?_⟩
            exact ⟨rfl, by omega, by omega⟩
      · rintro ⟨⟩ g w4 ⟨rfl, hk0, hk4'⟩
        have huok : u.abs.Ok (m + i) := by rw [hP.hab]; exact hP.hok
        -- t39
        refine J.seq ?_
        refine J.region ?_
        refine L.va rfl (X.move (by conv => lhs; whnf)) ?_
        refine L.va rfl (X.move (by conv => lhs; whnf)) ?_
        refine L.va rfl (X.move (by conv => lhs; whnf)) ?_
        refine L.va rfl ((by first | exact X.indexAddrn rfl rfl Try.underlying22 sz_34 (by first | exact Option.some_ne_none _ | exact hR3.some_ (by omega)) (by omega) | exact X.indexAddr rfl rfl Try.underlying22 sz_34 (by first | exact Option.some_ne_none _ | exact hR3.some_ (by omega)) (by omega))) ?_
        refine L.va rfl (X.loadRow (cs := x.vals) rfl hR3 (fun r u hu => flat_row dm_len hxi r u hu) (Nat.zero_lt_succ _) Try.underlying34 rfl (by kernel_rfl)) ?_
        -- callfn bushel/bushellaw19.Do
        refine L.call rfl en_18 rfl (hP.hv.lawdo huok (by omega) hN x hxA (by omega) (by omega) ⟨hk0, hk4'⟩) ?_
        rintro e w5 ⟨A5, n5, c5, rfl, hr5, u', q1, q2, q3, q4, q5⟩
        refine ⟨_, rfl, ?_⟩
        have hk45 := hP.hv.blkKq q5 hk4 (by decide) (by decide) (by decide)
        have hk65 := hP.hv.blkKq q5 hk6 (by decide) (by decide) (by decide)
        have hnu : s.K.ownBlock ≠ some u.kb := by rw [hP.hkb]; exact hP.hne
        have hs5 := hP.hr.kq hP.hv q5 hN hnu
        have hb5 := hP.hv.below q5
        have hx5 := hx3.low (Below.mono hb5 hN)
        have hR5 := hx5.hr
        have hxA5 := hxA.low (Below.mono hb5 hN)
        have hz5 : w4.heap.size ≤ w5.heap.size := q5.size
        refine L.va rfl (X.move (by conv => lhs; whnf)) ?_
        refine L.va rfl (X.extract rfl rfl) ?_
        refine L.va rfl (X.extract rfl rfl) ?_
        refine L.va rfl (X.assign (by conv => lhs; whnf)) ?_
        refine L.va rfl (X.assign (by conv => lhs; whnf)) ?_
        refine L.nil ?_
        -- until
        refine J.cut (X := (Rk × Nat) × (Option Addr × Nat × Nat)) [11, 12, 13, 43, 44, 45, 46, 47, 48, 49, 50, 51, 52] (fun y => [(11, .pointer (some ⟨y.1.2, 0, none⟩)), (12, .slice y.2.1 y.2.2.1 y.2.2.2), (13, .int .i64 (s.abs.do_ x.dd).2.2)]) (fun y w' => Blk w' y.1.2 44 y.1.1.vals.toArray ∧ y.1.1.At N0 w' ∧ y.1.1.abs = (s.abs.do_ x.dd).1 ∧ Rk.RDn N0 w' y.2.1 y.2.2.1 y.2.2.2 (s.abs.do_ x.dd).2.1 ∧ Ext w5 w' ∧ Rk.Fr y.1.1 s w5) ?_ ?_
        · -- draw
          refine J.draw (ℓ := 1000000) (S := Ext w5) mixed (fun w6 hS hS_h => ?_)
          -- t48
          refine D.va 0 rfl (by kernel_rfl) (fun _ _ _ h => h) rfl (fun w' hw => (by first | exact X.loadAgg rfl (range_l (hk45.ext hw)) Try.underlying44 rfl (by kernel_rfl) | exact X.loadAgg rfl (range_blk (hk45.ext hw)) Try.underlying44 rfl (by kernel_rfl))) hS ?_
          refine D.va 1 rfl (by kernel_rfl) (fun _ _ _ h => h) rfl (fun w' hw => X.move (by conv => lhs; whnf)) hS ?_
          refine D.va 2 rfl (by kernel_rfl) (fun _ _ _ h => h) rfl (fun w' hw => X.move (by conv => lhs; whnf)) hS ?_
          refine D.va 3 rfl (by kernel_rfl) (fun _ _ _ h => h) rfl (fun w' hw => (by first | exact X.indexAddrn rfl rfl Try.underlying22 sz_34 (by first | exact Option.some_ne_none _ | exact (hR5.some_ (by omega))) (by omega) | exact X.indexAddr rfl rfl Try.underlying22 sz_34 (by first | exact Option.some_ne_none _ | exact (hR5.some_ (by omega))) (by omega))) hS ?_
          refine D.va 4 rfl (by kernel_rfl) (fun _ _ _ h => h) rfl (fun w' hw => X.loadRow (cs := x.vals) rfl (hR5.low (Below.mono hw hs5.hN) (Nat.le_refl _)) (fun r u hu => flat_row dm_len hxi r u hu) (Nat.zero_lt_succ _) Try.underlying34 rfl (by kernel_rfl)) hS ?_
          refine D.two 5 10 (by kernel_rfl) rfl rfl ?_ ?_
          · have z49 := (hS).le
            refine L.call rfl en_70 rfl (((hs5.ext hS).do_ hP.hok (by omega) x (hxA5.low (Below.mono hS hs5.hN)) (by omega) (by omega))) ?_
            rintro e wA ⟨r', A6, n6, c6, rfl, k1, k2, k3, k4, k5⟩
            refine ⟨_, rfl, ?_⟩
            have hS1 := (hS).trans k4
            refine L.nil ?_
            refine ⟨fun _ => hS1, ?_⟩
            have k5 : Rk.Fr r' s w5 := fun g hg => (k5 g hg).imp id (fun hh => by omega)
            have k4 : Ext _ wA := k4
            try replace hkB := hkB.ext k4
            refine D.va 6 rfl (by kernel_rfl) (fun _ _ _ h => h) rfl (fun w' hw => X.move (by conv => lhs; whnf)) hS1 ?_
            refine D.va 7 rfl (by kernel_rfl) (fun _ _ _ h => h) rfl (fun w' hw => X.extract rfl rfl) hS1 ?_
            refine D.va 8 rfl (by kernel_rfl) (fun _ _ _ h => h) rfl (fun w' hw => X.extract rfl rfl) hS1 ?_
            refine D.va 9 rfl (by kernel_rfl) (fun _ _ _ h => h) rfl (fun w' hw => X.extract rfl rfl) hS1 ?_
            have z11 := (hS1).le
            refine D.one 10 (by kernel_rfl) rfl ?_
            refine L.alloc rfl zr_44 ?_
            intro bB wB hbB hsB hkB heB
            have hS2 := (hS1).trans heB
            refine L.nil ?_
            refine ⟨fun _ => hS2, ?_⟩
            try replace k1 := k1.ext heB
            try replace k3 := k3.ext heB (by have := hs5.hN; omega)
            have hsz := (hS2).le
            refine D.one 11 (by kernel_rfl) rfl ?_
            refine L.storeAgg (vs := [_, _, _, _, _, _, _]) rfl rfl rfl rfl sz_44 (hkB) rfl ?_
            intro wC hkC hgC hsC
            have hS3 := (hS2).grw hgC (by intro g hg; injection hg with hg; omega)
            refine L.nil ?_
            refine ⟨fun _ => hS3, ?_⟩
            have hNN := hs5.hN
            have k1C := k1.blk hkB hgC (by omega)
            have k3C : Rk.RDn N0 wC A6 n6 c6 (s.abs.do_ x.dd).2.1 := k3.imp id fun ⟨h1, h2⟩ => ⟨h1, h2.blk hkB hgC (by omega) (by omega) (by decide)⟩
            refine D.va 12 rfl (by kernel_rfl) (fun _ _ _ h => h) rfl (fun w' hw => X.assign (by conv => lhs; whnf)) hS3 ?_
            refine D.va 13 rfl (by kernel_rfl) (fun _ _ _ h => h) rfl (fun w' hw => X.assign (by conv => lhs; whnf)) hS3 ?_
            refine D.done (by kernel_rfl) ?_
            replace hk45 := hk45.ext hS3
            refine ⟨((r', bB), (A6, n6, c6)), At3 (by first | rfl | exact at_int rfl (by omega) | exact at_slice rfl (by omega) | exact at_int rfl (by simp)) (by first | rfl | exact at_int rfl (by omega) | exact at_slice rfl (by omega) | exact at_int rfl (by simp)) (by first | rfl | exact at_int rfl (by omega) | exact at_slice rfl (by omega) | exact at_int rfl (by simp)), (by (iterate 13 refine Agr.lk rfl ?_); exact Agr.rfl'), ?_⟩
            exact ⟨hkC, k1C, k2, k3C, hS3, k5⟩
          · have z11 := (hS).le
            refine L.alloc rfl zr_44 ?_
            intro bB wB hbB hsB hkB heB
            have hS1 := (hS).trans heB
            refine L.nil ?_
            refine ⟨fun _ => hS1, ?_⟩
            try replace k1 := k1.ext heB
            try replace k3 := k3.ext heB (by have := hs5.hN; omega)
            have z49 := (hS1).le
            refine D.one 5 (by kernel_rfl) rfl ?_
            refine L.call rfl en_70 rfl (((hs5.ext hS1).do_ hP.hok (by omega) x (hxA5.low (Below.mono hS1 hs5.hN)) (by omega) (by omega))) ?_
            rintro e wA ⟨r', A6, n6, c6, rfl, k1, k2, k3, k4, k5⟩
            refine ⟨_, rfl, ?_⟩
            have hS2 := (hS1).trans k4
            refine L.nil ?_
            refine ⟨fun _ => hS2, ?_⟩
            have k5 : Rk.Fr r' s w5 := fun g hg => (k5 g hg).imp id (fun hh => by omega)
            have k4 : Ext _ wA := k4
            try replace hkB := hkB.ext k4
            refine D.va 6 rfl (by kernel_rfl) (fun _ _ _ h => h) rfl (fun w' hw => X.move (by conv => lhs; whnf)) hS2 ?_
            refine D.va 7 rfl (by kernel_rfl) (fun _ _ _ h => h) rfl (fun w' hw => X.extract rfl rfl) hS2 ?_
            refine D.va 8 rfl (by kernel_rfl) (fun _ _ _ h => h) rfl (fun w' hw => X.extract rfl rfl) hS2 ?_
            refine D.va 9 rfl (by kernel_rfl) (fun _ _ _ h => h) rfl (fun w' hw => X.extract rfl rfl) hS2 ?_
            have hsz := (hS2).le
            refine D.one 11 (by kernel_rfl) rfl ?_
            refine L.storeAgg (vs := [_, _, _, _, _, _, _]) rfl rfl rfl rfl sz_44 (hkB) rfl ?_
            intro wC hkC hgC hsC
            have hS3 := (hS2).grw hgC (by intro g hg; injection hg with hg; omega)
            refine L.nil ?_
            refine ⟨fun _ => hS3, ?_⟩
            have hNN := hs5.hN
            have k1C := k1.blk hkB hgC (by omega)
            have k3C : Rk.RDn N0 wC A6 n6 c6 (s.abs.do_ x.dd).2.1 := k3.imp id fun ⟨h1, h2⟩ => ⟨h1, h2.blk hkB hgC (by omega) (by omega) (by decide)⟩
            refine D.va 12 rfl (by kernel_rfl) (fun _ _ _ h => h) rfl (fun w' hw => X.assign (by conv => lhs; whnf)) hS3 ?_
            refine D.va 13 rfl (by kernel_rfl) (fun _ _ _ h => h) rfl (fun w' hw => X.assign (by conv => lhs; whnf)) hS3 ?_
            refine D.done (by kernel_rfl) ?_
            replace hk45 := hk45.ext hS3
            refine ⟨((r', bB), (A6, n6, c6)), At3 (by first | rfl | exact at_int rfl (by omega) | exact at_slice rfl (by omega) | exact at_int rfl (by simp)) (by first | rfl | exact at_int rfl (by omega) | exact at_slice rfl (by omega) | exact at_int rfl (by simp)) (by first | rfl | exact at_int rfl (by omega) | exact at_slice rfl (by omega) | exact at_int rfl (by simp)), (by (iterate 13 refine Agr.lk rfl ?_); exact Agr.rfl'), ?_⟩
            exact ⟨hkC, k1C, k2, k3C, hS3, k5⟩
        · rintro ⟨⟨s', b11⟩, A6, n6, c6⟩ g w6 ⟨hk11, hs6, ha6, hr6, he6, hF6⟩
          dsimp only at hk11 hs6 ha6 hr6 hF6
          have he6 : Ext w5 w6 := he6
          have hk11 : Blk w6 b11 44 #[s'.K, s'.P, .bool s'.off, .int .i64 s'.left, .int .i64 s'.rd, .int .i64 s'.wr, .int .i64 s'.fl] := hk11
          have hk46 := hk45.ext he6
          have hk66 := hk65.ext he6
          have z6 := he6.le
          refine J.seq ?_
          refine J.region ?_
          refine L.va rfl ((by first | exact X.loadAgg rfl (range_l hk11) Try.underlying44 rfl (by kernel_rfl) | exact X.loadAgg rfl (range_blk hk11) Try.underlying44 rfl (by kernel_rfl))) ?_
          -- store
          refine L.storeAgg (vs := [_, _, _, _, _, _, _]) rfl rfl rfl rfl sz_44 (hk46) rfl ?_
          intro w7 hk7 hg7 hs7
          have hk7 : Blk w7 b4 44 #[s'.K, s'.P, .bool s'.off, .int .i64 s'.left, .int .i64 s'.rd, .int .i64 s'.wr, .int .i64 s'.fl] := hk7
          have HU := (q1.ext he6).blk_ hk46 hg7 (by decide) (by decide) (by decide) (by decide)
          have HS := hs6.blk hk46 hg7 (by have := hs5.hN; have := hr.hN; have := g4 b4 rfl; omega)
          have ho57 := (hr5.ext he6).kept hg7 (.inr (own_blk_ne (hr5.ext he6) hk46 (by decide)))
          have hR57 := Reads.of_own ho57
          have hR67 : Reads w7 w7.heap.size 1 A6 n6 (nums .u8 (s.abs.do_ x.dd).2.1) := Rk.RDn.reads (N := N0) (c := c6) (hr6.imp id fun ⟨h1, h2⟩ => ⟨h1, h2.blk hk46 hg7 (by have := hr.hN; have := g4 b4 rfl; omega) hs6.hN (by decide)⟩) HS.hN
          have hk67 := hk66.grown hg7 n46.symm
          have hab7 : u'.abs = s'.abs := by rw [q4, ha6, hP.hab]
          have eo : u'.off = s'.off := congrArg Ds.off hab7
          have el : u'.pp.length = s'.pp.length := by
            have := congrArg (fun d : Ds => d.pend.length) hab7
            rw [u'.plen] at this
            rw [this]
            simp [Rk.abs, abs_]
          have hp' : u'.ptr = u.ptr := by unfold Dk.ptr; rw [q2]
          have HUo : ∀ w', Ext w7 w' → Calls Try.prog 22 #[u.ptr] w' fun e w'' => e = .returned (.bool u'.off) ∧ w' = w'' := fun w' hw => by rw [← hp']; exact (HU.ext hw).off_
          have HUp : ∀ w', Ext w7 w' → Calls Try.prog 23 #[u.ptr] w' fun e w'' => e = .returned (.int .i64 (u'.pp.length : Int)) ∧ w' = w'' := fun w' hw => by rw [← hp']; exact (HU.ext hw).pending_
          refine L.nil ?_
          refine J.seq ?_
          -- draw
          refine J.draw (ℓ := 1000000) (S := Ext w7) mixed (fun w8 hS hS_h => ?_)
          -- t55
          -- t57
          refine D.va 0 rfl (by kernel_rfl) (fun _ _ _ h => h) rfl (fun w' hw => X.move (by conv => lhs; whnf)) hS ?_
          refine D.va 1 rfl (by kernel_rfl) (fun _ _ _ h => h) rfl (fun w' hw => X.conv rfl ((hR57.ext hw).conv (c := c5) Try.underlying30 Try.underlying5 Try.underlying9)) hS ?_
          refine D.va 2 rfl (by kernel_rfl) (fun _ _ _ h => h) rfl (fun w' hw => X.move (by conv => lhs; whnf)) hS ?_
          refine D.va 3 rfl (by kernel_rfl) (fun _ _ _ h => h) rfl (fun w' hw => X.conv rfl ((hR67.ext hw).conv (c := c6) Try.underlying30 Try.underlying5 Try.underlying9)) hS ?_
          refine D.va 4 rfl (by kernel_rfl) (fun _ _ _ h => h) rfl (fun w' hw => X.neqS rfl rfl) hS ?_
          refine D.va 5 rfl (by kernel_rfl) (fun _ _ _ h => h) rfl (fun w' hw => X.move (by conv => lhs; whnf)) hS ?_
          -- case t59
          refine D.caseNdecF (k := 59) rfl (by rw [hP.hab]) ?_
          refine D.va 6 rfl (by kernel_rfl) (fun _ _ _ h => h) rfl (fun w' hw => X.move (by conv => lhs; whnf)) hS ?_
          refine D.va 7 rfl (by kernel_rfl) (fun _ _ _ h => h) rfl (fun w' hw => X.move (by conv => lhs; whnf)) hS ?_
          refine D.va 8 rfl (by kernel_rfl) (fun _ _ _ h => h) rfl (fun w' hw => X.neq rfl rfl) hS ?_
          refine D.va 9 rfl (by kernel_rfl) (fun _ _ _ h => h) rfl (fun w' hw => X.pickF rfl (by conv => lhs; whnf)) hS ?_
          refine D.va 10 rfl (by kernel_rfl) (fun _ _ _ h => h) rfl (fun w' hw => X.move (by conv => lhs; whnf)) hS ?_
          -- case t64
          refine D.caseNdecF (k := 64) rfl (by rw [hP.hab]) ?_
          refine D.va 11 rfl (by kernel_rfl) (fun _ _ _ h => h) rfl (fun w' hw => X.move (by conv => lhs; whnf)) hS ?_
          refine D.va 13 rfl (by kernel_rfl) (fun _ _ _ h => h) rfl (fun w' hw => X.fieldAddr rfl Try.underlying44 rfl sz_4 (by decide)) hS ?_
          refine D.va 14 rfl (by kernel_rfl) (fun _ _ _ h => h) rfl (fun w' hw => X.load rfl sc_4 (by first | exact Ld.blk (hk7.ext hw) rfl)) hS ?_
          -- callfn (*bushel/disk.Disk).Off
          refine D.call 12 rfl (by kernel_rfl) (fun _ _ _ h => h) rfl en_22 rfl (fun w' hw => (HUo w' hw)) hS ?_
          refine D.va 15 rfl (by kernel_rfl) (fun _ _ _ h => h) rfl (fun w' hw => X.neqB rfl rfl Try.underlying4) hS ?_
          refine D.va 16 rfl (by kernel_rfl) (fun _ _ _ h => h) rfl (fun w' hw => X.pickF rfl (by conv => lhs; whnf)) hS ?_
          refine D.va 17 rfl (by kernel_rfl) (fun _ _ _ h => h) rfl (fun w' hw => X.move (by conv => lhs; whnf)) hS ?_
          -- case t71
          refine D.caseBF (k := 71) rfl (by simp [eo]) ?_
          refine D.va 18 rfl (by kernel_rfl) (fun _ _ _ h => h) rfl (fun w' hw => X.move (by conv => lhs; whnf)) hS ?_
          refine D.va 20 rfl (by kernel_rfl) (fun _ _ _ h => h) rfl (fun w' hw => X.fieldAddr rfl Try.underlying44 rfl sz_42 (by decide)) hS ?_
          refine D.va 21 rfl (by kernel_rfl) (fun _ _ _ h => h) rfl (fun w' hw => X.load rfl sc_42 (by first | exact Ld.blk (hk7.ext hw) rfl)) hS ?_
          refine D.va 22 rfl (by kernel_rfl) (fun _ _ _ h => h) rfl (fun w' hw => X.len rfl Try.underlying42) hS ?_
          -- callfn (*bushel/disk.Disk).Pending
          refine D.call 19 rfl (by kernel_rfl) (fun _ _ _ h => h) rfl en_23 rfl (fun w' hw => (HUp w' hw)) hS ?_
          refine D.va 23 rfl (by kernel_rfl) (fun _ _ _ h => h) rfl (fun w' hw => X.neq rfl rfl) hS ?_
          refine D.va 24 rfl (by kernel_rfl) (fun _ _ _ h => h) rfl (fun w' hw => X.pickF rfl (by conv => lhs; whnf)) hS ?_
          refine D.done (by kernel_rfl) ?_
          replace hk7 := hk7.ext hS
          -- cond
          refine J.ndecF rfl (by rw [el]) ?_
          refine J.skip ?_
          refine J.region ?_
          refine L.va rfl (X.move (by conv => lhs; whnf)) ?_
          refine L.va rfl (X.add rfl rfl (by omega)) ?_
          refine L.va rfl (X.assign (by conv => lhs; whnf)) ?_
          refine L.nil ?_
          -- loopend
          refine ⟨(i + 1, u', s'), At1 (by first | rfl | exact at_int rfl (by omega) | exact at_slice rfl (by omega) | exact at_int rfl (by simp)), (by (iterate 32 refine Agr.lk rfl ?_); refine Agr.lk rfl ?_; refine Agr.hav rfl ?_; (iterate 11 refine Agr.lk rfl ?_); refine Agr.lk rfl ?_; refine Agr.hav rfl ?_; (iterate 4 refine Agr.lk rfl ?_); exact Agr.lk rfl (Agr.hav rfl Agr.rfl')), ?_⟩
          have k5 : Kq v.kb v.d C w4 w5 := by rw [← hP.hkb, ← hP.hd]; exact q5
          have K8 := (((hP.hk.trans k5).trans (.of_ext he6)).grw hg7 (g4 b4 rfl)).trans (.of_ext hS)
          have hlt5 : v.kb < w5.heap.size := by
            have := (q1.hk.lt u'.kb rfl).2
            rw [q3, hP.hkb] at this
            exact this
          refine ⟨⟨by dsimp only; omega, ⟨HU.ext hS, q2.trans hP.hd, q3.trans hP.hkb, K8, HS.ext hS, fun hh => ?_, hab7, ?_⟩, hk7, hk67.ext hS⟩, by dsimp only; omega⟩
          · rcases hF6 _ hh with hh | hh
            · exact hP.hne hh
            · omega
          · rw [ha6]
            exact hP.hok.do_ x.dd hxA.hn.2
    · obtain rfl : i = n := by dsimp only at hlt; omega
      have hlu : u.ptr = u.ptr := rfl
      refine J.exit ?_
      refine J.seq ?_
      -- draw
      refine J.draw (ℓ := 1000000) (S := (fun w' => Blk w' b4 44 #[s.K, s.P, .bool s.off, .int .i64 s.left, .int .i64 s.rd, .int .i64 s.wr, .int .i64 s.fl])) mixed (fun w4 hSE hS_h => ?_)
      have hS : ((fun w' => Blk w' b4 44 #[s.K, s.P, .bool s.off, .int .i64 s.left, .int .i64 s.rd, .int .i64 s.wr, .int .i64 s.fl])) w4 := hk4.ext hSE
      -- t80
      -- t82
      refine D.va 0 rfl (by kernel_rfl) (fun _ _ _ h => h) rfl (fun w' hw => X.loadAgg rfl (range_l hw) Try.underlying44 rfl (by kernel_rfl)) hS ?_
      refine D.va 1 rfl (by kernel_rfl) (fun _ _ _ h => h) rfl (fun w' hw => X.move (by conv => lhs; whnf)) hS ?_
      refine D.va 2 rfl (by kernel_rfl) (fun _ _ _ h => h) rfl (fun w' hw => X.loadAgg rfl (range_l hw) Try.underlying44 rfl (by kernel_rfl)) hS ?_
      -- callfn bushel/bushellaw19.is
      refine D.one 3 (by kernel_rfl) rfl ?_
      refine L.call rfl en_71 rfl (((hP.hv.ext hSE).lawis (hP.hr.ext hSE) hP.hab)) ?_
      rintro e w5 ⟨rfl, he5⟩
      refine ⟨_, rfl, ?_⟩
      have hS1 := hS.ext he5
      refine L.nil ?_
      refine ⟨fun _ => hS1, ?_⟩
      have he5 : Ext w4 w5 := he5
      have hk65 := (hk6.ext hSE).ext he5
      -- store
      refine D.one 4 (by kernel_rfl) rfl ?_
      refine L.storeAgg (vs := [_, _, _, _, _, _, _]) rfl rfl rfl rfl sz_44 (hk65) rfl ?_
      intro w6 hk66 hg6 hs6
      have hS2 := hS1.grown hg6 n46
      refine L.nil ?_
      refine ⟨fun _ => hS2, ?_⟩
      refine D.va 5 rfl (by kernel_rfl) (fun _ _ _ h => h) rfl (fun w' hw => X.assign (by conv => lhs; whnf)) hS2 ?_
      refine D.done (by kernel_rfl) ?_
      -- ret
      refine J.ret ?_
      -- results [['ResultVar.cell', 6, 44], ['ResultVar.tmp', 7]]
      have HU := ((hP.hv.ext hSE).ext he5).blk_ hk65 hg6 (by decide) (by decide) (by decide) (by decide)
      have HS := ((hP.hr.ext hSE).ext he5).blk hk65 hg6 (by have := hr.hN; have := g6 b6 rfl; omega)
      refine finCT rfl (run_cell hk66 Try.underlying44 rfl (by kernel_rfl)) ?_
      exact ⟨u, s, rfl, HU, hP.hd, hP.hkb, ((hP.hk.trans (.of_ext hSE)).trans (.of_ext he5)).grw hg6 (g6 b6 rfl), HS, hP.hne, hP.hab, hP.hok.more (by omega)⟩
end Dk
end Go.Proofs.Ytdmfikedojgjbaa
