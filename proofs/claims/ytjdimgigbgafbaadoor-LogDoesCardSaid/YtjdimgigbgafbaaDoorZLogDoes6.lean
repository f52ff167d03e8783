import Derived.Test.YtjdimgigbgafbaaDoorZLogDoes5
/-
  What the law leans on, part 6: LLogDoes.
-/
namespace Go.Proofs.YtjdimgigbgafbaaDoor
set_option maxRecDepth 100000
open Go.RowKit H
open Lo Byts Seal Fram
set_option linter.unusedVariables false
structure DoAt (w0 : World) (v0 : Dk) (b7 b11 i : Nat) (G : Lg) (v : Dk) (r : Rk) (R : Rl) (now : Int) (w : World) : Prop where
  P : Pair w0.heap.size (· < w0.heap.size) G v r R w
  d : v.d = v0.d
  st : R.st = G.st
  ab : r.abs = v.abs
  both : Both v.abs G.st 6 (8 * i + 10)
  ep : now = G.st.ep
  ct : G.st.ct = 4
  k7 : Blk w b7 33 #[r.K, r.P, .bool r.off, .int .i64 r.left, .int .i64 r.rd, .int .i64 r.wr, .int .i64 r.fl]
  k11 : Blk w b11 42 #[.int .i64 (R.st.fr : Int), .int .i64 (R.st.ct : Int), .int .u64 R.st.ep, .int .u64 R.st.nx, R.ss, R.ts, .int .i64 R.st.bad]
  low : Ext w0 w
def y6 : Ds := ⟨List.replicate 6 zZ2, [], false, -1, 0, 0, 0⟩
theorem y6_ok : y6.Ok 5 := by
  refine ⟨by decide, ?_, (fun x hx => by cases hx), by decide, by decide⟩
  intro x hx
  obtain ⟨_, rfl⟩ := List.mem_replicate.1 hx
  exact zZ2_len
theorem y6_by : Byte y6 := by
  refine ⟨?_, (fun x hx => by cases hx)⟩
  intro x hx
  obtain ⟨_, rfl⟩ := List.mem_replicate.1 hx
  exact zZ2_bytes
theorem allF_few {l : List Int} (hl : Bytes l) : ∀ (n p : Nat), l.length - p ≤ n → (allF l p).1.length ≤ l.length - p
  | 0, p, h => by rw [allF_end (by omega)]; exact Nat.zero_le _
  | n + 1, p, h => by
    by_cases h1 : p < l.length
    · by_cases h2 : gE smZ (l.drop p) = 0
      · rw [allF_ok h1 h2]
        have hg := gN_ok (fun z hz => hl z (List.mem_of_mem_drop hz)) h2
        rw [List.length_drop] at hg
        have ih := allF_few hl n (p + gStep (l.drop p)) (by omega)
        show (allF l (p + gStep (l.drop p))).1.length + 1 ≤ _
        omega
      · rw [allF_bad h1 h2]; exact Nat.zero_le _
    · rw [allF_end (by omega)]; exact Nat.zero_le _
set_option maxHeartbeats 40000000 in
theorem law_LogDoes (w : World) (ht : Tab w) (A0 : Option Addr) (n0 c0 : Nat) (xs0 : List ((Nm .i64) × (Nm .i64) × (Nm .u8) × (List (Bool)))) (hn0 : n0 ≤ c0) (hc0 : c0 ≤ maxLen) (hA0 : A0 = none → c0 = 0) (hl0 : LiesSlice w w.heap.size A0 n0 xs0) (x1 : Nm .u32) :
    Calls Tryd.prog 3 #[.slice A0 n0 c0, .int .u32 x1.z] w fun e w' => e = .returned (.bool true) ∧ Below w.heap.size w w' := by
  obtain ⟨ds, hds⟩ := des_of hl0
  have hdn := hds.hn
  have hx1 := x1.u32
  refine enter Tryd.func3 rfl (by kernel_rfl) ?_
  refine J.seq ?_
  refine J.region ?_
  refine L.va rfl (X.assign (by conv => lhs; whnf)) ?_
  refine L.nil ?_
  refine J.seq ?_
  refine J.seq ?_
  refine J.region ?_
  refine L.va rfl (X.move (by conv => lhs; whnf)) ?_
  refine L.call rfl en_6 rfl ((light22 hds (by omega))) ?_
  rintro e _ ⟨rfl, rfl⟩
  refine ⟨_, rfl, ?_⟩
  refine L.va rfl (X.not rfl) ?_
  refine L.nil ?_
  cases hL : lightL ds
  · refine J.iteT rfl ?_
    refine J.seq ?_
    refine J.region ?_
    refine L.call rfl en_7 rfl (awake22 w ht) ?_
    rintro e w1 ⟨rfl, he1⟩
    refine ⟨_, rfl, ?_⟩
    refine L.va rfl (X.assign (by conv => lhs; whnf)) ?_
    refine L.nil ?_
    refine J.ret ?_
    refine thn_ret <| ?_
    refine fin1 ?_
    exact ⟨rfl, he1⟩
  · obtain ⟨l40, lk100⟩ := lightL_of hL
    refine J.iteF rfl ?_
    refine J.skip ?_
    refine J.seq ?_
    refine J.region ?_
    refine L.call rfl en_8 rfl (new_ok 6 (by omega)) ?_
    rintro e w1 ⟨v0, rfl, hv0, k1, k2, k3, k4, k5, k6, k7, he1⟩
    refine ⟨_, rfl, ?_⟩
    have he1 : Ext w w1 := he1
    have a0 : v0.abs = y6 := by
      unfold Dk.abs abs_
      rw [show v0.kp.map (·.2) = v0.dat from rfl, k7, k1, k2, k3, k4, k5, k6]
      rfl
    have hkl : v0.kp.length = 6 := by rw [← v0.klen, a0]; rfl
    refine L.va rfl (X.move (by conv => lhs; whnf)) ?_
    refine L.va rfl (X.extract rfl rfl) ?_
    refine L.va rfl (X.extract rfl rfl) ?_
    refine L.va rfl (X.assign (by conv => lhs; whnf)) ?_
    refine L.va rfl (X.assign (by conv => lhs; whnf)) ?_
    refine L.nil ?_
    refine J.seq ?_
    refine J.seq ?_
    refine J.region ?_
    refine L.va rfl (X.move (by conv => lhs; whnf)) ?_
    refine L.va rfl (X.eqlPn rfl rfl (by kernel_rfl)) ?_
    refine L.va rfl (X.move (by conv => lhs; whnf)) ?_
    refine L.caseBF (k := 30) rfl (by rfl) ?_
    refine L.va rfl (X.move (by conv => lhs; whnf)) ?_
    refine L.va rfl (X.neq rfl rfl) ?_
    refine L.va rfl (X.pickF rfl (by conv => lhs; whnf)) ?_
    refine L.nil ?_
    refine J.iteF rfl ?_
    refine J.skip ?_
    refine J.seq ?_
    refine J.region ?_
    refine L.call rfl en_9 rfl (refnewC (w := w1) 6 (by omega) (N0 := w.heap.size) he1.le) ?_
    rintro e w2 ⟨r0, rfl, hr0, ar0, he2, hK0, hcap0⟩
    refine ⟨_, rfl, ?_⟩
    have he2 : Ext w1 w2 := he2
    have ar0 : r0.abs = y6 := ar0
    refine L.alloc rfl zr_33 ?_
    intro b7 w3 hb7 hs7 hk7 he3
    refine L.storeAgg (vs := [_, _, _, _, _, _, _]) rfl rfl rfl rfl sz_33 (hk7) rfl ?_
    intro w4 hk74 hg4 hs4
    have hk74 : Blk w4 b7 33 #[r0.K, r0.P, .bool r0.off, .int .i64 r0.left, .int .i64 r0.rd, .int .i64 r0.wr, .int .i64 r0.fl] := hk74
    have z1 := he1.le
    have z2 := he2.le
    have z3 := he3.le
    have he14 : Ext w1 w4 := (he2.trans he3).grw hg4 (by intro g hg; injection hg with hg; omega)
    have hv4 := hv0.ext he14
    have hr4 : r0.At w.heap.size w4 := (hr0.ext he3).blkL hk7 hg4 (by omega)
    have z4 := hg4.size
    refine L.nil ?_
    refine J.seq ?_
    refine J.region ?_
    refine L.va rfl (X.move (by conv => lhs; whnf)) ?_
    refine L.va rfl ((by first | exact X.convU rfl is_23 Tryd.underlying35 (by omega) | exact X.convw rfl is_23 Tryd.underlying35)) ?_
    refine L.va rfl (X.assign (by conv => lhs; whnf)) ?_
    refine L.nil ?_
    refine J.seq ?_
    refine J.region ?_
    refine L.va rfl (X.move (by conv => lhs; whnf)) ?_
    refine L.va rfl (X.move (by conv => lhs; whnf)) ?_
    refine L.call rfl en_10 rfl (lopen hv4 (by rw [a0]; exact y6_ok) (by omega) k1 (by rw [a0]; exact y6_by) (tabx ht (he1.trans he14)) ht.size 1 4 (by omega) (by omega) (by omega) x1.z (by omega)) ?_
    rintro e w5 ⟨G5, v5, A5, c5, bs5, rfl, O5⟩
    refine ⟨_, rfl, ?_⟩
    have hC5 := O5.kq.chg
    have nk : ∀ {g t : Nat}, IsT w4 g t → g ≠ v0.kb → t ≠ 105 → t ≠ 107 → ¬ (g = v0.kb ∨ g = v0.d ∨ (IsT w4 g 107 ∧ ¬ g < w.heap.size)) := by
      rintro g t hT h1 h2 h3 (q | q | ⟨q, _⟩)
      · exact h1 q
      · subst q; exact h2 (hT.fun_ hv4.dT)
      · exact h3 (hT.fun_ q)
    have kbl : v0.kb < w1.heap.size := (hv0.hk.lt v0.kb rfl).2
    have hk75 := hC5.blk hk74 (nk hk74.isT (by omega) (by decide) (by decide))
    have rK : r0.K.ownBlock ≠ some v0.kb := fun e => by have := hK0 _ e; omega
    have hr5 : r0.At w.heap.size w5 := by
      refine ⟨hC5.own hr4.hk fun g hg => nk (own_isT hr4.hk hg).1 (fun e => rK (by rw [hg, e])) (by decide) (by decide), hC5.own hr4.hp fun g hg => nk (own_isT hr4.hp hg).1 (fun e => by subst e; exact absurd ((own_isT hr4.hp hg).1.fun_ hv4.kT.1) (by decide)) (by decide) (by decide), fun x hx => ?_, fun x hx => ⟨(hr4.pd x hx).1, ?_⟩, hr4.h1, Nat.le_trans hr4.hN hC5.size⟩
      · exact (hr4.kd x hx).kq hv4 O5.kq (Nat.le_refl _)
      · exact (hr4.pd x hx).2.kq hv4 O5.kq (Nat.le_refl _)
    have low5 : Ext w w5 := Below.trans (he1.trans he14) (hv4.below O5.kq)
    have z5 := hC5.size
    have lC : ∀ x, r0.Cl x → ∀ g, sblk x = some g → g < w4.heap.size := fun x hx g hg => hr4.clt hx hg
    refine L.va rfl (X.move (by conv => lhs; whnf)) ?_
    refine L.va rfl (X.extract rfl rfl) ?_
    refine L.va rfl (X.extract rfl rfl) ?_
    refine L.va rfl (X.extract rfl rfl) ?_
    refine L.va rfl (X.assign (by conv => lhs; whnf)) ?_
    refine L.va rfl (X.assign (by conv => lhs; whnf)) ?_
    refine L.va rfl (X.assign (by conv => lhs; whnf)) ?_
    refine L.nil ?_
    refine J.seq ?_
    refine J.region ?_
    refine L.va rfl ((by first | exact X.loadAgg rfl (range_l hk75) Tryd.underlying33 rfl (by kernel_rfl) | exact X.loadAgg rfl (range_blk hk75) Tryd.underlying33 rfl (by kernel_rfl))) ?_
    refine L.va rfl (X.move (by conv => lhs; whnf)) ?_
    have hkp0 : r0.kp.length = 6 := by
      have : r0.abs.kept.length = r0.kp.length := by simp [Rk.abs, abs_]
      rw [← this, ar0]
      rfl
    have K6 := open22 hr5 hcap0 (by rw [ar0]; exact y6_ok) (by omega) (by have := congrArg Ds.off ar0; exact this) (by rw [ar0]; exact y6_by) 1 4 (by omega) (by omega) (by omega) x1.z (by omega)
    refine L.call rfl en_11 rfl (K6) ?_
    rintro e w6 ⟨r6, R6, Ao6, co6, bs6, rfl, P6⟩
    refine ⟨_, rfl, ?_⟩
    have he6 := P6.he
    have he6 : Ext w5 w6 := he6
    have z6 := he6.le
    have hk76 := hk75.ext he6
    refine L.va rfl (X.move (by conv => lhs; whnf)) ?_
    refine L.va rfl (X.extract rfl rfl) ?_
    refine L.va rfl (X.extract rfl rfl) ?_
    refine L.va rfl (X.extract rfl rfl) ?_
    refine L.va rfl (X.extract rfl rfl) ?_
    refine L.alloc rfl zr_42 ?_
    intro b11 w7 hb11 hs11 hk11 he7
    have z7 := he7.le
    have hk77 := hk76.ext he7
    refine L.storeAgg (vs := [_, _, _, _, _, _, _]) rfl rfl rfl rfl sz_33 (hk77) rfl ?_
    intro w8 hk78 hg8 hs8
    have hk78 : Blk w8 b7 33 #[r6.K, r6.P, .bool r6.off, .int .i64 r6.left, .int .i64 r6.rd, .int .i64 r6.wr, .int .i64 r6.fl] := hk78
    have n7b : b7 ≠ b11 := by have := hk76.lt; omega
    have nb : ∀ {x y : Nat}, x ≠ y → some x ≠ some y := fun hh e => hh (by injection e)
    have hk118 := hk11.grown hg8 (nb n7b.symm)
    have z8 := hg8.size
    refine L.storeAgg (vs := [_, _, _, _, _, _, _]) rfl rfl rfl rfl sz_42 (hk118) rfl ?_
    intro w9 hk119 hg9 hs9
    have hk119 : Blk w9 b11 42 #[.int .i64 (R6.st.fr : Int), .int .i64 (R6.st.ct : Int), .int .u64 R6.st.ep, .int .u64 R6.st.nx, R6.ss, R6.ts, .int .i64 R6.st.bad] := hk119
    have hk79 := hk78.grown hg9 (nb n7b)
    have wb7 : w.heap.size ≤ b7 := by omega
    have wb11 : w.heap.size ≤ b11 := by omega
    have P0 : Pair w.heap.size (· < w.heap.size) G5 v5 r6 R6 w9 := by
      have A : Pair w.heap.size (· < w.heap.size) G5 v5 r6 R6 w6 := by
        refine ⟨O5.at_.ext he6, P6.hr, P6.h.lower (by omega), fun x hx g hg hs => ?_, fun g hg hs => ?_, fun g hg hs => ?_, ?_, fun x hx => (P6.cf x hx).elim (hcap0 x) (fun q => q.2)⟩
        · have h1 := O5.new.s g hs
          have h2 := isT_lt (O5.at_.hs.own hs).1
          rcases P6.cf x hx with q | q
          · have := lC x q g hg
            omega
          · have := q.1 g hg
            omega
        · have h2 := isT_lt (O5.at_.hs.own hs).1
          have h3 := (own_isT P6.h.hs hg).2
          omega
        · have h2 := isT_lt (own_isT O5.at_.ht hs).1
          have h3 := (own_isT P6.h.ht hg).2
          omega
        · rw [O5.kb]
          intro e
          rcases P6.fr_ _ e with q | q
          · exact rK q
          · omega
      exact ((A.ext he7).blk hk77 hg8 wb7).blk hk118 hg9 wb11
    have low9 : Ext w w9 := (((low5.trans he6).trans he7).grw hg8 (by intro g hg; injection hg with hg; omega)).grw hg9 (by intro g hg; injection hg with hg; omega)
    have D0 : DoAt w v0 b7 b11 0 G5 v5 r6 R6 x1.z w9 := by
      have hst := O5.st
      have hab := O5.ab
      refine ⟨P0, O5.d, by rw [P6.st, hst, ar0, a0], by rw [P6.ab, hab, ar0, a0], ?_, by rw [hst]; rfl, by rw [hst]; rfl, hk79, hk119, low9⟩
      rw [hab, hst, a0]
      exact (Both.open_ (n := 6) y6_ok y6_by rfl (by omega) (by omega) (by omega)).more (by omega)
    refine L.va rfl (X.assign (by conv => lhs; whnf)) ?_
    refine L.va rfl (X.assign (by conv => lhs; whnf)) ?_
    refine L.nil ?_
    refine J.seq ?_
    refine J.seq ?_
    refine J.region ?_
    refine L.va rfl (X.move (by conv => lhs; whnf)) ?_
    refine L.va rfl (X.move (by conv => lhs; whnf)) ?_
    refine L.va rfl (X.neq rfl rfl) ?_
    refine L.va rfl (X.move (by conv => lhs; whnf)) ?_
    refine L.caseNdecF (k := 55) rfl (by rfl) ?_
    refine L.va rfl (X.move (by conv => lhs; whnf)) ?_
    refine L.va rfl (X.eqlPn rfl rfl (by kernel_rfl)) ?_
    refine L.va rfl (X.pickF rfl (by conv => lhs; whnf)) ?_
    refine L.nil ?_
    refine J.iteF rfl ?_
    refine J.skip ?_
    refine J.seq ?_
    refine J.seq ?_
    refine J.region ?_
    refine L.va rfl (X.assign (by conv => lhs; whnf)) ?_
    refine L.nil ?_
    refine J.block ?_
    refine J.loop (X := Nat × Lg × Dk × Rk × Rl × Int) [4, 8, 9, 14, 15, 16, 17, 18, 19, 59, 60, 61, 62, 63, 64, 65, 66, 67, 68, 69, 70, 71, 72, 73, 74, 75, 76, 77, 78, 79, 80, 81, 82, 83, 84, 85, 86, 87, 88, 89, 90, 91, 92, 93, 94, 95, 96, 97, 98, 99, 100, 101, 102, 103, 104, 105, 106, 107, 108, 109, 110, 111, 112, 113, 114, 115, 116, 117, 118, 119, 120, 121, 122, 123, 124, 125, 126, 127, 128, 129, 130, 131, 132, 133, 134, 135, 136, 137, 138, 139, 140, 141, 142, 143, 144, 145, 146, 147, 148, 149, 150, 151, 152, 153, 154, 155, 156, 157, 158, 159, 160, 161, 162, 163, 164, 165, 166, 167, 168, 169, 170, 171, 172, 173, 174, 175, 176, 177, 178, 179, 180, 181, 182, 183, 184, 185, 186, 187, 188, 189, 190] (fun (i, G, v, r, R, now) => [(14, .int .i64 (i : Int)), (9, G.ptr), (8, .int .u64 now)]) (fun (i, G, v, r, R, now) w' => i ≤ n0 ∧ DoAt w v0 b7 b11 i G v r R now w') (fun (i, _) => n0 - i) ((0, G5, v5, r6, R6, x1.z)) (At3 (by first | rfl | exact at_int rfl (by omega) | exact at_slice rfl (by omega) | exact at_int rfl (by simp)) (by first | rfl | exact at_int rfl (by omega) | exact at_slice rfl (by omega) | exact at_int rfl (by simp)) (by first | rfl | exact at_int rfl (by omega) | exact at_slice rfl (by omega) | exact at_int rfl (by simp))) ?_ ?_
    · exact ⟨Nat.zero_le _, D0⟩
    · rintro ⟨i, G, v, r, R, now⟩ g w10 ⟨hi, H⟩
      have hds3 := hds.low H.low
      have hR3 := hds3.hr
      have e0 : v.ptr = v0.ptr := by unfold Dk.ptr; rw [H.d]
      have low10 := H.low
      have z10 := low10.le
      refine J.seq ?_
      refine J.seq ?_
      refine J.region ?_
      refine L.va rfl (X.move (by conv => lhs; whnf)) ?_
      refine L.va rfl (X.move (by conv => lhs; whnf)) ?_
      refine L.va rfl (X.len rfl Tryd.underlying22) ?_
      refine L.va rfl (X.lss rfl rfl) ?_
      refine L.nil ?_
      refine J.dec rfl (fun hlt => ?_) (fun hlt => ?_)
      · have hlt : i < n0 := by omega
        obtain ⟨x, hxi, hxm, hxA⟩ := hds3.row hlt
        have hxk := lk100 x hxm
        have hxkl := hxA.hl
        refine J.skip ?_
        refine J.seq ?_
        refine J.block ?_
        refine J.seq ?_
        refine J.region ?_
        refine L.va rfl (X.move (by conv => lhs; whnf)) ?_
        refine L.va rfl (X.move (by conv => lhs; whnf)) ?_
        refine L.va rfl ((by first | exact X.indexAddrn rfl rfl Tryd.underlying22 sz_47 (by first | exact Option.some_ne_none _ | exact hR3.some_ (by omega)) (by omega) | exact X.indexAddr rfl rfl Tryd.underlying22 sz_47 (by first | exact Option.some_ne_none _ | exact hR3.some_ (by omega)) (by omega))) ?_
        refine L.va rfl (X.loadRow (cs := x.vals) rfl hR3 (fun r u hu => flat_row de_len hxi r u hu) (Nat.zero_lt_succ _) Tryd.underlying47 rfl (by kernel_rfl)) ?_
        refine L.alloc rfl zr_47 ?_
        intro b15 w11 hb15 hs15 hk15 he11
        refine L.storeAgg (vs := [_, _, _, _]) rfl rfl rfl rfl sz_47 (hk15) rfl ?_
        intro w12 hk152 hg12 hs12
        have he12 : Ext w10 w12 := he11.grw hg12 (by intro g hg; injection hg with hg; omega)
        have k15 : Blk w12 b15 47 #[.int .i64 x.kind, .int .i64 x.n, .int .u8 x.b, .slice x.kA x.kn x.kc] := hk152
        have z12 := he12.le
        have he12'' : Below w.heap.size w10 w12 := Below.mono he12 z10
        have wb15 : w.heap.size ≤ b15 := by omega
        have n715 : b7 ≠ b15 := by have := H.k7.lt; omega
        have n1115 : b11 ≠ b15 := by have := H.k11.lt; omega
        have P := H.P.ext he12
        have k7 := H.k7.ext he12
        have k11 := H.k11.ext he12
        have BT := H.both
        have hkp : v.kp.length = 6 := by rw [← v.klen]; exact BT.kl
        have hrok : r.abs.Ok (8 * i + 10) := by rw [H.ab]; exact BT.ok
        have low12 : Ext w w12 := low10.trans he12
        have hst := H.st
        have hab := H.ab
        have hep := H.ep
        have hepb := BT.lo.e
        have hct := H.ct
        refine L.nil ?_
        refine J.seq ?_
        refine J.region ?_
        refine L.va rfl (X.assign (by conv => lhs; whnf)) ?_
        refine L.va rfl (X.assign (by conv => lhs; whnf)) ?_
        refine L.nil ?_
        refine J.cut (X := Lg × Dk × Rk × Rl × Int × Int) [4, 8, 9, 16, 17, 18, 19, 69, 70, 71, 72, 73, 74, 75, 76, 77, 78, 79, 80, 81, 82, 83, 84, 85, 86, 87, 88, 89, 90, 91, 92, 93, 94, 95, 96, 97, 98, 99, 100, 101, 102, 103, 104, 105, 106, 107, 108, 109, 110, 111, 112, 113, 114, 115, 116, 117, 118, 119, 120, 121, 122, 123, 124, 125, 126, 127, 128, 129, 130, 131, 132, 133, 134, 135, 136, 137, 138, 139, 140, 141, 142, 143, 144, 145, 146, 147, 148, 149, 150, 151, 152, 153, 154, 155, 156, 157, 158, 159, 160, 161, 162] (fun (G', v', r', R', now', a) => [(8, .int .u64 now'), (9, G'.ptr), (16, .int .i64 a), (17, .int .i64 a)]) (fun (G', v', r', R', now', a) w' => DoAt w v0 b7 b11 (i + 1) G' v' r' R' now' w' ∧ Blk w' b15 47 #[.int .i64 x.kind, .int .i64 x.n, .int .u8 x.b, .slice x.kA x.kn x.kc]) ?_ ?_
        · refine J.seq ?_
          refine J.region ?_
          refine L.va rfl (X.fieldAddr rfl Tryd.underlying47 rfl sz_3 (by decide)) ?_
          refine L.va rfl (X.load rfl sc_3 (by first | exact Ld.blk k15 rfl | exact Ld.blk k7 rfl | exact Ld.blk k11 rfl)) ?_
          refine L.nil ?_
          refine J.block ?_
          refine J.seq ?_
          refine J.region ?_
          refine L.va rfl (X.eql rfl rfl) ?_
          refine L.va rfl (X.assign (by conv => lhs; whnf)) ?_
          refine L.nil ?_
          refine J.dec rfl (fun h0 => ?_) (fun h0 => ?_)
          · refine J.seq ?_
            refine J.region ?_
            refine L.va rfl (X.move (by conv => lhs; whnf)) ?_
            refine L.va rfl ((by first | exact X.loadAgg rfl (range_l k15) Tryd.underlying47 rfl (by kernel_rfl) | exact X.loadAgg rfl (range_blk k15) Tryd.underlying47 rfl (by kernel_rfl) | exact X.loadAgg rfl (range_l k7) Tryd.underlying47 rfl (by kernel_rfl) | exact X.loadAgg rfl (range_blk k7) Tryd.underlying47 rfl (by kernel_rfl) | exact X.loadAgg rfl (range_l k11) Tryd.underlying47 rfl (by kernel_rfl) | exact X.loadAgg rfl (range_blk k11) Tryd.underlying47 rfl (by kernel_rfl))) ?_
            refine L.call rfl en_13 rfl (body22 x w12 hxA.hn hxA.hb) ?_
            rintro e w13 ⟨A13, c13, rfl, ho13, he13⟩
            refine ⟨_, rfl, ?_⟩
            have he13 : Ext w12 w13 := he13
            have bl := x.body_len
            have hby := De.body_bytes hxA.hb
            have P13 := P.ext he13
            obtain ⟨S, hS⟩ : ∃ S, S = appL v.abs G.st x.body := ⟨_, rfl⟩
            have K := lappend P13.at_ BT.ok (by omega) (by rw [hkp]; exact BT.lo) A13 x.body.length c13 x.body (Reads.of_own ho13) hby (by omega)
            rw [← hS] at K
            have BA := BT.app x.body hby
            rw [← hS] at BA
            refine L.call rfl en_12 rfl (K) ?_
            rintro e w14 ⟨rfl, G14, v14, A14, d14, kk14, a14, s14, ch14, g14⟩
            refine ⟨_, rfl, ?_⟩
            have P14 := P13.prog A14 kk14 ch14 g14
            have k714 := P13.at_.blkC ch14 (k7.ext he13)
            have k1114 := P13.at_.blkC ch14 (k11.ext he13)
            have k1514 : Blk w14 b15 47 #[.int .i64 x.kind, .int .i64 x.n, .int .u8 x.b, .slice x.kA x.kn x.kc] := P13.at_.blkC ch14 (k15.ext he13)
            have low14 : Ext w w14 := Below.trans (low12.trans he13) (P13.at_.below ch14)
            have hrk : r.kp.length = 6 := by
              have h1 : r.abs.kept.length = r.kp.length := by simp [Rk.abs, abs_]
              rw [← h1, hab]
              exact BT.kl
            have K82 : ∀ (u : World) (A : Option Addr) (n c : Nat), n = x.body.length → Pair w.heap.size (· < w.heap.size) G14 v14 r R u → Reads u u.heap.size 1 A n (nums .u8 x.body) → Calls Tryd.prog 14 #[r.v, R.v, .slice A n c] u fun e u' => ∃ r' R', e = .returned (.tuple #[r'.v, R'.v, .int .i64 S.2.2]) ∧ RTo r R r' R' w.heap.size S.1 S.2.1 u u' := by
              rintro u A n c rfl hP hrd
              have K := append22 hP.ra hP.R_ hrok (by omega) (by rw [hst, hrk]; exact BT.lo) A x.body.length c x.body hrd hby (by omega)
              rw [hab, hst, ← hS] at K
              exact K
            refine L.va rfl (X.assign (by conv => lhs; whnf)) ?_
            refine L.nil ?_
            refine J.draw (ℓ := 1000000) (S := (fun w' => Blk w' b15 47 #[.int .i64 x.kind, .int .i64 x.n, .int .u8 x.b, .slice x.kA x.kn x.kc])) mixed (fun w15 hqE hq_h => ?_)
            have hq : ((fun w' => Blk w' b15 47 #[.int .i64 x.kind, .int .i64 x.n, .int .u8 x.b, .slice x.kA x.kn x.kc])) w15 := k1514.ext hqE
            have PP := P14.ext hqE
            have k7c := k714.ext hqE
            have k11c := k1114.ext hqE
            have lowc := low14.trans hqE
            refine D.va 2 rfl (by kernel_rfl) (fun _ _ _ h => h) rfl (fun w' hw => X.loadAgg rfl (range_l hw) Tryd.underlying47 rfl (by kernel_rfl)) hq ?_
            refine D.three 0 1 3 (by kernel_rfl) rfl rfl rfl ?_ ?_ ?_
            · refine L.va rfl (X.loadAgg rfl (range_l k7c) Tryd.underlying33 rfl (by kernel_rfl)) ?_
              refine L.nil ?_
              refine ⟨fun _ => hq, ?_⟩
              refine D.two 1 3 (by kernel_rfl) rfl rfl ?_ ?_
              · refine L.va rfl (X.loadAgg rfl (range_l k11c) Tryd.underlying42 rfl (by kernel_rfl)) ?_
                refine L.nil ?_
                refine ⟨fun _ => hq, ?_⟩
                refine D.one 3 (by kernel_rfl) rfl ?_
                refine L.call rfl en_13 rfl ((body22 x _ hxA.hn hxA.hb)) ?_
                rintro e wA ⟨Ab, cb, rfl, hob, heb⟩
                refine ⟨_, rfl, ?_⟩
                have hS1 := (hq).ext heb
                refine L.nil ?_
                refine ⟨fun _ => hS1, ?_⟩
                replace PP := PP.ext heb
                replace k7c := k7c.ext heb
                replace k11c := k11c.ext heb
                replace lowc := lowc.trans heb
                refine D.one 4 (by kernel_rfl) rfl ?_
                refine L.call rfl en_14 rfl ((K82 _ Ab _ cb rfl PP (Reads.of_own hob))) ?_
                rintro e wB ⟨r', R', rfl, Tq⟩
                refine ⟨_, rfl, ?_⟩
                have hS2 := (hS1).ext Tq.he
                refine L.nil ?_
                refine ⟨fun _ => hS2, ?_⟩
                replace PP := PP.ref Tq.hr Tq.h Tq.he Tq.fr Tq.cf Tq.gr
                replace k7c := k7c.ext Tq.he
                replace k11c := k11c.ext Tq.he
                replace lowc := lowc.trans Tq.he
                refine D.va 5 rfl (by kernel_rfl) (fun _ _ _ h => h) rfl (fun w' hw => X.move (by conv => lhs; whnf)) hS2 ?_
                refine D.va 6 rfl (by kernel_rfl) (fun _ _ _ h => h) rfl (fun w' hw => X.extract rfl rfl) hS2 ?_
                refine D.va 7 rfl (by kernel_rfl) (fun _ _ _ h => h) rfl (fun w' hw => X.extract rfl rfl) hS2 ?_
                refine D.va 8 rfl (by kernel_rfl) (fun _ _ _ h => h) rfl (fun w' hw => X.extract rfl rfl) hS2 ?_
                refine D.one 9 (by kernel_rfl) rfl ?_
                refine L.storeAgg (vs := [_, _, _, _, _, _, _]) rfl rfl rfl rfl sz_33 (k7c) rfl ?_
                intro wC k7d hg7' hs7'
                have hS3 := (hS2).grown hg7' (nb n715.symm)
                refine L.nil ?_
                refine ⟨fun _ => hS3, ?_⟩
                replace PP := PP.blk k7c hg7' wb7
                replace lowc := lowc.grw hg7' (by intro g hg; injection hg with hg; omega)
                try replace k11c := k11c.grown hg7' (nb n7b.symm)
                try replace k11d := k11d.grown hg7' (nb n7b.symm)
                refine D.one 10 (by kernel_rfl) rfl ?_
                refine L.storeAgg (vs := [_, _, _, _, _, _, _]) rfl rfl rfl rfl sz_42 (k11c) rfl ?_
                intro wD k11d hg11' hs11'
                have hS4 := (hS3).grown hg11' (nb n1115.symm)
                refine L.nil ?_
                refine ⟨fun _ => hS4, ?_⟩
                replace PP := PP.blk k11c hg11' wb11
                replace lowc := lowc.grw hg11' (by intro g hg; injection hg with hg; omega)
                try replace k7c := k7c.grown hg11' (nb n7b)
                try replace k7d := k7d.grown hg11' (nb n7b)
                refine D.va 11 rfl (by kernel_rfl) (fun _ _ _ h => h) rfl (fun w' hw => X.assign (by conv => lhs; whnf)) hS4 ?_
                refine D.done (by kernel_rfl) ?_
                refine ⟨(G14, v14, r', R', now, S.2.2), At4 (rfl) (at_ptr rfl g14.p.symm) (rfl) (rfl), (by (iterate 19 refine Agr.lk rfl ?_); exact Agr.rfl'), ?_⟩
                exact ⟨⟨PP, d14.trans H.d, by rw [Tq.st, s14], by rw [Tq.ab, a14], by rw [a14, s14]; exact BA.1.more (by omega), by rw [s14, BA.2.2.2]; exact hep, by rw [s14, BA.2.2.1]; exact hct, k7d, k11d, lowc⟩, hS4⟩
              · refine L.call rfl en_13 rfl ((body22 x _ hxA.hn hxA.hb)) ?_
                rintro e wA ⟨Ab, cb, rfl, hob, heb⟩
                refine ⟨_, rfl, ?_⟩
                have hS1 := (hq).ext heb
                refine L.nil ?_
                refine ⟨fun _ => hS1, ?_⟩
                replace PP := PP.ext heb
                replace k7c := k7c.ext heb
                replace k11c := k11c.ext heb
                replace lowc := lowc.trans heb
                refine D.one 1 (by kernel_rfl) rfl ?_
                refine L.va rfl (X.loadAgg rfl (range_l k11c) Tryd.underlying42 rfl (by kernel_rfl)) ?_
                refine L.nil ?_
                refine ⟨fun _ => hS1, ?_⟩
                refine D.one 4 (by kernel_rfl) rfl ?_
                refine L.call rfl en_14 rfl ((K82 _ Ab _ cb rfl PP (Reads.of_own hob))) ?_
                rintro e wB ⟨r', R', rfl, Tq⟩
                refine ⟨_, rfl, ?_⟩
                have hS2 := (hS1).ext Tq.he
                refine L.nil ?_
                refine ⟨fun _ => hS2, ?_⟩
                replace PP := PP.ref Tq.hr Tq.h Tq.he Tq.fr Tq.cf Tq.gr
                replace k7c := k7c.ext Tq.he
                replace k11c := k11c.ext Tq.he
                replace lowc := lowc.trans Tq.he
                refine D.va 5 rfl (by kernel_rfl) (fun _ _ _ h => h) rfl (fun w' hw => X.move (by conv => lhs; whnf)) hS2 ?_
                refine D.va 6 rfl (by kernel_rfl) (fun _ _ _ h => h) rfl (fun w' hw => X.extract rfl rfl) hS2 ?_
                refine D.va 7 rfl (by kernel_rfl) (fun _ _ _ h => h) rfl (fun w' hw => X.extract rfl rfl) hS2 ?_
                refine D.va 8 rfl (by kernel_rfl) (fun _ _ _ h => h) rfl (fun w' hw => X.extract rfl rfl) hS2 ?_
                refine D.one 9 (by kernel_rfl) rfl ?_
                refine L.storeAgg (vs := [_, _, _, _, _, _, _]) rfl rfl rfl rfl sz_33 (k7c) rfl ?_
                intro wC k7d hg7' hs7'
                have hS3 := (hS2).grown hg7' (nb n715.symm)
                refine L.nil ?_
                refine ⟨fun _ => hS3, ?_⟩
                replace PP := PP.blk k7c hg7' wb7
                replace lowc := lowc.grw hg7' (by intro g hg; injection hg with hg; omega)
                try replace k11c := k11c.grown hg7' (nb n7b.symm)
                try replace k11d := k11d.grown hg7' (nb n7b.symm)
                refine D.one 10 (by kernel_rfl) rfl ?_
                refine L.storeAgg (vs := [_, _, _, _, _, _, _]) rfl rfl rfl rfl sz_42 (k11c) rfl ?_
                intro wD k11d hg11' hs11'
                have hS4 := (hS3).grown hg11' (nb n1115.symm)
                refine L.nil ?_
                refine ⟨fun _ => hS4, ?_⟩
                replace PP := PP.blk k11c hg11' wb11
                replace lowc := lowc.grw hg11' (by intro g hg; injection hg with hg; omega)
                try replace k7c := k7c.grown hg11' (nb n7b)
                try replace k7d := k7d.grown hg11' (nb n7b)
                refine D.va 11 rfl (by kernel_rfl) (fun _ _ _ h => h) rfl (fun w' hw => X.assign (by conv => lhs; whnf)) hS4 ?_
                refine D.done (by kernel_rfl) ?_
                refine ⟨(G14, v14, r', R', now, S.2.2), At4 (rfl) (at_ptr rfl g14.p.symm) (rfl) (rfl), (by (iterate 19 refine Agr.lk rfl ?_); exact Agr.rfl'), ?_⟩
                exact ⟨⟨PP, d14.trans H.d, by rw [Tq.st, s14], by rw [Tq.ab, a14], by rw [a14, s14]; exact BA.1.more (by omega), by rw [s14, BA.2.2.2]; exact hep, by rw [s14, BA.2.2.1]; exact hct, k7d, k11d, lowc⟩, hS4⟩
            · refine L.va rfl (X.loadAgg rfl (range_l k11c) Tryd.underlying42 rfl (by kernel_rfl)) ?_
              refine L.nil ?_
              refine ⟨fun _ => hq, ?_⟩
              refine D.two 0 3 (by kernel_rfl) rfl rfl ?_ ?_
              · refine L.va rfl (X.loadAgg rfl (range_l k7c) Tryd.underlying33 rfl (by kernel_rfl)) ?_
                refine L.nil ?_
                refine ⟨fun _ => hq, ?_⟩
                refine D.one 3 (by kernel_rfl) rfl ?_
                refine L.call rfl en_13 rfl ((body22 x _ hxA.hn hxA.hb)) ?_
                rintro e wA ⟨Ab, cb, rfl, hob, heb⟩
                refine ⟨_, rfl, ?_⟩
                have hS1 := (hq).ext heb
                refine L.nil ?_
                refine ⟨fun _ => hS1, ?_⟩
                replace PP := PP.ext heb
                replace k7c := k7c.ext heb
                replace k11c := k11c.ext heb
                replace lowc := lowc.trans heb
                refine D.one 4 (by kernel_rfl) rfl ?_
                refine L.call rfl en_14 rfl ((K82 _ Ab _ cb rfl PP (Reads.of_own hob))) ?_
                rintro e wB ⟨r', R', rfl, Tq⟩
                refine ⟨_, rfl, ?_⟩
                have hS2 := (hS1).ext Tq.he
                refine L.nil ?_
                refine ⟨fun _ => hS2, ?_⟩
                replace PP := PP.ref Tq.hr Tq.h Tq.he Tq.fr Tq.cf Tq.gr
                replace k7c := k7c.ext Tq.he
                replace k11c := k11c.ext Tq.he
                replace lowc := lowc.trans Tq.he
                refine D.va 5 rfl (by kernel_rfl) (fun _ _ _ h => h) rfl (fun w' hw => X.move (by conv => lhs; whnf)) hS2 ?_
                refine D.va 6 rfl (by kernel_rfl) (fun _ _ _ h => h) rfl (fun w' hw => X.extract rfl rfl) hS2 ?_
                refine D.va 7 rfl (by kernel_rfl) (fun _ _ _ h => h) rfl (fun w' hw => X.extract rfl rfl) hS2 ?_
                refine D.va 8 rfl (by kernel_rfl) (fun _ _ _ h => h) rfl (fun w' hw => X.extract rfl rfl) hS2 ?_
                refine D.one 9 (by kernel_rfl) rfl ?_
                refine L.storeAgg (vs := [_, _, _, _, _, _, _]) rfl rfl rfl rfl sz_33 (k7c) rfl ?_
                intro wC k7d hg7' hs7'
                have hS3 := (hS2).grown hg7' (nb n715.symm)
                refine L.nil ?_
                refine ⟨fun _ => hS3, ?_⟩
                replace PP := PP.blk k7c hg7' wb7
                replace lowc := lowc.grw hg7' (by intro g hg; injection hg with hg; omega)
                try replace k11c := k11c.grown hg7' (nb n7b.symm)
                try replace k11d := k11d.grown hg7' (nb n7b.symm)
                refine D.one 10 (by kernel_rfl) rfl ?_
                refine L.storeAgg (vs := [_, _, _, _, _, _, _]) rfl rfl rfl rfl sz_42 (k11c) rfl ?_
                intro wD k11d hg11' hs11'
                have hS4 := (hS3).grown hg11' (nb n1115.symm)
                refine L.nil ?_
                refine ⟨fun _ => hS4, ?_⟩
                replace PP := PP.blk k11c hg11' wb11
                replace lowc := lowc.grw hg11' (by intro g hg; injection hg with hg; omega)
                try replace k7c := k7c.grown hg11' (nb n7b)
                try replace k7d := k7d.grown hg11' (nb n7b)
                refine D.va 11 rfl (by kernel_rfl) (fun _ _ _ h => h) rfl (fun w' hw => X.assign (by conv => lhs; whnf)) hS4 ?_
                refine D.done (by kernel_rfl) ?_
                refine ⟨(G14, v14, r', R', now, S.2.2), At4 (rfl) (at_ptr rfl g14.p.symm) (rfl) (rfl), (by (iterate 19 refine Agr.lk rfl ?_); exact Agr.rfl'), ?_⟩
                exact ⟨⟨PP, d14.trans H.d, by rw [Tq.st, s14], by rw [Tq.ab, a14], by rw [a14, s14]; exact BA.1.more (by omega), by rw [s14, BA.2.2.2]; exact hep, by rw [s14, BA.2.2.1]; exact hct, k7d, k11d, lowc⟩, hS4⟩
              · refine L.call rfl en_13 rfl ((body22 x _ hxA.hn hxA.hb)) ?_
                rintro e wA ⟨Ab, cb, rfl, hob, heb⟩
                refine ⟨_, rfl, ?_⟩
                have hS1 := (hq).ext heb
                refine L.nil ?_
                refine ⟨fun _ => hS1, ?_⟩
                replace PP := PP.ext heb
                replace k7c := k7c.ext heb
                replace k11c := k11c.ext heb
                replace lowc := lowc.trans heb
                refine D.one 0 (by kernel_rfl) rfl ?_
                refine L.va rfl (X.loadAgg rfl (range_l k7c) Tryd.underlying33 rfl (by kernel_rfl)) ?_
                refine L.nil ?_
                refine ⟨fun _ => hS1, ?_⟩
                refine D.one 4 (by kernel_rfl) rfl ?_
                refine L.call rfl en_14 rfl ((K82 _ Ab _ cb rfl PP (Reads.of_own hob))) ?_
                rintro e wB ⟨r', R', rfl, Tq⟩
                refine ⟨_, rfl, ?_⟩
                have hS2 := (hS1).ext Tq.he
                refine L.nil ?_
                refine ⟨fun _ => hS2, ?_⟩
                replace PP := PP.ref Tq.hr Tq.h Tq.he Tq.fr Tq.cf Tq.gr
                replace k7c := k7c.ext Tq.he
                replace k11c := k11c.ext Tq.he
                replace lowc := lowc.trans Tq.he
                refine D.va 5 rfl (by kernel_rfl) (fun _ _ _ h => h) rfl (fun w' hw => X.move (by conv => lhs; whnf)) hS2 ?_
                refine D.va 6 rfl (by kernel_rfl) (fun _ _ _ h => h) rfl (fun w' hw => X.extract rfl rfl) hS2 ?_
                refine D.va 7 rfl (by kernel_rfl) (fun _ _ _ h => h) rfl (fun w' hw => X.extract rfl rfl) hS2 ?_
                refine D.va 8 rfl (by kernel_rfl) (fun _ _ _ h => h) rfl (fun w' hw => X.extract rfl rfl) hS2 ?_
                refine D.one 9 (by kernel_rfl) rfl ?_
                refine L.storeAgg (vs := [_, _, _, _, _, _, _]) rfl rfl rfl rfl sz_33 (k7c) rfl ?_
                intro wC k7d hg7' hs7'
                have hS3 := (hS2).grown hg7' (nb n715.symm)
                refine L.nil ?_
                refine ⟨fun _ => hS3, ?_⟩
                replace PP := PP.blk k7c hg7' wb7
                replace lowc := lowc.grw hg7' (by intro g hg; injection hg with hg; omega)
                try replace k11c := k11c.grown hg7' (nb n7b.symm)
                try replace k11d := k11d.grown hg7' (nb n7b.symm)
                refine D.one 10 (by kernel_rfl) rfl ?_
                refine L.storeAgg (vs := [_, _, _, _, _, _, _]) rfl rfl rfl rfl sz_42 (k11c) rfl ?_
                intro wD k11d hg11' hs11'
                have hS4 := (hS3).grown hg11' (nb n1115.symm)
                refine L.nil ?_
                refine ⟨fun _ => hS4, ?_⟩
                replace PP := PP.blk k11c hg11' wb11
                replace lowc := lowc.grw hg11' (by intro g hg; injection hg with hg; omega)
                try replace k7c := k7c.grown hg11' (nb n7b)
                try replace k7d := k7d.grown hg11' (nb n7b)
                refine D.va 11 rfl (by kernel_rfl) (fun _ _ _ h => h) rfl (fun w' hw => X.assign (by conv => lhs; whnf)) hS4 ?_
                refine D.done (by kernel_rfl) ?_
                refine ⟨(G14, v14, r', R', now, S.2.2), At4 (rfl) (at_ptr rfl g14.p.symm) (rfl) (rfl), (by (iterate 19 refine Agr.lk rfl ?_); exact Agr.rfl'), ?_⟩
                exact ⟨⟨PP, d14.trans H.d, by rw [Tq.st, s14], by rw [Tq.ab, a14], by rw [a14, s14]; exact BA.1.more (by omega), by rw [s14, BA.2.2.2]; exact hep, by rw [s14, BA.2.2.1]; exact hct, k7d, k11d, lowc⟩, hS4⟩
            · refine L.call rfl en_13 rfl ((body22 x _ hxA.hn hxA.hb)) ?_
              rintro e wA ⟨Ab, cb, rfl, hob, heb⟩
              refine ⟨_, rfl, ?_⟩
              have hS1 := (hq).ext heb
              refine L.nil ?_
              refine ⟨fun _ => hS1, ?_⟩
              replace PP := PP.ext heb
              replace k7c := k7c.ext heb
              replace k11c := k11c.ext heb
              replace lowc := lowc.trans heb
              refine D.two 0 1 (by kernel_rfl) rfl rfl ?_ ?_
              · refine L.va rfl (X.loadAgg rfl (range_l k7c) Tryd.underlying33 rfl (by kernel_rfl)) ?_
                refine L.nil ?_
                refine ⟨fun _ => hS1, ?_⟩
                refine D.one 1 (by kernel_rfl) rfl ?_
                refine L.va rfl (X.loadAgg rfl (range_l k11c) Tryd.underlying42 rfl (by kernel_rfl)) ?_
                refine L.nil ?_
                refine ⟨fun _ => hS1, ?_⟩
                refine D.one 4 (by kernel_rfl) rfl ?_
                refine L.call rfl en_14 rfl ((K82 _ Ab _ cb rfl PP (Reads.of_own hob))) ?_
                rintro e wB ⟨r', R', rfl, Tq⟩
                refine ⟨_, rfl, ?_⟩
                have hS2 := (hS1).ext Tq.he
                refine L.nil ?_
                refine ⟨fun _ => hS2, ?_⟩
                replace PP := PP.ref Tq.hr Tq.h Tq.he Tq.fr Tq.cf Tq.gr
                replace k7c := k7c.ext Tq.he
                replace k11c := k11c.ext Tq.he
                replace lowc := lowc.trans Tq.he
                refine D.va 5 rfl (by kernel_rfl) (fun _ _ _ h => h) rfl (fun w' hw => X.move (by conv => lhs; whnf)) hS2 ?_
                refine D.va 6 rfl (by kernel_rfl) (fun _ _ _ h => h) rfl (fun w' hw => X.extract rfl rfl) hS2 ?_
                refine D.va 7 rfl (by kernel_rfl) (fun _ _ _ h => h) rfl (fun w' hw => X.extract rfl rfl) hS2 ?_
                refine D.va 8 rfl (by kernel_rfl) (fun _ _ _ h => h) rfl (fun w' hw => X.extract rfl rfl) hS2 ?_
                refine D.one 9 (by kernel_rfl) rfl ?_
                refine L.storeAgg (vs := [_, _, _, _, _, _, _]) rfl rfl rfl rfl sz_33 (k7c) rfl ?_
                intro wC k7d hg7' hs7'
                have hS3 := (hS2).grown hg7' (nb n715.symm)
                refine L.nil ?_
                refine ⟨fun _ => hS3, ?_⟩
                replace PP := PP.blk k7c hg7' wb7
                replace lowc := lowc.grw hg7' (by intro g hg; injection hg with hg; omega)
                try replace k11c := k11c.grown hg7' (nb n7b.symm)
                try replace k11d := k11d.grown hg7' (nb n7b.symm)
                refine D.one 10 (by kernel_rfl) rfl ?_
                refine L.storeAgg (vs := [_, _, _, _, _, _, _]) rfl rfl rfl rfl sz_42 (k11c) rfl ?_
                intro wD k11d hg11' hs11'
                have hS4 := (hS3).grown hg11' (nb n1115.symm)
                refine L.nil ?_
                refine ⟨fun _ => hS4, ?_⟩
                replace PP := PP.blk k11c hg11' wb11
                replace lowc := lowc.grw hg11' (by intro g hg; injection hg with hg; omega)
                try replace k7c := k7c.grown hg11' (nb n7b)
                try replace k7d := k7d.grown hg11' (nb n7b)
                refine D.va 11 rfl (by kernel_rfl) (fun _ _ _ h => h) rfl (fun w' hw => X.assign (by conv => lhs; whnf)) hS4 ?_
                refine D.done (by kernel_rfl) ?_
                refine ⟨(G14, v14, r', R', now, S.2.2), At4 (rfl) (at_ptr rfl g14.p.symm) (rfl) (rfl), (by (iterate 19 refine Agr.lk rfl ?_); exact Agr.rfl'), ?_⟩
                exact ⟨⟨PP, d14.trans H.d, by rw [Tq.st, s14], by rw [Tq.ab, a14], by rw [a14, s14]; exact BA.1.more (by omega), by rw [s14, BA.2.2.2]; exact hep, by rw [s14, BA.2.2.1]; exact hct, k7d, k11d, lowc⟩, hS4⟩
              · refine L.va rfl (X.loadAgg rfl (range_l k11c) Tryd.underlying42 rfl (by kernel_rfl)) ?_
                refine L.nil ?_
                refine ⟨fun _ => hS1, ?_⟩
                refine D.one 0 (by kernel_rfl) rfl ?_
                refine L.va rfl (X.loadAgg rfl (range_l k7c) Tryd.underlying33 rfl (by kernel_rfl)) ?_
                refine L.nil ?_
                refine ⟨fun _ => hS1, ?_⟩
                refine D.one 4 (by kernel_rfl) rfl ?_
                refine L.call rfl en_14 rfl ((K82 _ Ab _ cb rfl PP (Reads.of_own hob))) ?_
                rintro e wB ⟨r', R', rfl, Tq⟩
                refine ⟨_, rfl, ?_⟩
                have hS2 := (hS1).ext Tq.he
                refine L.nil ?_
                refine ⟨fun _ => hS2, ?_⟩
                replace PP := PP.ref Tq.hr Tq.h Tq.he Tq.fr Tq.cf Tq.gr
                replace k7c := k7c.ext Tq.he
                replace k11c := k11c.ext Tq.he
                replace lowc := lowc.trans Tq.he
                refine D.va 5 rfl (by kernel_rfl) (fun _ _ _ h => h) rfl (fun w' hw => X.move (by conv => lhs; whnf)) hS2 ?_
                refine D.va 6 rfl (by kernel_rfl) (fun _ _ _ h => h) rfl (fun w' hw => X.extract rfl rfl) hS2 ?_
                refine D.va 7 rfl (by kernel_rfl) (fun _ _ _ h => h) rfl (fun w' hw => X.extract rfl rfl) hS2 ?_
                refine D.va 8 rfl (by kernel_rfl) (fun _ _ _ h => h) rfl (fun w' hw => X.extract rfl rfl) hS2 ?_
                refine D.one 9 (by kernel_rfl) rfl ?_
                refine L.storeAgg (vs := [_, _, _, _, _, _, _]) rfl rfl rfl rfl sz_33 (k7c) rfl ?_
                intro wC k7d hg7' hs7'
                have hS3 := (hS2).grown hg7' (nb n715.symm)
                refine L.nil ?_
                refine ⟨fun _ => hS3, ?_⟩
                replace PP := PP.blk k7c hg7' wb7
                replace lowc := lowc.grw hg7' (by intro g hg; injection hg with hg; omega)
                try replace k11c := k11c.grown hg7' (nb n7b.symm)
                try replace k11d := k11d.grown hg7' (nb n7b.symm)
                refine D.one 10 (by kernel_rfl) rfl ?_
                refine L.storeAgg (vs := [_, _, _, _, _, _, _]) rfl rfl rfl rfl sz_42 (k11c) rfl ?_
                intro wD k11d hg11' hs11'
                have hS4 := (hS3).grown hg11' (nb n1115.symm)
                refine L.nil ?_
                refine ⟨fun _ => hS4, ?_⟩
                replace PP := PP.blk k11c hg11' wb11
                replace lowc := lowc.grw hg11' (by intro g hg; injection hg with hg; omega)
                try replace k7c := k7c.grown hg11' (nb n7b)
                try replace k7d := k7d.grown hg11' (nb n7b)
                refine D.va 11 rfl (by kernel_rfl) (fun _ _ _ h => h) rfl (fun w' hw => X.assign (by conv => lhs; whnf)) hS4 ?_
                refine D.done (by kernel_rfl) ?_
                refine ⟨(G14, v14, r', R', now, S.2.2), At4 (rfl) (at_ptr rfl g14.p.symm) (rfl) (rfl), (by (iterate 19 refine Agr.lk rfl ?_); exact Agr.rfl'), ?_⟩
                exact ⟨⟨PP, d14.trans H.d, by rw [Tq.st, s14], by rw [Tq.ab, a14], by rw [a14, s14]; exact BA.1.more (by omega), by rw [s14, BA.2.2.2]; exact hep, by rw [s14, BA.2.2.1]; exact hct, k7d, k11d, lowc⟩, hS4⟩
          · refine J.seq ?_
            refine J.region ?_
            refine L.va rfl (X.eql rfl rfl) ?_
            refine L.va rfl (X.assign (by conv => lhs; whnf)) ?_
            refine L.nil ?_
            refine J.dec rfl (fun h1 => ?_) (fun h1 => ?_)
            · obtain ⟨S, hS⟩ : ∃ S, S = syncL v.abs G.st := ⟨_, rfl⟩
              have K := lsync P.at_ BT.ok (by omega)
              rw [← hS] at K
              have BA := BT.sync
              rw [← hS] at BA
              refine J.seq ?_
              refine J.region ?_
              refine L.va rfl (X.move (by conv => lhs; whnf)) ?_
              refine L.call rfl en_15 rfl (K) ?_
              rintro e w13 ⟨rfl, G13, v13, A13, d13, kk13, a13, s13, ch13, g13⟩
              refine ⟨_, rfl, ?_⟩
              have P13 := P.prog A13 kk13 ch13 g13
              have k713 := P.at_.blkC ch13 k7
              have k1113 := P.at_.blkC ch13 k11
              have k1513 := P.at_.blkC ch13 k15
              have low13 : Ext w w13 := Below.trans low12 (P.at_.below ch13)
              have K2 := sync22 P13.ra P13.R_ hrok (by omega)
              rw [hab, hst, ← hS] at K2
              refine L.va rfl (X.assign (by conv => lhs; whnf)) ?_
              refine L.nil ?_
              refine J.region ?_
              refine L.va rfl ((by first | exact X.loadAgg rfl (range_l k713) Tryd.underlying33 rfl (by kernel_rfl) | exact X.loadAgg rfl (range_blk k713) Tryd.underlying33 rfl (by kernel_rfl) | exact X.loadAgg rfl (range_l k1113) Tryd.underlying33 rfl (by kernel_rfl) | exact X.loadAgg rfl (range_blk k1113) Tryd.underlying33 rfl (by kernel_rfl))) ?_
              refine L.va rfl ((by first | exact X.loadAgg rfl (range_l k713) Tryd.underlying42 rfl (by kernel_rfl) | exact X.loadAgg rfl (range_blk k713) Tryd.underlying42 rfl (by kernel_rfl) | exact X.loadAgg rfl (range_l k1113) Tryd.underlying42 rfl (by kernel_rfl) | exact X.loadAgg rfl (range_blk k1113) Tryd.underlying42 rfl (by kernel_rfl))) ?_
              refine L.call rfl en_16 rfl (K2) ?_
              rintro e w14 ⟨r14, R14, rfl, T14⟩
              refine ⟨_, rfl, ?_⟩
              have he14' : Ext w13 w14 := T14.he
              have P14 := P13.ref T14.hr T14.h T14.he T14.fr T14.cf T14.gr
              have k714 := k713.ext he14'
              have k1114 := k1113.ext he14'
              have k1514 := k1513.ext he14'
              refine L.va rfl (X.move (by conv => lhs; whnf)) ?_
              refine L.va rfl (X.extract rfl rfl) ?_
              refine L.va rfl (X.extract rfl rfl) ?_
              refine L.va rfl (X.extract rfl rfl) ?_
              refine L.storeAgg (vs := [_, _, _, _, _, _, _]) rfl rfl rfl rfl sz_33 (k714) rfl ?_
              intro w15 k715 hg15 hs15'
              have k715 : Blk w15 b7 33 #[r14.K, r14.P, .bool r14.off, .int .i64 r14.left, .int .i64 r14.rd, .int .i64 r14.wr, .int .i64 r14.fl] := k715
              have k1115 := k1114.grown hg15 (nb n7b.symm)
              have k1515 := k1514.grown hg15 (nb n715.symm)
              have P15 := P14.blk k714 hg15 wb7
              refine L.storeAgg (vs := [_, _, _, _, _, _, _]) rfl rfl rfl rfl sz_42 (k1115) rfl ?_
              intro w16 k1116 hg16 hs16
              have k1116 : Blk w16 b11 42 #[.int .i64 (R14.st.fr : Int), .int .i64 (R14.st.ct : Int), .int .u64 R14.st.ep, .int .u64 R14.st.nx, R14.ss, R14.ts, .int .i64 R14.st.bad] := k1116
              have k716 := k715.grown hg16 (nb n7b)
              have k1516 := k1515.grown hg16 (nb n1115.symm)
              have P16 := P15.blk k1115 hg16 wb11
              have low16 : Ext w w16 := ((low13.trans he14').grw hg15 (by intro g hg; injection hg with hg; omega)).grw hg16 (by intro g hg; injection hg with hg; omega)
              refine L.va rfl (X.assign (by conv => lhs; whnf)) ?_
              refine L.nil ?_
              refine ⟨(G13, v13, r14, R14, now, S.2.2), At4 (rfl) (at_ptr rfl g13.p.symm) (rfl) (rfl), (by (iterate 17 refine Agr.lk rfl ?_); exact Agr.rfl'), ?_⟩
              exact ⟨⟨P16, d13.trans H.d, by rw [T14.st, s13], by rw [T14.ab, a13], by rw [a13, s13]; exact BA.1.more (by omega), by rw [s13, BA.2.2.2]; exact hep, by rw [s13, BA.2.2.1]; exact hct, k716, k1116, low16⟩, k1516⟩
            · refine J.seq ?_
              refine J.region ?_
              refine L.va rfl (X.eql rfl rfl) ?_
              refine L.va rfl (X.assign (by conv => lhs; whnf)) ?_
              refine L.nil ?_
              refine J.dec rfl (fun h2 => ?_) (fun h2 => ?_)
              · have hxk12 := (hxA.low he12'').hk
                have K := P.at_.hd.crash_anyF BT.ok (by omega) ⟨4, 0, [], true, x.keep⟩ rfl x.kA x.kn x.kc hxk12 (by omega)
                rw [e0] at K
                obtain ⟨S, hS⟩ : ∃ S, S = v.abs.do_ ⟨4, 0, [], true, x.keep⟩ := ⟨_, rfl⟩
                obtain ⟨c1, c2, c3, c4, c5, c6⟩ := BT.crash x.keep
                rw [← hS] at K c1 c2 c3 c4 c5 c6
                refine J.seq ?_
                refine J.region ?_
                refine L.va rfl (X.assign (by conv => lhs; whnf)) ?_
                refine L.va rfl (X.assign (by conv => lhs; whnf)) ?_
                refine L.nil ?_
                refine J.seq ?_
                refine J.region ?_
                refine L.va rfl (X.move (by conv => lhs; whnf)) ?_
                refine L.va rfl (X.fieldAddr rfl Tryd.underlying47 rfl sz_45 (by decide)) ?_
                refine L.va rfl (X.load rfl sc_45 (by first | exact Ld.blk k15 rfl | exact Ld.blk k7 rfl | exact Ld.blk k11 rfl)) ?_
                refine L.call rfl en_17 rfl (K) ?_
                rintro e w13 ⟨rfl, v13, p1, p2, p3, p4, p5, p6⟩
                refine ⟨_, rfl, ?_⟩
                have A13 := P.at_.disk p1 p2 p5 p6
                have C13 := Kq.ls (G := G) p5
                have P13 := P.prog A13 p3 C13 (Lg.Gr.refl _ _)
                have k713 := P.at_.blkC C13 k7
                have k1113 := P.at_.blkC C13 k11
                have k1513 := P.at_.blkC C13 k15
                have low13 : Ext w w13 := Below.trans low12 (P.at_.hd.below p5)
                have hxk13 := hxk12.low (P.at_.hd.below p5) (Nat.le_refl _)
                have K2 := P13.ra.doC hrok (by omega) ⟨4, 0, none, 0, 0, false, x.kA, x.kn, x.kc, [], x.keep⟩ (M := w.heap.size) P13.ra.hN ⟨Reads.none_, hxk13, (fun z hz => by cases hz), by dsimp only; omega, by dsimp only; exact ⟨Nat.zero_le _, hxkl⟩⟩ (fun hh => by cases hh) (by show 0 ≤ _; omega) (by show x.kn ≤ _; omega)
                have eD : r.abs.do_ (Dm.dd ⟨4, 0, none, 0, 0, false, x.kA, x.kn, x.kc, [], x.keep⟩) = S := by rw [hS, ← hab]; exact do_odd r.abs 4 0 [] x.keep (fun hh => absurd hh (by decide))
                unfold Rk.DoC at K2
                rw [eD] at K2
                refine L.nil ?_
                refine J.seq ?_
                refine J.region ?_
                refine L.va rfl ((by first | exact X.loadAgg rfl (range_l k713) Tryd.underlying33 rfl (by kernel_rfl) | exact X.loadAgg rfl (range_blk k713) Tryd.underlying33 rfl (by kernel_rfl) | exact X.loadAgg rfl (range_l k1113) Tryd.underlying33 rfl (by kernel_rfl) | exact X.loadAgg rfl (range_blk k1113) Tryd.underlying33 rfl (by kernel_rfl) | exact X.loadAgg rfl (range_l k1513) Tryd.underlying33 rfl (by kernel_rfl) | exact X.loadAgg rfl (range_blk k1513) Tryd.underlying33 rfl (by kernel_rfl))) ?_
                refine L.va rfl (X.fieldAddr rfl Tryd.underlying47 rfl sz_45 (by decide)) ?_
                refine L.va rfl (X.load rfl sc_45 (by first | exact Ld.blk k713 rfl | exact Ld.blk k1113 rfl | exact Ld.blk k1513 rfl)) ?_
                refine L.va rfl (X.build (l := [.int .i64 4, .int .i64 0, .slice none 0 0, .bool false, .slice x.kA x.kn x.kc]) (Evs.cons rfl (Evs.cons rfl Evs.nil)) (bld_run Tryd.underlying58 (bp_58 Tryd.underlying58) zr_58 rfl)) ?_
                refine L.call rfl en_18 rfl (K2) ?_
                rintro e w14 ⟨r14, Ao, no, co, rfl, q1, q2, q3, q4, q5, q6, _⟩
                refine ⟨_, rfl, ?_⟩
                have q4 : Ext w13 w14 := q4
                have P14 := P13.ref q1 (P13.R_.ext q4) q4 q5 (q6 rfl) (Rl.Gr.refl _ _)
                have k714 := k713.ext q4
                have k1114 := k1113.ext q4
                have k1514 := k1513.ext q4
                refine L.va rfl (X.move (by conv => lhs; whnf)) ?_
                refine L.va rfl (X.extract rfl rfl) ?_
                refine L.va rfl (X.extract rfl rfl) ?_
                refine L.va rfl (X.extract rfl rfl) ?_
                refine L.storeAgg (vs := [_, _, _, _, _, _, _]) rfl rfl rfl rfl sz_33 (k714) rfl ?_
                intro w15 k715 hg15 hs15'
                have k715 : Blk w15 b7 33 #[r14.K, r14.P, .bool r14.off, .int .i64 r14.left, .int .i64 r14.rd, .int .i64 r14.wr, .int .i64 r14.fl] := k715
                have k1115 := k1114.grown hg15 (nb n7b.symm)
                have k1515 := k1514.grown hg15 (nb n715.symm)
                have P15 := P14.blk k714 hg15 wb7
                have low15 : Ext w w15 := (low13.trans q4).grw hg15 (by intro g hg; injection hg with hg; omega)
                have e15 : v13.ptr = v0.ptr := by rw [← e0]; unfold Dk.ptr; rw [p2]
                have ab15 : r14.abs = v13.abs := by rw [q2, p4]
                rw [← p4] at c1 c2 c3 c6
                have hkp15 : v13.kp.length = 6 := by rw [← v13.klen]; exact c3
                have K8 := lopen P15.at_.hd c1 (by omega) c6 c2 P15.at_.tab ht.size 1 4 (by omega) (by omega) (by omega) now (by rw [hep]; exact hepb)
                rw [e15] at K8
                refine L.nil ?_
                refine J.seq ?_
                refine J.region ?_
                refine L.va rfl (X.move (by conv => lhs; whnf)) ?_
                refine L.va rfl (X.move (by conv => lhs; whnf)) ?_
                refine L.call rfl en_10 rfl (K8) ?_
                rintro e w16 ⟨G16, v16, A16, c16, bs16, rfl, O16⟩
                refine ⟨_, rfl, ?_⟩
                have C16 := Kq.ls (G := G) O16.kq
                have P16 := P15.opn O16.at_ O16.kb O16.kq O16.new
                have k716 := P15.at_.blkC C16 k715
                have k1116 := P15.at_.blkC C16 k1115
                have k1516 := P15.at_.blkC C16 k1515
                have low16 : Ext w w16 := Below.trans low15 (P15.at_.hd.below O16.kq)
                have hrk16 : r14.kp.length = 6 := by
                  have h1 : r14.abs.kept.length = r14.kp.length := by simp [Rk.abs, abs_]
                  rw [← h1, ab15]
                  exact c3
                have K9 := open22 P16.ra P16.cap (by rw [ab15]; exact c1) (by omega) (by have h := congrArg Ds.off ab15; exact h.trans c6) (by rw [ab15]; exact c2) 1 4 (by omega) (by omega) (by omega) now (by rw [hep]; exact hepb)
                refine L.va rfl (X.move (by conv => lhs; whnf)) ?_
                refine L.va rfl (X.extract rfl rfl) ?_
                refine L.va rfl (X.extract rfl rfl) ?_
                refine L.va rfl (X.extract rfl rfl) ?_
                refine L.va rfl (X.assign (by conv => lhs; whnf)) ?_
                refine L.va rfl (X.assign (by conv => lhs; whnf)) ?_
                refine L.va rfl (X.assign (by conv => lhs; whnf)) ?_
                refine L.nil ?_
                refine J.seq ?_
                refine J.region ?_
                refine L.va rfl ((by first | exact X.loadAgg rfl (range_l k716) Tryd.underlying33 rfl (by kernel_rfl) | exact X.loadAgg rfl (range_blk k716) Tryd.underlying33 rfl (by kernel_rfl) | exact X.loadAgg rfl (range_l k1116) Tryd.underlying33 rfl (by kernel_rfl) | exact X.loadAgg rfl (range_blk k1116) Tryd.underlying33 rfl (by kernel_rfl))) ?_
                refine L.va rfl (X.move (by conv => lhs; whnf)) ?_
                refine L.call rfl en_11 rfl (K9) ?_
                rintro e w17 ⟨r17, R17, Ao17, co17, bs17, rfl, P17⟩
                refine ⟨_, rfl, ?_⟩
                have he17 : Ext w16 w17 := P17.he
                have z16 := low16.le
                have z17 := he17.le
                have PP17 := P16.ref P17.hr (P17.h.lower z16) he17 P17.fr_ P17.cf (Rl.Gr.new P17.h)
                have k717 := k716.ext he17
                have k1117 := k1116.ext he17
                have k1517 := k1516.ext he17
                refine L.va rfl (X.move (by conv => lhs; whnf)) ?_
                refine L.va rfl (X.extract rfl rfl) ?_
                refine L.va rfl (X.extract rfl rfl) ?_
                refine L.va rfl (X.extract rfl rfl) ?_
                refine L.va rfl (X.extract rfl rfl) ?_
                refine L.storeAgg (vs := [_, _, _, _, _, _, _]) rfl rfl rfl rfl sz_33 (k717) rfl ?_
                intro w18 k718 hg18 hs18
                have k718 : Blk w18 b7 33 #[r17.K, r17.P, .bool r17.off, .int .i64 r17.left, .int .i64 r17.rd, .int .i64 r17.wr, .int .i64 r17.fl] := k718
                have k1118 := k1117.grown hg18 (nb n7b.symm)
                have k1518 := k1517.grown hg18 (nb n715.symm)
                have P18 := PP17.blk k717 hg18 wb7
                refine L.storeAgg (vs := [_, _, _, _, _, _, _]) rfl rfl rfl rfl sz_42 (k1118) rfl ?_
                intro w19 k1119 hg19 hs19
                have k1119 : Blk w19 b11 42 #[.int .i64 (R17.st.fr : Int), .int .i64 (R17.st.ct : Int), .int .u64 R17.st.ep, .int .u64 R17.st.nx, R17.ss, R17.ts, .int .i64 R17.st.bad] := k1119
                have k719 := k718.grown hg19 (nb n7b)
                have k1519 := k1518.grown hg19 (nb n1115.symm)
                have P19 := P18.blk k1118 hg19 wb11
                have low19 : Ext w w19 := ((low16.trans he17).grw hg18 (by intro g hg; injection hg with hg; omega)).grw hg19 (by intro g hg; injection hg with hg; omega)
                have KP : ∀ {b t n : Nat} {u : Value} {xs : List Value}, t ≠ 33 → t ≠ 42 → w17.ownsRow b t 1 u n xs → w19.ownsRow b t 1 u n xs := fun h1 h2 ho => by
                  have ho18 := ho.kept hg18 (.inr (own_blk_ne ho k717 h1))
                  exact ho18.kept hg19 (.inr (own_blk_ne ho18 k1118 h2))
                have eRR : bs16.map Bo.l = bs17.map Bo.l := by rw [O16.rec_, P17.rec_, ab15]
                have lRR : bs17.length ≤ 1000000 := by
                  have h1 := own_bd P17.row
                  have h2 : (bs17.map Bo.l).length = bs17.length := List.length_map _
                  have h3 := allF_few (opI_ok (s := r14.abs) (by rw [ab15]; exact c2) (fr := 1) now (i := 4) (by rw [ab15, c3]; decide)).sb _ 0 (Nat.le_refl _)
                  have h5 : (recs (opI r14.abs 1 now 4).sm).length = (allF (opI r14.abs 1 now 4).sm 0).1.length := rfl
                  rw [P17.rec_] at h2
                  have h4 := (opI_ok (s := r14.abs) (by rw [ab15]; exact c2) (fr := 1) now (i := 4) (by rw [ab15, c3]; decide)).sl
                  omega
                have KB := bytes22 (A := A16) (B := Ao17) (cA := c16) (cB := co17) (M := w19.heap.size) (as_ := bs16) (bs := bs17) (w := w19) ⟨Reads.of_own (KP (by decide) (by decide) (O16.row.ext he17)), fun b hb => own_reads (KP (by decide) (by decide) ((O16.els b hb).ext he17))⟩ ⟨Reads.of_own (KP (by decide) (by decide) P17.row), fun b hb => own_reads (KP (by decide) (by decide) (P17.els b hb))⟩ (Nat.le_refl _) eRR lRR
                refine L.va rfl (X.assign (by conv => lhs; whnf)) ?_
                refine L.va rfl (X.assign (by conv => lhs; whnf)) ?_
                refine L.nil ?_
                refine J.seq ?_
                refine J.region ?_
                refine L.va rfl (X.move (by conv => lhs; whnf)) ?_
                refine L.va rfl (X.move (by conv => lhs; whnf)) ?_
                refine L.call rfl en_19 rfl (KB) ?_
                rintro e w20 ⟨rfl, he20⟩
                refine ⟨_, rfl, ?_⟩
                have he20 : Ext w19 w20 := he20
                refine L.va rfl (X.not rfl) ?_
                refine L.nil ?_
                refine J.iteF rfl ?_
                refine J.skip ?_
                refine ⟨(G16, v16, r17, R17, now, 0), At4 (by first | rfl | exact at_int rfl (by omega) | exact at_slice rfl (by omega) | exact at_int rfl (by simp)) (by first | rfl | exact at_int rfl (by omega) | exact at_slice rfl (by omega) | exact at_int rfl (by simp)) (by first | rfl | exact at_int rfl (by omega) | exact at_slice rfl (by omega) | exact at_int rfl (by simp)) (by first | rfl | exact at_int rfl (by omega) | exact at_slice rfl (by omega) | exact at_int rfl (by simp)), (by (iterate 47 refine Agr.lk rfl ?_); exact Agr.rfl'), ?_⟩
                refine ⟨⟨P19.ext he20, O16.d.trans (p2.trans H.d), by rw [P17.st, O16.st, ab15], by rw [P17.ab, O16.ab, ab15], ?_, by rw [O16.st]; rfl, by rw [O16.st]; rfl, k719.ext he20, k1119.ext he20, low19.trans he20⟩, k1519.ext he20⟩
                rw [O16.ab, O16.st]
                exact (Both.open_ (n := 6) c1 c2 c3 (by omega) (by omega) (by rw [hep]; exact hepb)).more (by omega)
              · refine J.seq ?_
                refine J.region ?_
                refine L.va rfl (X.eql rfl rfl) ?_
                refine L.va rfl (X.assign (by conv => lhs; whnf)) ?_
                refine L.nil ?_
                refine J.dec rfl (fun h3 => ?_) (fun h3 => ?_)
                · have K := P.at_.hd.stop_anyF ⟨3, x.n, [], true, []⟩ rfl hxA.hn.2
                  rw [e0] at K
                  have BA := BT.stop x.n hxA.hn.2
                  obtain ⟨S, hS⟩ : ∃ S, S = v.abs.do_ ⟨3, x.n, [], true, []⟩ := ⟨_, rfl⟩
                  rw [← hS] at K BA
                  refine J.seq ?_
                  refine J.region ?_
                  refine L.va rfl (X.move (by conv => lhs; whnf)) ?_
                  refine L.va rfl (X.fieldAddr rfl Tryd.underlying47 rfl sz_3 (by decide)) ?_
                  refine L.va rfl (X.load rfl sc_3 (by first | exact Ld.blk k15 rfl | exact Ld.blk k7 rfl | exact Ld.blk k11 rfl)) ?_
                  refine L.call rfl en_20 rfl (K) ?_
                  rintro e w13 ⟨rfl, v13, p1, p2, p3, p4, p5, p6⟩
                  refine ⟨_, rfl, ?_⟩
                  have A13 := P.at_.disk p1 p2 p5 p6
                  have C13 := Kq.ls (G := G) p5
                  have P13 := P.prog A13 p3 C13 (Lg.Gr.refl _ _)
                  have k713 := P.at_.blkC C13 k7
                  have k1113 := P.at_.blkC C13 k11
                  have k1513 := P.at_.blkC C13 k15
                  have low13 : Ext w w13 := Below.trans low12 (P.at_.hd.below p5)
                  have K2 := P13.ra.doC hrok (by omega) ⟨3, x.n, none, 0, 0, false, none, 0, 0, [], []⟩ (M := w.heap.size) P13.ra.hN ⟨Reads.none_, Reads.none_, (fun z hz => by cases hz), hxA.hn, by unfold maxLen; dsimp only; omega⟩ (fun hh => by cases hh) (by show 0 ≤ _; omega) (by show 0 ≤ _; omega)
                  have eD : r.abs.do_ (Dm.dd ⟨3, x.n, none, 0, 0, false, none, 0, 0, [], []⟩) = S := by rw [hS, ← hab]; exact do_odd r.abs 3 x.n [] [] (fun hh => absurd hh (by decide))
                  unfold Rk.DoC at K2
                  rw [eD] at K2
                  refine L.nil ?_
                  refine J.region ?_
                  refine L.va rfl ((by first | exact X.loadAgg rfl (range_l k713) Tryd.underlying33 rfl (by kernel_rfl) | exact X.loadAgg rfl (range_blk k713) Tryd.underlying33 rfl (by kernel_rfl) | exact X.loadAgg rfl (range_l k1113) Tryd.underlying33 rfl (by kernel_rfl) | exact X.loadAgg rfl (range_blk k1113) Tryd.underlying33 rfl (by kernel_rfl) | exact X.loadAgg rfl (range_l k1513) Tryd.underlying33 rfl (by kernel_rfl) | exact X.loadAgg rfl (range_blk k1513) Tryd.underlying33 rfl (by kernel_rfl))) ?_
                  refine L.va rfl (X.fieldAddr rfl Tryd.underlying47 rfl sz_3 (by decide)) ?_
                  refine L.va rfl (X.load rfl sc_3 (by first | exact Ld.blk k713 rfl | exact Ld.blk k1113 rfl | exact Ld.blk k1513 rfl)) ?_
                  refine L.va rfl (X.build (l := [.int .i64 3, .int .i64 x.n, .slice none 0 0, .bool false, .slice none 0 0]) (Evs.cons rfl (Evs.cons rfl Evs.nil)) (bld_run Tryd.underlying58 (bp_58 Tryd.underlying58) zr_58 rfl)) ?_
                  refine L.call rfl en_18 rfl (K2) ?_
                  rintro e w14 ⟨r14, Ao, no, co, rfl, q1, q2, q3, q4, q5, q6, _⟩
                  refine ⟨_, rfl, ?_⟩
                  have q4 : Ext w13 w14 := q4
                  have P14 := P13.ref q1 (P13.R_.ext q4) q4 q5 (q6 rfl) (Rl.Gr.refl _ _)
                  have k714 := k713.ext q4
                  have k1114 := k1113.ext q4
                  have k1514 := k1513.ext q4
                  refine L.va rfl (X.move (by conv => lhs; whnf)) ?_
                  refine L.va rfl (X.extract rfl rfl) ?_
                  refine L.va rfl (X.extract rfl rfl) ?_
                  refine L.va rfl (X.extract rfl rfl) ?_
                  refine L.storeAgg (vs := [_, _, _, _, _, _, _]) rfl rfl rfl rfl sz_33 (k714) rfl ?_
                  intro w15 k715 hg15 hs15'
                  have k715 : Blk w15 b7 33 #[r14.K, r14.P, .bool r14.off, .int .i64 r14.left, .int .i64 r14.rd, .int .i64 r14.wr, .int .i64 r14.fl] := k715
                  have P15 := P14.blk k714 hg15 wb7
                  have low15 : Ext w w15 := (low13.trans q4).grw hg15 (by intro g hg; injection hg with hg; omega)
                  refine L.nil ?_
                  refine ⟨(G, v13, r14, R, now, 0), At4 (by first | rfl | exact at_int rfl (by omega) | exact at_slice rfl (by omega) | exact at_int rfl (by simp)) (by first | rfl | exact at_int rfl (by omega) | exact at_slice rfl (by omega) | exact at_int rfl (by simp)) (by first | rfl | exact at_int rfl (by omega) | exact at_slice rfl (by omega) | exact at_int rfl (by simp)) (by first | rfl | exact at_int rfl (by omega) | exact at_slice rfl (by omega) | exact at_int rfl (by simp)), (by (iterate 23 refine Agr.lk rfl ?_); exact Agr.rfl'), ?_⟩
                  exact ⟨⟨P15, p2.trans H.d, hst, by rw [q2, p4], by rw [p4]; exact BA.1.more (by omega), hep, hct, k715, k1114.grown hg15 (nb n7b.symm), low15⟩, k1514.grown hg15 (nb n715.symm)⟩
                · refine J.seq ?_
                  refine J.region ?_
                  refine L.va rfl (X.eql rfl rfl) ?_
                  refine L.va rfl (X.assign (by conv => lhs; whnf)) ?_
                  refine L.nil ?_
                  refine J.dec rfl (fun h4 => ?_) (fun h4 => ?_)
                  · obtain ⟨ep', hep'⟩ : ∃ e, e = IntKind.u64.wrap x.n := ⟨_, rfl⟩
                    have hepw : 0 ≤ ep' ∧ ep' ≤ 18446744073709551615 := by
                      rw [hep', show IntKind.u64.wrap x.n = x.n % 18446744073709551616 from rfl]
                      omega
                    obtain ⟨S, hS⟩ : ∃ S, S = resetL G.st ep' := ⟨_, rfl⟩
                    have K := lreset P.at_ ep'
                    rw [← hS, hep'] at K
                    have BA := BT.reset ep' hepw
                    rw [← hS] at BA
                    refine J.seq ?_
                    refine J.region ?_
                    refine L.va rfl (X.move (by conv => lhs; whnf)) ?_
                    refine L.va rfl (X.fieldAddr rfl Tryd.underlying47 rfl sz_3 (by decide)) ?_
                    refine L.va rfl (X.load rfl sc_3 (by first | exact Ld.blk k15 rfl | exact Ld.blk k7 rfl | exact Ld.blk k11 rfl)) ?_
                    refine L.va rfl ((by first | exact X.convU rfl is_3 Tryd.underlying35 (by omega) | exact X.convw rfl is_3 Tryd.underlying35)) ?_
                    refine L.call rfl en_21 rfl (K) ?_
                    rintro e w13 ⟨rfl, G13, v13, A13, d13, kk13, a13, s13, ch13, g13⟩
                    refine ⟨_, rfl, ?_⟩
                    have P13 := P.prog A13 kk13 ch13 g13
                    have k713 := P.at_.blkC ch13 k7
                    have k1113 := P.at_.blkC ch13 k11
                    have k1513 := P.at_.blkC ch13 k15
                    have low13 : Ext w w13 := Below.trans low12 (P.at_.below ch13)
                    have K2 := reset22 R w.heap.size w13 P13.R_ P13.ra.hN ep' (by rw [hst]; have := BT.lo.sl; omega)
                    rw [hst, ← hS, hep'] at K2
                    refine L.va rfl (X.assign (by conv => lhs; whnf)) ?_
                    refine L.nil ?_
                    refine J.seq ?_
                    refine J.region ?_
                    refine L.va rfl ((by first | exact X.loadAgg rfl (range_l k1113) Tryd.underlying42 rfl (by kernel_rfl) | exact X.loadAgg rfl (range_blk k1113) Tryd.underlying42 rfl (by kernel_rfl) | exact X.loadAgg rfl (range_l k1513) Tryd.underlying42 rfl (by kernel_rfl) | exact X.loadAgg rfl (range_blk k1513) Tryd.underlying42 rfl (by kernel_rfl))) ?_
                    refine L.va rfl (X.fieldAddr rfl Tryd.underlying47 rfl sz_3 (by decide)) ?_
                    refine L.va rfl (X.load rfl sc_3 (by first | exact Ld.blk k1113 rfl | exact Ld.blk k1513 rfl)) ?_
                    refine L.va rfl ((by first | exact X.convU rfl is_3 Tryd.underlying35 (by omega) | exact X.convw rfl is_3 Tryd.underlying35)) ?_
                    refine L.call rfl en_22 rfl (K2) ?_
                    rintro e w14 ⟨R14, rfl, t1, t2, t3, t4⟩
                    refine ⟨_, rfl, ?_⟩
                    have t3 : Ext w13 w14 := t3
                    have P14 := P13.ref (P13.ra.ext t3) t2 t3 (Rk.Fr.refl _ _) (Rk.CF.same rfl rfl) t4
                    have k714 := k713.ext t3
                    have k1114 := k1113.ext t3
                    have k1514 := k1513.ext t3
                    refine L.va rfl (X.move (by conv => lhs; whnf)) ?_
                    refine L.va rfl (X.extract rfl rfl) ?_
                    refine L.va rfl (X.extract rfl rfl) ?_
                    refine L.storeAgg (vs := [_, _, _, _, _, _, _]) rfl rfl rfl rfl sz_42 (k1114) rfl ?_
                    intro w15 k1115 hg15 hs15'
                    have k1115 : Blk w15 b11 42 #[.int .i64 (R14.st.fr : Int), .int .i64 (R14.st.ct : Int), .int .u64 R14.st.ep, .int .u64 R14.st.nx, R14.ss, R14.ts, .int .i64 R14.st.bad] := k1115
                    have k715 := k714.grown hg15 (nb n7b)
                    have k1515 := k1514.grown hg15 (nb n1115.symm)
                    have P15 := P14.blk k1114 hg15 wb11
                    have low15 : Ext w w15 := (low13.trans t3).grw hg15 (by intro g hg; injection hg with hg; omega)
                    refine L.va rfl (X.assign (by conv => lhs; whnf)) ?_
                    refine L.nil ?_
                    refine J.region ?_
                    refine L.va rfl (X.fieldAddr rfl Tryd.underlying42 rfl sz_35 (by decide)) ?_
                    refine L.va rfl (X.load rfl sc_35 (by first | exact Ld.blk k1115 rfl)) ?_
                    refine L.va rfl (X.assign (by conv => lhs; whnf)) ?_
                    refine L.nil ?_
                    refine ⟨(G13, v13, r, R14, R14.st.ep, S.2), At4 (rfl) (at_ptr rfl g13.p.symm) (rfl) (rfl), (by (iterate 30 refine Agr.lk rfl ?_); exact Agr.rfl'), ?_⟩
                    have eSt : R14.st = G13.st := by rw [t1, s13]
                    exact ⟨⟨P15, d13.trans H.d, eSt, by rw [hab, a13], by rw [a13, s13]; exact BA.1.more (by omega), by rw [eSt], by rw [s13, BA.2.2]; exact hct, k715, k1115, low15⟩, k1515⟩
                  · refine J.skip ?_
                    refine ⟨(G, v, r, R, now, 0), At4 (by first | rfl | exact at_int rfl (by omega) | exact at_slice rfl (by omega) | exact at_int rfl (by simp)) (by first | rfl | exact at_int rfl (by omega) | exact at_slice rfl (by omega) | exact at_int rfl (by simp)) (by first | rfl | exact at_int rfl (by omega) | exact at_slice rfl (by omega) | exact at_int rfl (by simp)) (by first | rfl | exact at_int rfl (by omega) | exact at_slice rfl (by omega) | exact at_int rfl (by simp)), (by (iterate 12 refine Agr.lk rfl ?_); exact Agr.rfl'), ?_⟩
                    exact ⟨⟨P, H.d, hst, hab, BT.more (by omega), hep, hct, k7, k11, low12⟩, k15⟩
        · rintro ⟨G', v', r', R', now', a⟩ g w13 ⟨H', k15'⟩
          have q7 := H'.k7
          have q11 := H'.k11
          have PQ := H'.P
          have e0' : v'.ptr = v0.ptr := by unfold Dk.ptr; rw [H'.d]
          have hsm : R'.st.sm.length = G'.st.sm.length := by rw [H'.st]
          have hpp : r'.pp.length = v'.pp.length := by
            have h1 := congrArg (fun d : Ds => d.pend.length) H'.ab
            simp only [Rk.abs, Dk.abs, abs_, List.length_map] at h1
            exact h1
          have hsl := H'.both.lo.sl
          have hct' := H'.ct
          have KU := fun (w' : World) (hw : Ext w13 w') => lused (PQ.at_.ext hw)
          have KP : ∀ (w' : World) (hw : Ext w13 w'), Calls Tryd.prog 25 #[v0.ptr] w' fun e w'' => e = .returned (.int .i64 (v'.pp.length : Int)) ∧ w' = w'' := fun w' hw => by rw [← e0']; exact (PQ.at_.hd.ext hw).pending_
          refine J.seq ?_
          refine J.draw (ℓ := 1000000) (S := Ext w13) mixed (fun w14 hS hS_h => ?_)
          refine D.va 0 rfl (by kernel_rfl) (fun _ _ _ h => h) rfl (fun w' hw => X.move (by conv => lhs; whnf)) hS ?_
          refine D.va 1 rfl (by kernel_rfl) (fun _ _ _ h => h) rfl (fun w' hw => X.move (by conv => lhs; whnf)) hS ?_
          refine D.va 2 rfl (by kernel_rfl) (fun _ _ _ h => h) rfl (fun w' hw => X.neq rfl rfl) hS ?_
          refine D.va 3 rfl (by kernel_rfl) (fun _ _ _ h => h) rfl (fun w' hw => X.move (by conv => lhs; whnf)) hS ?_
          refine D.caseNdecF (k := 166) rfl (by simp) ?_
          refine D.va 4 rfl (by kernel_rfl) (fun _ _ _ h => h) rfl (fun w' hw => X.move (by conv => lhs; whnf)) hS ?_
          refine D.va 6 rfl (by kernel_rfl) (fun _ _ _ h => h) rfl (fun w' hw => X.fieldAddr rfl Tryd.underlying42 rfl sz_39 (by decide)) hS ?_
          refine D.va 7 rfl (by kernel_rfl) (fun _ _ _ h => h) rfl (fun w' hw => X.load rfl sc_39 (by first | exact Ld.blk (q7.ext hw) rfl | exact Ld.blk (q11.ext hw) rfl)) hS ?_
          refine D.va 8 rfl (by kernel_rfl) (fun _ _ _ h => h) rfl (fun w' hw => X.len rfl Tryd.underlying39) hS ?_
          refine D.call 5 rfl (by kernel_rfl) (fun _ _ _ h => h) rfl en_23 rfl (fun w' hw => (KU w' hw)) hS ?_
          refine D.va 9 rfl (by kernel_rfl) (fun _ _ _ h => h) rfl (fun w' hw => X.neq rfl rfl) hS ?_
          refine D.va 10 rfl (by kernel_rfl) (fun _ _ _ h => h) rfl (fun w' hw => X.pickF rfl (by conv => lhs; whnf)) hS ?_
          refine D.va 11 rfl (by kernel_rfl) (fun _ _ _ h => h) rfl (fun w' hw => X.move (by conv => lhs; whnf)) hS ?_
          refine D.caseNdecF (k := 174) rfl (by rw [hsm]) ?_
          refine D.va 12 rfl (by kernel_rfl) (fun _ _ _ h => h) rfl (fun w' hw => X.move (by conv => lhs; whnf)) hS ?_
          refine D.va 14 rfl (by kernel_rfl) (fun _ _ _ h => h) rfl (fun w' hw => X.fieldAddr rfl Tryd.underlying42 rfl sz_39 (by decide)) hS ?_
          refine D.va 15 rfl (by kernel_rfl) (fun _ _ _ h => h) rfl (fun w' hw => X.load rfl sc_39 (by first | exact Ld.blk (q7.ext hw) rfl | exact Ld.blk (q11.ext hw) rfl)) hS ?_
          refine D.va 16 rfl (by kernel_rfl) (fun _ _ _ h => h) rfl (fun w' hw => X.len rfl Tryd.underlying39) hS ?_
          refine D.va 17 rfl (by kernel_rfl) (fun _ _ _ h => h) rfl (fun w' hw => X.sub rfl rfl (by omega)) hS ?_
          refine D.one 13 (by kernel_rfl) rfl ?_
          refine L.call rfl en_24 rfl ((lroom (PQ.at_.ext hS) (by omega))) ?_
          rintro e w15 ⟨rfl, he15⟩
          refine ⟨_, rfl, ?_⟩
          have hS1 := hS.trans he15
          refine L.nil ?_
          refine ⟨fun _ => hS1, ?_⟩
          have he15 : Ext w14 w15 := he15
          refine D.va 18 rfl (by kernel_rfl) (fun _ _ _ h => h) rfl (fun w' hw => X.neq rfl rfl) hS1 ?_
          refine D.va 19 rfl (by kernel_rfl) (fun _ _ _ h => h) rfl (fun w' hw => X.pickF rfl (by conv => lhs; whnf)) hS1 ?_
          refine D.va 20 rfl (by kernel_rfl) (fun _ _ _ h => h) rfl (fun w' hw => X.move (by conv => lhs; whnf)) hS1 ?_
          refine D.caseNdecF (k := 183) rfl (by rw [hsm, hct']; simp) ?_
          refine D.va 21 rfl (by kernel_rfl) (fun _ _ _ h => h) rfl (fun w' hw => X.move (by conv => lhs; whnf)) hS1 ?_
          refine D.va 23 rfl (by kernel_rfl) (fun _ _ _ h => h) rfl (fun w' hw => X.fieldAddr rfl Tryd.underlying33 rfl sz_31 (by decide)) hS1 ?_
          refine D.va 24 rfl (by kernel_rfl) (fun _ _ _ h => h) rfl (fun w' hw => X.load rfl sc_31 (by first | exact Ld.blk (q7.ext hw) rfl | exact Ld.blk (q11.ext hw) rfl)) hS1 ?_
          refine D.va 25 rfl (by kernel_rfl) (fun _ _ _ h => h) rfl (fun w' hw => X.len rfl Tryd.underlying31) hS1 ?_
          refine D.call 22 rfl (by kernel_rfl) (fun _ _ _ h => h) rfl en_25 rfl (fun w' hw => (KP w' hw)) hS1 ?_
          refine D.va 26 rfl (by kernel_rfl) (fun _ _ _ h => h) rfl (fun w' hw => X.neq rfl rfl) hS1 ?_
          refine D.va 27 rfl (by kernel_rfl) (fun _ _ _ h => h) rfl (fun w' hw => X.pickF rfl (by conv => lhs; whnf)) hS1 ?_
          refine D.done (by kernel_rfl) ?_
          replace q7 := q7.ext hS1
          replace q11 := q11.ext hS1
          refine J.ndecF rfl (by rw [hpp]) ?_
          refine J.skip ?_
          refine J.region ?_
          refine L.va rfl (X.move (by conv => lhs; whnf)) ?_
          refine L.va rfl (X.add rfl rfl (by omega)) ?_
          refine L.va rfl (X.assign (by conv => lhs; whnf)) ?_
          refine L.nil ?_
          refine ⟨(i + 1, G', v', r', R', now'), At3 (by first | rfl | exact at_int rfl (by omega) | exact at_slice rfl (by omega) | exact at_int rfl (by simp)) (by first | rfl | exact at_int rfl (by omega) | exact at_slice rfl (by omega) | exact at_int rfl (by simp)) (by first | rfl | exact at_int rfl (by omega) | exact at_slice rfl (by omega) | exact at_int rfl (by simp)), (by (iterate 34 refine Agr.lk rfl ?_); refine Agr.lk rfl ?_; refine Agr.hav rfl ?_; (iterate 11 refine Agr.lk rfl ?_); exact Agr.lk rfl (Agr.hav rfl Agr.rfl')), ?_⟩
          have he1315 := hS.trans he15
          exact ⟨⟨by omega, PQ.ext he1315, H'.d, H'.st, H'.ab, H'.both, H'.ep, H'.ct, q7, q11, H'.low.trans he1315⟩, by show n0 - (i + 1) < n0 - i; omega⟩
      · obtain rfl : i = n0 := by omega
        have q7 := H.k7
        have eI : v.dat.flatten = (r.kp.map (·.2)).flatten := by
          have h1 : r.abs.kept = v.abs.kept := by rw [H.ab]
          have h2 : r.kp.map (·.2) = v.kp.map (·.2) := h1
          rw [h2]
          rfl
        have KI : ∀ (w' : World) (hw : Ext w10 w'), Calls Tryd.prog 26 #[v0.ptr] w' fun e w'' => ∃ A c, e = .returned (.slice A (v.kp.length * 1024) c) ∧ w''.ownsRow w'.heap.size 5 1 (.slice A (v.kp.length * 1024) c) (v.kp.length * 1024) (nums .u8 v.dat.flatten) ∧ Ext w' w'' := fun w' hw => by rw [← e0]; exact (H.P.at_.hd.ext hw).image_
        refine J.exit ?_
        refine J.seq ?_
        refine J.draw (ℓ := 1000000) (S := Ext w10) mixed (fun w11 hS hS_h => ?_)
        refine D.va 0 rfl (by kernel_rfl) (fun _ _ _ h => h) rfl (fun w' hw => X.move (by conv => lhs; whnf)) hS ?_
        refine D.va 3 rfl (by kernel_rfl) (fun _ _ _ h => h) rfl (fun w' hw => (by first | exact X.loadAgg rfl (range_l (q7.ext hw)) Tryd.underlying33 rfl (by kernel_rfl) | exact X.loadAgg rfl (range_blk (q7.ext hw)) Tryd.underlying33 rfl (by kernel_rfl))) hS ?_
        refine D.one 1 (by kernel_rfl) rfl ?_
        refine L.call rfl en_26 rfl ((KI _ (hS))) ?_
        rintro e wA ⟨Ai, ci, rfl, hoi, hei⟩
        refine ⟨_, rfl, ?_⟩
        have hS1 := (hS).trans hei
        refine L.nil ?_
        refine ⟨fun _ => hS1, ?_⟩
        try replace hoj := hoj.ext hei
        refine D.two 2 4 (by kernel_rfl) rfl rfl ?_ ?_
        · refine L.va rfl (X.conv rfl ((own_reads hoi).conv (c := ci) Tryd.underlying39 Tryd.underlying5 Tryd.underlying9)) ?_
          refine L.nil ?_
          refine ⟨fun _ => hS1, ?_⟩
          refine D.one 4 (by kernel_rfl) rfl ?_
          refine L.call rfl en_27 rfl (((H.P.ra.ext (hS1)).image_)) ?_
          rintro e wB ⟨Aj, cj, rfl, hoj, hej⟩
          refine ⟨_, rfl, ?_⟩
          have hS2 := (hS1).trans hej
          refine L.nil ?_
          refine ⟨fun _ => hS2, ?_⟩
          try replace hoi := hoi.ext hej
          refine D.one 5 (by kernel_rfl) rfl ?_
          refine L.va rfl (X.conv rfl ((own_reads hoj).conv (c := cj) Tryd.underlying39 Tryd.underlying5 Tryd.underlying9)) ?_
          refine L.nil ?_
          refine ⟨fun _ => hS2, ?_⟩
          refine D.va 6 rfl (by kernel_rfl) (fun _ _ _ h => h) rfl (fun w' hw => X.eqlS rfl rfl) hS2 ?_
          refine D.va 7 rfl (by kernel_rfl) (fun _ _ _ h => h) rfl (fun w' hw => X.move (by conv => lhs; whnf)) hS2 ?_
          refine D.caseDecT (k := 198) rfl (by rw [eI]) ?_
          refine D.one 8 (by kernel_rfl) rfl ?_
          refine L.call rfl en_7 rfl ((awake22 _ (H.P.at_.ext (hS2)).tab)) ?_
          rintro e wC ⟨rfl, hek⟩
          refine ⟨_, rfl, ?_⟩
          have hS3 := (hS2).trans hek
          refine L.nil ?_
          refine ⟨fun _ => hS3, ?_⟩
          refine D.va 9 rfl (by kernel_rfl) (fun _ _ _ h => h) rfl (fun w' hw => X.pickT rfl (by conv => lhs; whnf)) hS3 ?_
          refine D.va 10 rfl (by kernel_rfl) (fun _ _ _ h => h) rfl (fun w' hw => X.assign (by conv => lhs; whnf)) hS3 ?_
          refine D.done (by kernel_rfl) ?_
          replace q7 := q7.ext hS3
          refine J.ret ?_
          refine fin1 ?_
          exact ⟨rfl, low10.trans (hS3)⟩
        · refine L.call rfl en_27 rfl (((H.P.ra.ext (hS1)).image_)) ?_
          rintro e wB ⟨Aj, cj, rfl, hoj, hej⟩
          refine ⟨_, rfl, ?_⟩
          have hS2 := (hS1).trans hej
          refine L.nil ?_
          refine ⟨fun _ => hS2, ?_⟩
          try replace hoi := hoi.ext hej
          refine D.two 2 5 (by kernel_rfl) rfl rfl ?_ ?_
          · refine L.va rfl (X.conv rfl ((own_reads hoi).conv (c := ci) Tryd.underlying39 Tryd.underlying5 Tryd.underlying9)) ?_
            refine L.nil ?_
            refine ⟨fun _ => hS2, ?_⟩
            refine D.one 5 (by kernel_rfl) rfl ?_
            refine L.va rfl (X.conv rfl ((own_reads hoj).conv (c := cj) Tryd.underlying39 Tryd.underlying5 Tryd.underlying9)) ?_
            refine L.nil ?_
            refine ⟨fun _ => hS2, ?_⟩
            refine D.va 6 rfl (by kernel_rfl) (fun _ _ _ h => h) rfl (fun w' hw => X.eqlS rfl rfl) hS2 ?_
            refine D.va 7 rfl (by kernel_rfl) (fun _ _ _ h => h) rfl (fun w' hw => X.move (by conv => lhs; whnf)) hS2 ?_
            refine D.caseDecT (k := 198) rfl (by rw [eI]) ?_
            refine D.one 8 (by kernel_rfl) rfl ?_
            refine L.call rfl en_7 rfl ((awake22 _ (H.P.at_.ext (hS2)).tab)) ?_
            rintro e wC ⟨rfl, hek⟩
            refine ⟨_, rfl, ?_⟩
            have hS3 := (hS2).trans hek
            refine L.nil ?_
            refine ⟨fun _ => hS3, ?_⟩
            refine D.va 9 rfl (by kernel_rfl) (fun _ _ _ h => h) rfl (fun w' hw => X.pickT rfl (by conv => lhs; whnf)) hS3 ?_
            refine D.va 10 rfl (by kernel_rfl) (fun _ _ _ h => h) rfl (fun w' hw => X.assign (by conv => lhs; whnf)) hS3 ?_
            refine D.done (by kernel_rfl) ?_
            replace q7 := q7.ext hS3
            refine J.ret ?_
            refine fin1 ?_
            exact ⟨rfl, low10.trans (hS3)⟩
          · refine L.va rfl (X.conv rfl ((own_reads hoj).conv (c := cj) Tryd.underlying39 Tryd.underlying5 Tryd.underlying9)) ?_
            refine L.nil ?_
            refine ⟨fun _ => hS2, ?_⟩
            refine D.one 2 (by kernel_rfl) rfl ?_
            refine L.va rfl (X.conv rfl ((own_reads hoi).conv (c := ci) Tryd.underlying39 Tryd.underlying5 Tryd.underlying9)) ?_
            refine L.nil ?_
            refine ⟨fun _ => hS2, ?_⟩
            refine D.va 6 rfl (by kernel_rfl) (fun _ _ _ h => h) rfl (fun w' hw => X.eqlS rfl rfl) hS2 ?_
            refine D.va 7 rfl (by kernel_rfl) (fun _ _ _ h => h) rfl (fun w' hw => X.move (by conv => lhs; whnf)) hS2 ?_
            refine D.caseDecT (k := 198) rfl (by rw [eI]) ?_
            refine D.one 8 (by kernel_rfl) rfl ?_
            refine L.call rfl en_7 rfl ((awake22 _ (H.P.at_.ext (hS2)).tab)) ?_
            rintro e wC ⟨rfl, hek⟩
            refine ⟨_, rfl, ?_⟩
            have hS3 := (hS2).trans hek
            refine L.nil ?_
            refine ⟨fun _ => hS3, ?_⟩
            refine D.va 9 rfl (by kernel_rfl) (fun _ _ _ h => h) rfl (fun w' hw => X.pickT rfl (by conv => lhs; whnf)) hS3 ?_
            refine D.va 10 rfl (by kernel_rfl) (fun _ _ _ h => h) rfl (fun w' hw => X.assign (by conv => lhs; whnf)) hS3 ?_
            refine D.done (by kernel_rfl) ?_
            replace q7 := q7.ext hS3
            refine J.ret ?_
            refine fin1 ?_
            exact ⟨rfl, low10.trans (hS3)⟩
end Go.Proofs.YtjdimgigbgafbaaDoor
