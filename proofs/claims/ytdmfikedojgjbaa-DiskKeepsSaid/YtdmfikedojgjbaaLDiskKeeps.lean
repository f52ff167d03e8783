/-
  The law DiskKeeps, walked: all deeds and every crash.
-/
import Derived.Test.YtdmfikedojgjbaaWDiskM
import Derived.Test.YtdmfikedojgjbaaDiskKeepsPlain
namespace Go.Proofs.Ytdmfikedojgjbaa
set_option maxRecDepth 100000
open Go.RowKit H
set_option linter.unusedVariables false
theorem own_le {w : World} {base e sz n n' c : Nat} {A : Option Addr} {xs : List Value} (h : w.ownsRow base e sz (.slice A n c) n' xs) : n' ≤ c := by
  rcases h.2 with ⟨h1, rfl⟩ | ⟨b, cap, cur, h1, _, _, h2, _⟩
  · omega
  · injection h1 with _ _ h3
    subst h3
    exact h2
namespace Dk
variable {v : Dk} {N N0 : Nat} {C : Nat → Prop} {w w' : World}
/-- the law's Do with any deed -/
theorem At.lawdoA (h : v.At N C w) {m : Nat} (hok : v.abs.Ok m) (hm : m ≤ 1000000) (hN : N0 ≤ N) (x : Dm) (hx : x.At N0 w) (hdn : x.dn ≤ 1000000) (hkn : x.kn ≤ 1000000) : Calls Try.prog 18 #[v.ptr, x.v] w fun e w' =>
    (∃ y, e = .returned y) ∧ v.To N C (v.abs.doA x.dd) w w' := by
  by_cases hk : 0 ≤ x.kind ∧ x.kind ≤ 4
  · refine (h.lawdo hok hm hN x hx hdn hkn hk).mono fun e w' ⟨A, n, c, he, _, hT⟩ => ⟨⟨_, he⟩, ?_⟩
    unfold Ds.doA
    rw [if_pos (show 0 ≤ x.dd.kind ∧ x.dd.kind ≤ 4 from hk)]
    exact hT
  · have e : v.abs.doA x.dd = v.abs := by
      unfold Ds.doA
      rw [if_neg (show ¬ (0 ≤ x.dd.kind ∧ x.dd.kind ≤ 4) from hk)]
    rw [e]
    refine enter Try.func18 rfl (by kernel_rfl) ?_
    refine J.seq ?_
    refine J.region ?_
    -- box
    refine L.boxA (l := [_, _, _, _, _]) rfl rfl ?_
    intro b1 w1 hb1 hs1 hk1 he1
    refine L.va rfl (X.assign (by conv => lhs; whnf)) ?_
    refine L.va rfl (X.assign (by conv => lhs; whnf)) ?_
    refine L.nil ?_
    refine J.seq ?_
    refine J.seq ?_
    refine J.region ?_
    refine L.va rfl (X.fieldAddr rfl Try.underlying34 rfl sz_3 (by decide)) ?_
    refine L.va rfl (X.load rfl sc_3 (by first | exact Ld.blk hk1 rfl)) ?_
    refine L.nil ?_
    refine J.block ?_
    refine J.seq ?_
    refine J.region ?_
    refine L.va rfl (X.eql rfl rfl) ?_
    refine L.va rfl (X.assign (by conv => lhs; whnf)) ?_
    refine L.nil ?_
    -- cond
    refine J.decF rfl (by omega) ?_
    refine J.seq ?_
    refine J.region ?_
    refine L.va rfl (X.eql rfl rfl) ?_
    refine L.va rfl (X.assign (by conv => lhs; whnf)) ?_
    refine L.nil ?_
    -- cond
    refine J.decF rfl (by omega) ?_
    refine J.seq ?_
    refine J.region ?_
    refine L.va rfl (X.eql rfl rfl) ?_
    refine L.va rfl (X.assign (by conv => lhs; whnf)) ?_
    refine L.nil ?_
    -- cond
    refine J.decF rfl (by omega) ?_
    refine J.seq ?_
    refine J.region ?_
    refine L.va rfl (X.eql rfl rfl) ?_
    refine L.va rfl (X.assign (by conv => lhs; whnf)) ?_
    refine L.nil ?_
    -- cond
    refine J.decF rfl (by omega) ?_
    refine J.seq ?_
    refine J.region ?_
    refine L.va rfl (X.eql rfl rfl) ?_
    refine L.va rfl (X.assign (by conv => lhs; whnf)) ?_
    refine L.nil ?_
    -- cond
    refine J.decF rfl (by omega) ?_
    refine J.skip ?_
    refine J.seq ?_
    refine J.region ?_
    refine L.va rfl (X.assign (by conv => lhs; whnf)) ?_
    refine L.va rfl (X.assign (by conv => lhs; whnf)) ?_
    refine L.nil ?_
    -- ret
    refine J.ret ?_
    refine fin2 ?_
    exact ⟨⟨_, rfl⟩, v, h.ext he1, rfl, rfl, rfl, .of_ext he1⟩
/-- deeds with a disk, one by one -/
structure Rn (v u : Dk) (N : Nat) (C : Nat → Prop) (m : Nat) (w w' : World) : Prop where
  hv : u.At N C w'
  hd : u.d = v.d
  hkb : u.kb = v.kb
  hk : Kq v.kb v.d C w w'
  hok : u.abs.Ok m
  h8 : u.kp.length = 8
theorem Rn.to {u : Dk} {m : Nat} {w'' : World} (h : Rn v u N C m w w') {s : Ds} (ht : u.To N C s w' w'') (hs : s.Ok (m + 1)) (hl : s.kept.length = 8) : ∃ u', Rn v u' N C (m + 1) w w'' ∧ u'.abs = s := by
  obtain ⟨u', q1, q2, q3, q4, q5⟩ := ht
  rw [h.hkb, h.hd] at q5
  refine ⟨u', ⟨q1, q2.trans h.hd, q3.trans h.hkb, h.hk.trans q5, by rw [q4]; exact hs, ?_⟩, q4⟩
  rw [← u'.klen, q4]
  exact hl
theorem Rn.ptr_ {u : Dk} {m : Nat} (h : Rn v u N C m w w') : v.ptr = u.ptr := by unfold Dk.ptr; rw [h.hd]
end Dk
open Dk in
theorem law_DiskKeeps (w : World) (A0 : Option Addr) (n0 c0' : Nat) (xs0 : List ((Nm .i64) × (Nm .i64) × (List (Nm .u8)) × (Bool) × (List (Bool)))) (hn0 : n0 ≤ c0') (hc0 : c0' ≤ maxLen) (hA0 : A0 = none → c0' = 0) (hl0 : LiesSlice w w.heap.size A0 n0 xs0) (A1 : Option Addr) (n1 c1 : Nat) (xs1 : List ((Nm .i64) × (Nm .i64) × (List (Nm .u8)) × (Bool) × (List (Bool)))) (hn1 : n1 ≤ c1) (hc1 : c1 ≤ maxLen) (hA1 : A1 = none → c1 = 0) (hl1 : LiesSlice w w.heap.size A1 n1 xs1) (A2 : Option Addr) (n2 c2 : Nat) (xs2 : List (Bool)) (hn2 : n2 ≤ c2) (hc2 : c2 ≤ maxLen) (hA2 : A2 = none → c2 = 0) (hl2 : LiesSlice w w.heap.size A2 n2 xs2) :
    Calls Try.prog 3 #[.slice A0 n0 c0', .slice A1 n1 c1, .slice A2 n2 c2] w fun e w' => e = .returned (.bool true) ∧ Below w.heap.size w w' := by
  obtain ⟨ds0, hd0⟩ := deeds_of hl0
  obtain ⟨ds1, hd1⟩ := deeds_of hl1
  have hr2 := hl2.bools
  unfold maxLen at hc2
  refine enter Try.func3 rfl (by kernel_rfl) ?_
  refine J.seq ?_
  refine J.region ?_
  refine L.va rfl (X.assign (by conv => lhs; whnf)) ?_
  refine L.nil ?_
  -- until
  refine J.cut (X := Unit) [6, 16, 17, 18, 19, 20, 21, 22, 23, 24, 25, 26, 27, 28, 29] (fun _ => []) (fun _ w' => w' = w ∧ lightD ds0 = true ∧ lightD ds1 = true ∧ n2 ≤ 100) ?_ ?_
  · refine J.seq ?_
    refine J.region ?_
    refine L.va rfl (X.move (by conv => lhs; whnf)) ?_
    -- callfn bushel/bushelref19.Light
    refine L.call rfl en_15 rfl ((light_ hd0 (by omega))) ?_
    rintro e _ ⟨rfl, rfl⟩
    refine ⟨_, rfl, ?_⟩
    refine L.va rfl (X.not rfl) ?_
    refine L.va rfl (X.move (by conv => lhs; whnf)) ?_
    -- case t19
    refine L.caseB (k := 19) rfl (fun h0 => ?_) (fun h0 => ?_)
    · refine L.no rfl ?_
      refine L.no rfl ?_
      refine L.no rfl ?_
      refine L.va rfl (X.pickT rfl (by conv => lhs; whnf)) ?_
      refine L.va rfl (X.move (by conv => lhs; whnf)) ?_
      refine L.no rfl ?_
      refine L.no rfl ?_
      refine L.no rfl ?_
      refine L.va rfl (X.pickT rfl (by conv => lhs; whnf)) ?_
      refine L.nil ?_
      -- cond
      refine J.iteT rfl ?_
      refine J.seq ?_
      refine J.region ?_
      -- callfn bushel/bushellaw19.awake
      refine L.call rfl en_16 rfl (awake19 w) ?_
      rintro e w1 ⟨rfl, he1⟩
      refine ⟨_, rfl, ?_⟩
      refine L.va rfl (X.assign (by conv => lhs; whnf)) ?_
      refine L.nil ?_
      -- ret
      refine J.ret ?_
      refine thn_ret <| ?_
      refine fin1 ?_
      exact ⟨rfl, he1⟩
    · refine L.va rfl (X.move (by conv => lhs; whnf)) ?_
      -- callfn bushel/bushelref19.Light
      refine L.call rfl en_15 rfl ((light_ hd1 (by omega))) ?_
      rintro e _ ⟨rfl, rfl⟩
      refine ⟨_, rfl, ?_⟩
      refine L.va rfl (X.not rfl) ?_
      refine L.va rfl (X.pickF rfl (by conv => lhs; whnf)) ?_
      refine L.va rfl (X.move (by conv => lhs; whnf)) ?_
      -- case t24
      refine L.caseB (k := 24) rfl (fun h1 => ?_) (fun h1 => ?_)
      · refine L.no rfl ?_
        refine L.no rfl ?_
        refine L.no rfl ?_
        refine L.va rfl (X.pickT rfl (by conv => lhs; whnf)) ?_
        refine L.nil ?_
        -- cond
        refine J.iteT rfl ?_
        refine J.seq ?_
        refine J.region ?_
        -- callfn bushel/bushellaw19.awake
        refine L.call rfl en_16 rfl (awake19 w) ?_
        rintro e w1 ⟨rfl, he1⟩
        refine ⟨_, rfl, ?_⟩
        refine L.va rfl (X.assign (by conv => lhs; whnf)) ?_
        refine L.nil ?_
        -- ret
        refine J.ret ?_
        refine thn_ret <| ?_
        refine fin1 ?_
        exact ⟨rfl, he1⟩
      · refine L.va rfl (X.move (by conv => lhs; whnf)) ?_
        refine L.va rfl (X.len rfl Try.underlying23) ?_
        refine L.va rfl (X.gtr rfl rfl) ?_
        refine L.va rfl (X.pickF rfl (by conv => lhs; whnf)) ?_
        refine L.nil ?_
        -- cond
        refine J.dec rfl (fun h2 => ?_) (fun h2 => ?_)
        · refine J.seq ?_
          refine J.region ?_
          -- callfn bushel/bushellaw19.awake
          refine L.call rfl en_16 rfl (awake19 w) ?_
          rintro e w1 ⟨rfl, he1⟩
          refine ⟨_, rfl, ?_⟩
          refine L.va rfl (X.assign (by conv => lhs; whnf)) ?_
          refine L.nil ?_
          -- ret
          refine J.ret ?_
          refine thn_ret <| ?_
          refine fin1 ?_
          exact ⟨rfl, he1⟩
        · refine J.skip ?_
          -- cutend
          refine ⟨(), At0 , (by (iterate 15 refine Agr.lk rfl ?_); exact Agr.rfl'), ?_⟩
          exact ⟨rfl, by simpa using h0, by simpa using h1, by omega⟩
  · rintro ⟨⟩ g w0 ⟨rfl, L0, L1, L2⟩
    obtain ⟨l0, lx0⟩ := light_of L0
    obtain ⟨l1, lx1⟩ := light_of L1
    have hlen0 := hd0.hn
    have hlen1 := hd1.hn
    refine J.seq ?_
    refine J.region ?_
    -- callfn bushel/disk.New
    refine L.call rfl en_17 rfl (new_ok 8 (by omega)) ?_
    rintro e w1 ⟨v, rfl, hv, k1, k2, k3, k4, k5, k6, k7, he1⟩
    refine ⟨_, rfl, ?_⟩
    have he1 : Ext w0 w1 := he1
    have a0 : v.abs = ⟨(List.range 8).map (fun _ => List.replicate 1024 0), [], false, -1, 0, 0, 0⟩ := by
      unfold Dk.abs abs_
      rw [show v.kp.map (·.2) = v.dat from rfl, k7, k1, k2, k3, k4, k5, k6]
      rfl
    have hok : v.abs.Ok 0 := by
      rw [a0]
      refine ⟨by simp, ?_, (fun x hx => by cases hx), by simp, by dsimp only; omega⟩
      intro x hx
      obtain ⟨_, _, rfl⟩ := List.mem_map.1 hx
      simp
    have h8 : v.kp.length = 8 := by rw [← v.klen, a0]; rfl
    have R0 : Rn v v w0.heap.size (· < w0.heap.size) 0 w1 w1 := ⟨hv, rfl, rfl, Kq.refl _ _ _ _, hok, h8⟩
    have below : ∀ {w2 : World}, Kq v.kb v.d (· < w0.heap.size) w1 w2 → Ext w0 w2 := fun k => Below.trans he1 (hv.below k)
    refine L.va rfl (X.move (by conv => lhs; whnf)) ?_
    refine L.va rfl (X.extract rfl rfl) ?_
    refine L.va rfl (X.extract rfl rfl) ?_
    refine L.va rfl (X.assign (by conv => lhs; whnf)) ?_
    refine L.va rfl (X.assign (by conv => lhs; whnf)) ?_
    refine L.nil ?_
    refine J.seq ?_
    refine J.seq ?_
    refine J.region ?_
    refine L.va rfl (X.move (by conv => lhs; whnf)) ?_
    refine L.va rfl (X.eqlPn rfl rfl (by kernel_rfl)) ?_
    refine L.va rfl (X.move (by conv => lhs; whnf)) ?_
    -- case t36
    refine L.caseBF (k := 36) rfl (by rfl) ?_
    refine L.va rfl (X.move (by conv => lhs; whnf)) ?_
    refine L.va rfl (X.neq rfl rfl) ?_
    refine L.va rfl (X.pickF rfl (by conv => lhs; whnf)) ?_
    refine L.nil ?_
    -- cond
    refine J.iteF rfl ?_
    refine J.skip ?_
    -- until
    refine J.cut (X := Dk) [9, 40, 41, 42, 43, 44, 45, 46, 47, 48, 49, 50, 51] (fun _ => []) (fun u w' => Rn v u w0.heap.size (· < w0.heap.size) n0 w1 w') ?_ ?_
    · refine J.seq ?_
      refine J.region ?_
      refine L.va rfl (X.assign (by conv => lhs; whnf)) ?_
      refine L.nil ?_
      refine J.block ?_
      -- loop
      refine J.loop (X := Nat × Dk) [9, 40, 41, 42, 43, 44, 45, 46, 47, 48, 49, 50, 51] (fun x => [(9, .int .i64 (x.1 : Int))]) (fun x w' => x.1 ≤ n0 ∧ Rn v x.2 w0.heap.size (· < w0.heap.size) x.1 w1 w') (fun x => n0 - x.1) ((0, v)) (At1 (by first | rfl | exact at_int rfl (by omega) | exact at_slice rfl (by omega) | exact at_int rfl (by simp))) ?_ ?_
      · exact ⟨Nat.zero_le _, R0⟩
      · rintro ⟨i, u⟩ g w2 ⟨hi, R⟩
        dsimp only at hi R
        have q1 : ((i, u) : Nat × Dk).1 = i := rfl
        have he2 := below R.hk
        have hx2 := hd0.low he2
        have hR2 := hx2.hr
        refine J.seq ?_
        refine J.seq ?_
        refine J.region ?_
        refine L.va rfl (X.move (by conv => lhs; whnf)) ?_
        refine L.va rfl (X.move (by conv => lhs; whnf)) ?_
        refine L.va rfl (X.len rfl Try.underlying22) ?_
        refine L.va rfl (X.lss rfl rfl) ?_
        refine L.nil ?_
        -- cond
        refine J.dec rfl (fun hlt => ?_) (fun hlt => ?_)
        · have hil : i < n0 := by dsimp only at hlt; omega
          obtain ⟨x, hxi, hxm, hxA⟩ := hx2.row hil
          obtain ⟨lx, lx'⟩ := lx0 x hxm
          -- t50
          have cD := R.hv.lawdoA R.hok (by omega) (Nat.le_refl _) x hxA (by omega) (by omega)
          rw [← R.ptr_] at cD
          refine J.skip ?_
          refine J.seq ?_
          refine J.block ?_
          refine J.region ?_
          refine L.va rfl (X.move (by conv => lhs; whnf)) ?_
          refine L.va rfl (X.move (by conv => lhs; whnf)) ?_
          refine L.va rfl (X.move (by conv => lhs; whnf)) ?_
          refine L.va rfl ((by first | exact X.indexAddrn rfl rfl Try.underlying22 sz_34 (by first | exact Option.some_ne_none _ | exact hR2.some_ (by omega)) (by omega) | exact X.indexAddr rfl rfl Try.underlying22 sz_34 (by first | exact Option.some_ne_none _ | exact hR2.some_ (by omega)) (by omega))) ?_
          refine L.va rfl (X.loadRow (cs := x.vals) rfl hR2 (fun r u hu => flat_row dm_len hxi r u hu) (Nat.zero_lt_succ _) Try.underlying34 rfl (by kernel_rfl)) ?_
          -- callfn bushel/bushellaw19.Do
          refine L.call rfl en_18 rfl (cD) ?_
          rintro e w3 ⟨⟨y, rfl⟩, hT⟩
          refine ⟨_, rfl, ?_⟩
          obtain ⟨u', R', _⟩ := R.to hT (R.hok.doA x.dd hxA.hn.2) (by rw [Ds.doA_len, u.klen]; exact R.h8)
          refine L.nil ?_
          refine J.region ?_
          refine L.va rfl (X.move (by conv => lhs; whnf)) ?_
          refine L.va rfl (X.add rfl rfl (by omega)) ?_
          refine L.va rfl (X.assign (by conv => lhs; whnf)) ?_
          refine L.nil ?_
          -- loopend
          refine ⟨(i + 1, u'), At1 (by first | rfl | exact at_int rfl (by omega) | exact at_slice rfl (by omega) | exact at_int rfl (by simp)), (by (iterate 13 refine Agr.lk rfl ?_); exact Agr.lk rfl (Agr.hav rfl Agr.rfl')), ?_⟩
          exact ⟨⟨by dsimp only; omega, R'⟩, by dsimp only; omega⟩
        · obtain rfl : i = n0 := by dsimp only at hlt; omega
          refine J.exit ?_
          -- cutend
          refine ⟨u, At0 , (by (iterate 4 refine Agr.lk rfl ?_); refine Agr.lk rfl ?_; refine Agr.hav rfl ?_; (iterate 1 refine Agr.lk rfl ?_); exact Agr.rfl'), ?_⟩
          exact R
    · rintro u g w2 R
      have cF := R.hv.flush_any R.hok (by omega) ⟨2, 0, [], true, []⟩ rfl
      rw [← R.ptr_] at cF
      refine J.seq ?_
      refine J.seq ?_
      refine J.region ?_
      refine L.va rfl (X.move (by conv => lhs; whnf)) ?_
      -- callfn (*bushel/disk.Disk).Flush
      refine L.call rfl en_19 rfl (cF) ?_
      rintro e w3 ⟨rfl, hT, _⟩
      refine ⟨_, rfl, ?_⟩
      have hp3 : (u.abs.do_ ⟨2, 0, [], true, []⟩).2.2 = 0 → (u.abs.do_ ⟨2, 0, [], true, []⟩).1.pend = [] := by
        unfold Ds.do_
        (repeat' split) <;> first | (intro h; exfalso; revert h; simp; done) | (intro _; rfl) | (intro _; rename_i hh; exact absurd hh.1 (by decide)) | (intro _; rename_i hh; exact absurd hh (by decide)) | simp_all
      have hlen3 : (u.abs.do_ ⟨2, 0, [], true, []⟩).1.kept.length = 8 := by
        have := Ds.doA_len u.abs ⟨2, 0, [], true, []⟩
        unfold Ds.doA at this
        rw [if_pos (by decide), u.klen, R.h8] at this
        exact this
      obtain ⟨u3, R3, a3⟩ := R.to hT (R.hok.do_ _ (by decide)) hlen3
      refine L.va rfl (X.neq rfl rfl) ?_
      refine L.nil ?_
      -- cond
      refine J.ndec rfl (fun he => ?_) (fun he => ?_)
      · refine J.seq ?_
        refine J.region ?_
        -- callfn bushel/bushellaw19.awake
        refine L.call rfl en_16 rfl (awake19 w3) ?_
        rintro e w4 ⟨rfl, he4⟩
        refine ⟨_, rfl, ?_⟩
        refine L.va rfl (X.assign (by conv => lhs; whnf)) ?_
        refine L.nil ?_
        -- ret
        refine J.ret ?_
        refine thn_ret <| ?_
        refine fin1 ?_
        exact ⟨rfl, (below R3.hk).trans he4⟩
      · have hpe : u3.abs.pend = [] := by rw [a3]; exact hp3 (by omega)
        have cI := R3.hv.image_
        rw [← R3.ptr_, R3.h8] at cI
        refine J.skip ?_
        refine J.seq ?_
        refine J.region ?_
        refine L.va rfl (X.move (by conv => lhs; whnf)) ?_
        -- callfn (*bushel/disk.Disk).Image
        refine L.call rfl en_20 rfl (cI) ?_
        rintro e w4 ⟨A4, c4, rfl, ho4, he4⟩
        refine ⟨_, rfl, ?_⟩
        have he4 : Ext w3 w4 := he4
        have R4 : Rn v u3 w0.heap.size (· < w0.heap.size) (n0 + 1) w1 w4 := ⟨R3.hv.ext he4, R3.hd, R3.hkb, R3.hk.trans (.of_ext he4), R3.hok, R3.h8⟩
        have hK3 : u3.dat = u3.abs.kept := rfl
        rw [hK3] at ho4
        have W4 : Wr u3.abs.kept (ds1.map Dm.dd) 0 u3.abs := ⟨rfl, fun p hp => by rw [hpe] at hp; cases hp⟩
        generalize hKK : u3.abs.kept = K at *
        have hK8 : K.length = 8 := by rw [← hKK, u3.klen]; exact R3.h8
        have hKl : ∀ x ∈ K, x.length = 1024 := by rw [← hKK]; exact R3.hok.hk
        refine L.va rfl (X.assign (by conv => lhs; whnf)) ?_
        refine L.nil ?_
        -- until
        refine J.cut (X := Dk) [11, 58, 59, 60, 61, 62, 63, 64, 65, 66, 67, 68, 69, 70, 71, 72, 73, 74, 75] (fun _ => []) (fun u w' => Rn v u w0.heap.size (· < w0.heap.size) (n0 + 1 + n1) w1 w' ∧ Wr K (ds1.map Dm.dd) n1 u.abs ∧ w'.ownsRow w3.heap.size 5 1 (.slice A4 (8 * 1024) c4) (8 * 1024) (nums .u8 K.flatten)) ?_ ?_
        · refine J.seq ?_
          refine J.region ?_
          refine L.va rfl (X.assign (by conv => lhs; whnf)) ?_
          refine L.nil ?_
          refine J.block ?_
          -- loop
          refine J.loop (X := Nat × Dk) [11, 58, 59, 60, 61, 62, 63, 64, 65, 66, 67, 68, 69, 70, 71, 72, 73, 74, 75] (fun x => [(11, .int .i64 (x.1 : Int))]) (fun x w' => x.1 ≤ n1 ∧ Rn v x.2 w0.heap.size (· < w0.heap.size) (n0 + 1 + x.1) w1 w' ∧ Wr K (ds1.map Dm.dd) x.1 x.2.abs ∧ w'.ownsRow w3.heap.size 5 1 (.slice A4 (8 * 1024) c4) (8 * 1024) (nums .u8 K.flatten)) (fun x => n1 - x.1) ((0, u3)) (At1 (by first | rfl | exact at_int rfl (by omega) | exact at_slice rfl (by omega) | exact at_int rfl (by simp))) ?_ ?_
          · exact ⟨Nat.zero_le _, R4, W4, ho4⟩
          · rintro ⟨i, s⟩ g w5 ⟨hi, R5, W5, ho5⟩
            dsimp only at hi R5 W5
            have q1 : ((i, s) : Nat × Dk).1 = i := rfl
            have he5 := below R5.hk
            have hx5 := hd1.low he5
            have hR5 := hx5.hr
            refine J.seq ?_
            refine J.seq ?_
            refine J.region ?_
            refine L.va rfl (X.move (by conv => lhs; whnf)) ?_
            refine L.va rfl (X.move (by conv => lhs; whnf)) ?_
            refine L.va rfl (X.len rfl Try.underlying22) ?_
            refine L.va rfl (X.lss rfl rfl) ?_
            refine L.nil ?_
            -- cond
            refine J.dec rfl (fun hlt => ?_) (fun hlt => ?_)
            · have hil : i < n1 := by dsimp only at hlt; omega
              obtain ⟨x, hxi, hxm, hxA⟩ := hx5.row hil
              obtain ⟨lx, lx'⟩ := lx1 x hxm
              have hxd : (ds1.map Dm.dd)[i]? = some x.dd := by rw [List.getElem?_map, hxi]; rfl
              -- t68
              -- t74
              refine J.skip ?_
              refine J.seq ?_
              refine J.block ?_
              refine J.seq ?_
              refine J.region ?_
              refine L.va rfl (X.move (by conv => lhs; whnf)) ?_
              refine L.va rfl (X.move (by conv => lhs; whnf)) ?_
              refine L.va rfl ((by first | exact X.indexAddrn rfl rfl Try.underlying22 sz_34 (by first | exact Option.some_ne_none _ | exact hR5.some_ (by omega)) (by omega) | exact X.indexAddr rfl rfl Try.underlying22 sz_34 (by first | exact Option.some_ne_none _ | exact hR5.some_ (by omega)) (by omega))) ?_
              refine L.va rfl (X.fieldP rfl Try.underlying34 rfl sz_3 (by decide) (by first | exact Option.some_ne_none _ | exact hR5.some_ (by omega))) ?_
              refine L.va rfl (X.load rfl sc_3 (Ld.flat dm_len hR5 hxi (r := 0) rfl)) ?_
              refine L.va rfl (X.eql rfl rfl) ?_
              refine L.nil ?_
              -- cond
              refine J.dec rfl (fun hk1 => ?_) (fun hk1 => ?_)
              · have cD := R5.hv.lawdo R5.hok (by omega) (Nat.le_refl _) x hxA (by omega) (by omega) (by omega)
                rw [← R5.ptr_] at cD
                refine J.region ?_
                refine L.va rfl (X.move (by conv => lhs; whnf)) ?_
                refine L.va rfl (X.move (by conv => lhs; whnf)) ?_
                refine L.va rfl (X.move (by conv => lhs; whnf)) ?_
                refine L.va rfl ((by first | exact X.indexAddrn rfl rfl Try.underlying22 sz_34 (by first | exact Option.some_ne_none _ | exact hR5.some_ (by omega)) (by omega) | exact X.indexAddr rfl rfl Try.underlying22 sz_34 (by first | exact Option.some_ne_none _ | exact hR5.some_ (by omega)) (by omega))) ?_
                refine L.va rfl (X.loadRow (cs := x.vals) rfl hR5 (fun r u hu => flat_row dm_len hxi r u hu) (Nat.zero_lt_succ _) Try.underlying34 rfl (by kernel_rfl)) ?_
                -- callfn bushel/bushellaw19.Do
                refine L.call rfl en_18 rfl (cD) ?_
                rintro e w6 ⟨_, _, _, rfl, _, hT⟩
                refine ⟨_, rfl, ?_⟩
                have hT' := hT
                obtain ⟨_, _, _, _, _, kq⟩ := hT'
                have hlen6 : (s.abs.do_ x.dd).1.kept.length = 8 := by
                  have := Ds.doA_len s.abs x.dd
                  unfold Ds.doA at this
                  rw [if_pos (show 0 ≤ x.dd.kind ∧ x.dd.kind ≤ 4 by show 0 ≤ x.kind ∧ x.kind ≤ 4; omega), s.klen, R5.h8] at this
                  exact this
                obtain ⟨s', R6, a6⟩ := R5.to hT (R5.hok.do_ _ hxA.hn.2) hlen6
                have ho6 := Rk.own_kq (N' := w0.heap.size) ho5 kq (fun e => absurd ((own_isT ho5 e).1.fun_ R5.hv.kT.1) (by decide)) (own_blk_ne ho5 R5.hv.hb (by decide)) (by decide)
                refine L.nil ?_
                refine J.region ?_
                refine L.va rfl (X.move (by conv => lhs; whnf)) ?_
                refine L.va rfl (X.add rfl rfl (by omega)) ?_
                refine L.va rfl (X.assign (by conv => lhs; whnf)) ?_
                refine L.nil ?_
                -- loopend
                refine ⟨(i + 1, s'), At1 (by first | rfl | exact at_int rfl (by omega) | exact at_slice rfl (by omega) | exact at_int rfl (by simp)), (by (iterate 19 refine Agr.lk rfl ?_); exact Agr.lk rfl (Agr.hav rfl Agr.rfl')), ?_⟩
                exact ⟨⟨by dsimp only; omega, R6, by rw [a6]; exact W5.step hxd hk1, ho6⟩, by dsimp only; omega⟩
              · skip
                refine J.skip ?_
                refine J.region ?_
                refine L.va rfl (X.move (by conv => lhs; whnf)) ?_
                refine L.va rfl (X.add rfl rfl (by omega)) ?_
                refine L.va rfl (X.assign (by conv => lhs; whnf)) ?_
                refine L.nil ?_
                -- loopend
                refine ⟨(i + 1, s), At1 (by first | rfl | exact at_int rfl (by omega) | exact at_slice rfl (by omega) | exact at_int rfl (by simp)), (by (iterate 13 refine Agr.lk rfl ?_); exact Agr.lk rfl (Agr.hav rfl Agr.rfl')), ?_⟩
                exact ⟨⟨by dsimp only; omega, ⟨R5.hv, R5.hd, R5.hkb, R5.hk, R5.hok.more (by dsimp only; omega), R5.h8⟩, W5.more, ho5⟩, by dsimp only; omega⟩
            · obtain rfl : i = n1 := by dsimp only at hlt; omega
              refine J.exit ?_
              -- cutend
              refine ⟨s, At0 , (by (iterate 4 refine Agr.lk rfl ?_); refine Agr.lk rfl ?_; refine Agr.hav rfl ?_; (iterate 1 refine Agr.lk rfl ?_); exact Agr.rfl'), ?_⟩
              exact ⟨R5, W5, ho5⟩
        · rintro s g w5 ⟨R5, W5, ho5⟩
          have hx4 : (Dd.mk 4 0 [] true xs2).kind = 4 := rfl
          have cC := R5.hv.crash_any R5.hok (by omega) ⟨4, 0, [], true, xs2⟩ rfl A2 n2 c2 (hr2.low (below R5.hk) (Nat.le_refl _)) (by omega)
          rw [← R5.ptr_] at cC
          refine J.seq ?_
          refine J.region ?_
          refine L.va rfl (X.move (by conv => lhs; whnf)) ?_
          refine L.va rfl (X.move (by conv => lhs; whnf)) ?_
          -- callfn (*bushel/disk.Disk).Crash
          refine L.call rfl en_21 rfl (cC) ?_
          rintro e w6 ⟨rfl, hT⟩
          refine ⟨_, rfl, ?_⟩
          have hT' := hT
          obtain ⟨_, _, _, _, _, kq⟩ := hT'
          have e6 : s.abs.do_ ⟨4, 0, [], true, xs2⟩ = ({ s.abs with kept := keI (Dk.kpF xs2) s.abs.kept [] s.abs.pend s.abs.pend.length, pend := [], off := false, left := -1 }, [], 0) := by unfold Ds.do_; rw [if_neg (show ¬ (4 : Int) = 3 by decide), if_pos (show (4 : Int) = 4 from rfl)]
          have hl6 : (s.abs.do_ ⟨4, 0, [], true, xs2⟩).1.kept.length = 8 := by
            rw [e6]
            dsimp only
            rw [keI_length, s.klen]
            exact R5.h8
          obtain ⟨t, R6, a6⟩ := R5.to hT (R5.hok.do_ _ (show (0 : Int) ≤ 9223372036854775807 by decide)) hl6
          rw [e6] at a6
          have ho6 := Rk.own_kq (N' := w0.heap.size) ho5 kq (fun e => absurd ((own_isT ho5 e).1.fun_ R5.hv.kT.1) (by decide)) (own_blk_ne ho5 R5.hv.hb (by decide)) (by decide)
          have WC := fun a => W5.crash (Dk.kpF xs2) a
          have aK : t.dat = keI (Dk.kpF xs2) s.abs.kept [] s.abs.pend s.abs.pend.length := congrArg Ds.kept a6
          have ao : t.off = false := congrArg Ds.off a6
          have ap : t.pp.length = 0 := by rw [← t.plen, a6]; rfl
          have cI2 := R6.hv.image_
          rw [← R6.ptr_, R6.h8, aK] at cI2
          have hM8 : (keI (Dk.kpF xs2) s.abs.kept [] s.abs.pend s.abs.pend.length).length = 8 := by rw [keI_length, s.klen]; exact R5.h8
          have hMl : ∀ x ∈ keI (Dk.kpF xs2) s.abs.kept [] s.abs.pend s.abs.pend.length, x.length = 1024 := by
            have := R6.hok.hk
            rw [a6] at this
            exact this
          generalize keI (Dk.kpF xs2) s.abs.kept [] s.abs.pend s.abs.pend.length = M at *
          refine L.nil ?_
          refine J.seq ?_
          refine J.region ?_
          refine L.va rfl (X.move (by conv => lhs; whnf)) ?_
          -- callfn (*bushel/disk.Disk).Image
          refine L.call rfl en_20 rfl (cI2) ?_
          rintro e w7 ⟨A7, c7, rfl, ho7, he7⟩
          refine ⟨_, rfl, ?_⟩
          have he7 : Ext w6 w7 := he7
          have hO7 := Reads.of_own (ho6.ext he7)
          have hc4 := own_le ho6
          have hc7 := own_le ho7
          have hN7 := Reads.of_own ho7
          have hv7 := R6.hv.ext he7
          have he07 := (below R6.hk).trans he7
          have hx7 := hd1.low he07
          refine L.va rfl (X.assign (by conv => lhs; whnf)) ?_
          refine L.nil ?_
          refine J.seq ?_
          refine J.seq ?_
          refine J.region ?_
          refine L.va rfl (X.move (by conv => lhs; whnf)) ?_
          refine L.va rfl (X.len rfl Try.underlying30) ?_
          refine L.va rfl (X.neq rfl rfl) ?_
          refine L.va rfl (X.move (by conv => lhs; whnf)) ?_
          -- case t84
          refine L.caseNdecF (k := 84) rfl (by rfl) ?_
          refine L.va rfl (X.move (by conv => lhs; whnf)) ?_
          refine L.va rfl (X.len rfl Try.underlying30) ?_
          refine L.va rfl (X.neq rfl rfl) ?_
          refine L.va rfl (X.pickF rfl (by conv => lhs; whnf)) ?_
          refine L.va rfl (X.move (by conv => lhs; whnf)) ?_
          -- case t89
          refine L.caseNdecF (k := 89) rfl (by rfl) ?_
          refine L.va rfl (X.move (by conv => lhs; whnf)) ?_
          -- callfn (*bushel/disk.Disk).Off
          have cO := hv7.off_
          rw [← R6.ptr_, ao] at cO
          refine L.call rfl en_22 rfl (cO) ?_
          rintro e _ ⟨rfl, rfl⟩
          refine ⟨_, rfl, ?_⟩
          refine L.va rfl (X.pickF rfl (by conv => lhs; whnf)) ?_
          refine L.va rfl (X.move (by conv => lhs; whnf)) ?_
          -- case t93
          refine L.caseBF (k := 93) rfl (by rfl) ?_
          refine L.va rfl (X.move (by conv => lhs; whnf)) ?_
          -- callfn (*bushel/disk.Disk).Pending
          have cP := hv7.pending_
          rw [← R6.ptr_, ap] at cP
          refine L.call rfl en_23 rfl (cP) ?_
          rintro e _ ⟨rfl, rfl⟩
          refine ⟨_, rfl, ?_⟩
          refine L.va rfl (X.neq rfl rfl) ?_
          refine L.va rfl (X.pickF rfl (by conv => lhs; whnf)) ?_
          refine L.nil ?_
          -- cond
          refine J.iteF rfl ?_
          refine J.skip ?_
          -- until
          refine J.cut (X := Unit) [6, 13, 14, 15, 98, 99, 100, 101, 102, 103, 104, 105, 106, 107, 108, 109, 110, 111, 112, 113, 114, 115, 116, 117, 118, 119, 120, 121, 122, 123, 124, 125, 126, 127, 128, 129, 130, 131, 132, 133, 134, 135, 136, 137, 138, 139, 140, 141, 142, 143, 144, 145, 146, 147, 148, 149, 150, 151, 152, 153, 154, 155, 156, 157, 158, 159, 160, 161] (fun _ => []) (fun _ w' => Ext w7 w') ?_ ?_
          · refine J.seq ?_
            refine J.region ?_
            refine L.va rfl (X.assign (by conv => lhs; whnf)) ?_
            refine L.nil ?_
            refine J.block ?_
            -- loop
            refine J.loop (X := Nat) [6, 13, 14, 15, 98, 99, 100, 101, 102, 103, 104, 105, 106, 107, 108, 109, 110, 111, 112, 113, 114, 115, 116, 117, 118, 119, 120, 121, 122, 123, 124, 125, 126, 127, 128, 129, 130, 131, 132, 133, 134, 135, 136, 137, 138, 139, 140, 141, 142, 143, 144, 145, 146, 147, 148, 149, 150, 151, 152, 153, 154, 155, 156, 157, 158, 159, 160, 161] (fun a => [(13, .int .i64 (a : Int))]) (fun a w' => a ≤ 8 ∧ Ext w7 w') (fun a => 8 - a) (0) (At1 (by first | rfl | exact at_int rfl (by omega) | exact at_slice rfl (by omega) | exact at_int rfl (by simp))) ?_ ?_
            · exact ⟨by omega, Ext.refl _⟩
            · rintro a g w8 ⟨ha, he8⟩
              have hO8 := hO7.ext he8
              have hN8 := hN7.ext he8
              have hx8 := hx7.low (Below.mono he8 he07.le)
              have hR8 := hx8.hr
              have z8 := he8.le
              have z07 := he07.le
              refine J.seq ?_
              refine J.seq ?_
              refine J.region ?_
              refine L.va rfl (X.move (by conv => lhs; whnf)) ?_
              refine L.va rfl (X.lss rfl rfl) ?_
              refine L.nil ?_
              -- cond
              refine J.dec rfl (fun hlt => ?_) (fun hlt => ?_)
              · have ha8 : a < 8 := by omega
                have hPO : Reads w8 w7.heap.size 1 (if c4 = 1024 * a then A4 else A4.map (·.add (1024 * a * 1))) (1024 * a + 1024 - 1024 * a) (nums .u8 (K.getD a [])) := by
                  have := part_nums (c := c4) (i := 1024 * a) (j := 1024 * a + 1024) hO8 (by omega) (by omega) hc4
                  rw [show (K.flatten.drop (1024 * a)).take (1024 * a + 1024 - 1024 * a) = K.getD a [] from by rw [show 1024 * a + 1024 - 1024 * a = 1024 by omega]; exact sec_at hKl (by omega)] at this
                  exact this
                have hPN : Reads w8 w7.heap.size 1 (if c7 = 1024 * a then A7 else A7.map (·.add (1024 * a * 1))) (1024 * a + 1024 - 1024 * a) (nums .u8 (M.getD a [])) := by
                  have := part_nums (c := c7) (i := 1024 * a) (j := 1024 * a + 1024) hN8 (by omega) (by omega) hc7
                  rw [show (M.flatten.drop (1024 * a)).take (1024 * a + 1024 - 1024 * a) = M.getD a [] from by rw [show 1024 * a + 1024 - 1024 * a = 1024 by omega]; exact sec_at hMl (by omega)] at this
                  exact this
                refine J.skip ?_
                refine J.seq ?_
                refine J.block ?_
                refine J.seq ?_
                -- draw
                refine J.draw (ℓ := 1000000) (S := Ext w8) mixed (fun w9 hS hS_h => ?_)
                -- t108
                -- t116
                -- t109
                -- t117
                refine D.va 0 rfl (by kernel_rfl) (fun _ _ _ h => h) rfl (fun w' hw => X.move (by conv => lhs; whnf)) hS ?_
                refine D.va 1 rfl (by kernel_rfl) (fun _ _ _ h => h) rfl (fun w' hw => X.move (by conv => lhs; whnf)) hS ?_
                refine D.va 2 rfl (by kernel_rfl) (fun _ _ _ h => h) rfl (fun w' hw => X.mul rfl rfl (by omega)) hS ?_
                refine D.va 3 rfl (by kernel_rfl) (fun _ _ _ h => h) rfl (fun w' hw => X.move (by conv => lhs; whnf)) hS ?_
                refine D.va 4 rfl (by kernel_rfl) (fun _ _ _ h => h) rfl (fun w' hw => X.mul rfl rfl (by omega)) hS ?_
                refine D.va 5 rfl (by kernel_rfl) (fun _ _ _ h => h) rfl (fun w' hw => X.add rfl rfl (by omega)) hS ?_
                refine D.va 6 rfl (by kernel_rfl) (fun _ _ _ h => h) rfl (fun w' hw => X.slicen (i := 1024 * a) (j := 1024 * a + 1024) rfl rfl rfl Try.underlying30 sz_5 (by omega)) hS ?_
                refine D.va 7 rfl (by kernel_rfl) (fun _ _ _ h => h) rfl (fun w' hw => X.conv rfl ((hPO.ext hw).conv (c := c4 - 1024 * a) Try.underlying30 Try.underlying5 Try.underlying9)) hS ?_
                refine D.va 8 rfl (by kernel_rfl) (fun _ _ _ h => h) rfl (fun w' hw => X.move (by conv => lhs; whnf)) hS ?_
                refine D.va 9 rfl (by kernel_rfl) (fun _ _ _ h => h) rfl (fun w' hw => X.move (by conv => lhs; whnf)) hS ?_
                refine D.va 10 rfl (by kernel_rfl) (fun _ _ _ h => h) rfl (fun w' hw => X.mul rfl rfl (by omega)) hS ?_
                refine D.va 11 rfl (by kernel_rfl) (fun _ _ _ h => h) rfl (fun w' hw => X.move (by conv => lhs; whnf)) hS ?_
                refine D.va 12 rfl (by kernel_rfl) (fun _ _ _ h => h) rfl (fun w' hw => X.mul rfl rfl (by omega)) hS ?_
                refine D.va 13 rfl (by kernel_rfl) (fun _ _ _ h => h) rfl (fun w' hw => X.add rfl rfl (by omega)) hS ?_
                refine D.va 14 rfl (by kernel_rfl) (fun _ _ _ h => h) rfl (fun w' hw => X.slicen (i := 1024 * a) (j := 1024 * a + 1024) rfl rfl rfl Try.underlying30 sz_5 (by omega)) hS ?_
                refine D.va 15 rfl (by kernel_rfl) (fun _ _ _ h => h) rfl (fun w' hw => X.conv rfl ((hPN.ext hw).conv (c := c7 - 1024 * a) Try.underlying30 Try.underlying5 Try.underlying9)) hS ?_
                refine D.va 16 rfl (by kernel_rfl) (fun _ _ _ h => h) rfl (fun w' hw => X.eqlS rfl rfl) hS ?_
                refine D.va 17 rfl (by kernel_rfl) (fun _ _ _ h => h) rfl (fun w' hw => X.assign (by conv => lhs; whnf)) hS ?_
                refine D.done (by kernel_rfl) ?_
                refine J.seq ?_
                refine J.seq ?_
                refine J.region ?_
                refine L.va rfl (X.assign (by conv => lhs; whnf)) ?_
                refine L.nil ?_
                refine J.block ?_
                -- loop
                have zS := hS.le
                refine J.loop (X := Nat × Bool) [14, 15, 119, 120, 121, 122, 123, 124, 125, 126, 127, 128, 129, 130, 131, 132, 133, 134, 135, 136, 137, 138, 139, 140, 141, 142, 143, 144, 145, 146, 147, 148, 149, 150, 151, 152, 153, 154, 155, 156, 157, 158, 159] (fun y => [(15, .int .i64 (y.1 : Int)), (14, .bool y.2)]) (fun y w' => y.1 ≤ n1 ∧ Ext w9 w' ∧ (M.getD a [] = K.getD a [] → y.2 = true) ∧ (∀ j x, j < y.1 → (ds1.map Dm.dd)[j]? = some x → x.kind = 1 → x.n = (a : Int) → M.getD a [] = x.bytes → y.2 = true)) (fun y => n1 - y.1) ((0, decide (strOfNums (K.getD a []) = strOfNums (M.getD a [])))) (At2 (by first | rfl | exact at_int rfl (by omega) | exact at_slice rfl (by omega) | exact at_int rfl (by simp)) (by first | rfl | exact at_int rfl (by omega) | exact at_slice rfl (by omega) | exact at_int rfl (by simp))) ?_ ?_
                · exact ⟨Nat.zero_le _, Ext.refl _, fun h => by rw [h]; simp, fun j x hj => absurd hj (Nat.not_lt_zero _)⟩
                · rintro ⟨i, b⟩ g w10 ⟨hi, he10, hb1, hb2⟩
                  dsimp only at hi hb1 hb2
                  have q1 : ((i, b) : Nat × Bool).1 = i := rfl
                  have e810 : Ext w8 w10 := hS.trans he10
                  have hx10 := hx8.low (Below.mono e810 (by omega))
                  have hR10 := hx10.hr
                  have hPN10 := hPN.ext e810
                  have z10 := e810.le
                  refine J.seq ?_
                  refine J.seq ?_
                  refine J.region ?_
                  refine L.va rfl (X.move (by conv => lhs; whnf)) ?_
                  refine L.va rfl (X.move (by conv => lhs; whnf)) ?_
                  refine L.va rfl (X.len rfl Try.underlying22) ?_
                  refine L.va rfl (X.lss rfl rfl) ?_
                  refine L.nil ?_
                  -- cond
                  refine J.dec rfl (fun hlt2 => ?_) (fun hlt2 => ?_)
                  · have hil : i < n1 := by dsimp only at hlt2; omega
                    obtain ⟨x, hxi, hxm, hxA⟩ := hx10.row hil
                    obtain ⟨lx, lx'⟩ := lx1 x hxm
                    have hxd : (ds1.map Dm.dd)[i]? = some x.dd := by rw [List.getElem?_map, hxi]; rfl
                    have hne1 := hR10.some_ (by omega)
                    have up : ∀ b' : Bool, (b = true → b' = true) → (x.kind = 1 → x.n = (a : Int) → M.getD a [] = x.dd.bytes → b' = true) → (M.getD a [] = K.getD a [] → b' = true) ∧ (∀ j y, j < i + 1 → (ds1.map Dm.dd)[j]? = some y → y.kind = 1 → y.n = (a : Int) → M.getD a [] = y.bytes → b' = true) := fun b' u1 u2 => ⟨fun hh => u1 (hb1 hh), fun j y hj hy r1 r2 r3 => by
                      rcases Nat.lt_or_ge j i with hj2 | hj2
                      · exact u1 (hb2 j y hj2 hy r1 r2 r3)
                      · obtain rfl : j = i := by omega
                        rw [hxd] at hy
                        injection hy with hy
                        subst hy
                        exact u2 r1 r2 r3⟩
                    refine J.skip ?_
                    refine J.seq ?_
                    refine J.block ?_
                    -- draw
                    cases b
                    · refine J.draw (ℓ := 1000000) (S := Ext w10) mixed (fun w11 hS2 hS2_h => ?_)
                      -- t131
                      -- t138
                      -- t146
                      -- t155
                      -- t156
                      refine D.va 0 rfl (by kernel_rfl) (fun _ _ _ h => h) rfl (fun w' hw => X.move (by conv => lhs; whnf)) hS2 ?_
                      refine D.va 1 rfl (by kernel_rfl) (fun _ _ _ h => h) rfl (fun w' hw => X.move (by conv => lhs; whnf)) hS2 ?_
                      -- case t126
                      refine D.caseBF (k := 126) rfl (by rfl) ?_
                      refine D.va 2 rfl (by kernel_rfl) (fun _ _ _ h => h) rfl (fun w' hw => X.move (by conv => lhs; whnf)) hS2 ?_
                      refine D.va 3 rfl (by kernel_rfl) (fun _ _ _ h => h) rfl (fun w' hw => X.move (by conv => lhs; whnf)) hS2 ?_
                      refine D.va 4 rfl (by kernel_rfl) (fun _ _ _ h => h) rfl (fun w' hw => (by first | exact X.indexAddrn rfl rfl Try.underlying22 sz_34 (by first | exact Option.some_ne_none _ | exact hne1) (by omega) | exact X.indexAddr rfl rfl Try.underlying22 sz_34 (by first | exact Option.some_ne_none _ | exact hne1) (by omega))) hS2 ?_
                      refine D.va 5 rfl (by kernel_rfl) (fun _ _ _ h => h) rfl (fun w' hw => X.fieldP rfl Try.underlying34 rfl sz_3 (by decide) (by first | exact Option.some_ne_none _ | exact hne1)) hS2 ?_
                      refine D.va 6 rfl (by kernel_rfl) (fun _ _ _ h => h) rfl (fun w' hw => X.load rfl sc_3 (Ld.flat dm_len (hR10.ext hw) hxi (r := 0) rfl)) hS2 ?_
                      refine D.va 7 rfl (by kernel_rfl) (fun _ _ _ h => h) rfl (fun w' hw => X.eql rfl rfl) hS2 ?_
                      refine D.va 8 rfl (by kernel_rfl) (fun _ _ _ h => h) rfl (fun w' hw => X.move (by conv => lhs; whnf)) hS2 ?_
                      -- case t133
                      refine D.caseDec (k := 133) rfl (fun hk => ?_) (fun hk => ?_)
                      · refine D.va 9 rfl (by kernel_rfl) (fun _ _ _ h => h) rfl (fun w' hw => X.move (by conv => lhs; whnf)) hS2 ?_
                        refine D.va 10 rfl (by kernel_rfl) (fun _ _ _ h => h) rfl (fun w' hw => X.move (by conv => lhs; whnf)) hS2 ?_
                        refine D.va 11 rfl (by kernel_rfl) (fun _ _ _ h => h) rfl (fun w' hw => (by first | exact X.indexAddrn rfl rfl Try.underlying22 sz_34 (by first | exact Option.some_ne_none _ | exact hne1) (by omega) | exact X.indexAddr rfl rfl Try.underlying22 sz_34 (by first | exact Option.some_ne_none _ | exact hne1) (by omega))) hS2 ?_
                        refine D.va 12 rfl (by kernel_rfl) (fun _ _ _ h => h) rfl (fun w' hw => X.fieldP rfl Try.underlying34 rfl sz_3 (by decide) (by first | exact Option.some_ne_none _ | exact hne1)) hS2 ?_
                        refine D.va 13 rfl (by kernel_rfl) (fun _ _ _ h => h) rfl (fun w' hw => X.load rfl sc_3 (Ld.flat dm_len (hR10.ext hw) hxi (r := 1) rfl)) hS2 ?_
                        refine D.va 14 rfl (by kernel_rfl) (fun _ _ _ h => h) rfl (fun w' hw => X.move (by conv => lhs; whnf)) hS2 ?_
                        refine D.va 15 rfl (by kernel_rfl) (fun _ _ _ h => h) rfl (fun w' hw => X.eql rfl rfl) hS2 ?_
                        refine D.va 16 rfl (by kernel_rfl) (fun _ _ _ h => h) rfl (fun w' hw => X.pickT rfl (by conv => lhs; whnf)) hS2 ?_
                        refine D.va 17 rfl (by kernel_rfl) (fun _ _ _ h => h) rfl (fun w' hw => X.move (by conv => lhs; whnf)) hS2 ?_
                        -- case t142
                        refine D.caseDec (k := 142) rfl (fun hn => ?_) (fun hn => ?_)
                        · refine D.va 18 rfl (by kernel_rfl) (fun _ _ _ h => h) rfl (fun w' hw => X.move (by conv => lhs; whnf)) hS2 ?_
                          refine D.va 19 rfl (by kernel_rfl) (fun _ _ _ h => h) rfl (fun w' hw => X.move (by conv => lhs; whnf)) hS2 ?_
                          refine D.va 20 rfl (by kernel_rfl) (fun _ _ _ h => h) rfl (fun w' hw => (by first | exact X.indexAddrn rfl rfl Try.underlying22 sz_34 (by first | exact Option.some_ne_none _ | exact hne1) (by omega) | exact X.indexAddr rfl rfl Try.underlying22 sz_34 (by first | exact Option.some_ne_none _ | exact hne1) (by omega))) hS2 ?_
                          refine D.va 21 rfl (by kernel_rfl) (fun _ _ _ h => h) rfl (fun w' hw => X.loadRow (cs := x.vals) rfl (hR10.ext hw) (fun r u hu => flat_row dm_len hxi r u hu) (Nat.zero_lt_succ _) Try.underlying34 rfl (by kernel_rfl)) hS2 ?_
                          refine D.va 24 rfl (by kernel_rfl) (fun _ _ _ h => h) rfl (fun w' hw => X.move (by conv => lhs; whnf)) hS2 ?_
                          refine D.va 25 rfl (by kernel_rfl) (fun _ _ _ h => h) rfl (fun w' hw => X.move (by conv => lhs; whnf)) hS2 ?_
                          refine D.va 26 rfl (by kernel_rfl) (fun _ _ _ h => h) rfl (fun w' hw => X.mul rfl rfl (by omega)) hS2 ?_
                          refine D.va 27 rfl (by kernel_rfl) (fun _ _ _ h => h) rfl (fun w' hw => X.move (by conv => lhs; whnf)) hS2 ?_
                          refine D.va 28 rfl (by kernel_rfl) (fun _ _ _ h => h) rfl (fun w' hw => X.mul rfl rfl (by omega)) hS2 ?_
                          refine D.va 29 rfl (by kernel_rfl) (fun _ _ _ h => h) rfl (fun w' hw => X.add rfl rfl (by omega)) hS2 ?_
                          refine D.va 30 rfl (by kernel_rfl) (fun _ _ _ h => h) rfl (fun w' hw => X.slicen (i := 1024 * a) (j := 1024 * a + 1024) rfl rfl rfl Try.underlying30 sz_5 (by omega)) hS2 ?_
                          refine D.va 31 rfl (by kernel_rfl) (fun _ _ _ h => h) rfl (fun w' hw => X.conv rfl ((hPN10.ext hw).conv (c := c7 - 1024 * a) Try.underlying30 Try.underlying5 Try.underlying9)) hS2 ?_
                          -- callfn bushel/bushelref19.Bytes
                          refine D.one 22 (by kernel_rfl) rfl ?_
                          refine L.call rfl en_24 rfl (((hxA.low (Below.mono hS2 (by omega))).bytes_ (by have := hS2.le; omega) (by omega))) ?_
                          rintro e w12 ⟨A9, c9, rfl, hr9, _, he9⟩
                          refine ⟨_, rfl, ?_⟩
                          have hS3 := hS2.trans he9
                          refine L.nil ?_
                          refine ⟨fun _ => hS3, ?_⟩
                          -- convert
                          refine D.one 23 (by kernel_rfl) rfl ?_
                          refine L.va rfl (X.conv rfl (hr9.conv (c := c9) Try.underlying30 Try.underlying5 Try.underlying9)) ?_
                          refine L.nil ?_
                          refine ⟨fun _ => hS3, ?_⟩
                          refine D.va 32 rfl (by kernel_rfl) (fun _ _ _ h => h) rfl (fun w' hw => X.eqlS rfl rfl) hS3 ?_
                          refine D.va 33 rfl (by kernel_rfl) (fun _ _ _ h => h) rfl (fun w' hw => X.pickT rfl (by conv => lhs; whnf)) hS3 ?_
                          refine D.va 34 rfl (by kernel_rfl) (fun _ _ _ h => h) rfl (fun w' hw => X.pickF rfl (by conv => lhs; whnf)) hS3 ?_
                          refine D.va 35 rfl (by kernel_rfl) (fun _ _ _ h => h) rfl (fun w' hw => X.assign (by conv => lhs; whnf)) hS3 ?_
                          refine D.done (by kernel_rfl) ?_
                          refine J.region ?_
                          refine L.va rfl (X.move (by conv => lhs; whnf)) ?_
                          refine L.va rfl (X.add rfl rfl (by omega)) ?_
                          refine L.va rfl (X.assign (by conv => lhs; whnf)) ?_
                          refine L.nil ?_
                          -- loopend
                          refine ⟨(i + 1, decide (strOfNums x.dd.bytes = strOfNums (M.getD a []))), At2 (by first | rfl | exact at_int rfl (by omega) | exact at_slice rfl (by omega) | exact at_int rfl (by simp)) (by first | rfl | exact at_int rfl (by omega) | exact at_slice rfl (by omega) | exact at_int rfl (by simp)), (by (iterate 46 refine Agr.lk rfl ?_); exact Agr.lk rfl (Agr.hav rfl Agr.rfl')), ?_⟩
                          obtain ⟨u1, u2⟩ := up (decide (strOfNums x.dd.bytes = strOfNums (M.getD a []))) (by intro h; cases h) (by intro _ _ h; rw [h]; simp)
                          exact ⟨⟨by dsimp only; omega, he10.trans hS3, u1, u2⟩, by dsimp only; omega⟩
                        · refine D.no 18 rfl (by kernel_rfl) (fun _ _ _ h => h) rfl hS2 ?_
                          refine D.no 19 rfl (by kernel_rfl) (fun _ _ _ h => h) rfl hS2 ?_
                          refine D.no 20 rfl (by kernel_rfl) (fun _ _ _ h => h) rfl hS2 ?_
                          refine D.no 21 rfl (by kernel_rfl) (fun _ _ _ h => h) rfl hS2 ?_
                          refine D.no 22 rfl (by kernel_rfl) (fun _ _ _ h => h) rfl hS2 ?_
                          refine D.no 23 rfl (by kernel_rfl) (fun _ _ _ h => h) rfl hS2 ?_
                          refine D.no 24 rfl (by kernel_rfl) (fun _ _ _ h => h) rfl hS2 ?_
                          refine D.no 25 rfl (by kernel_rfl) (fun _ _ _ h => h) rfl hS2 ?_
                          refine D.no 26 rfl (by kernel_rfl) (fun _ _ _ h => h) rfl hS2 ?_
                          refine D.no 27 rfl (by kernel_rfl) (fun _ _ _ h => h) rfl hS2 ?_
                          refine D.no 28 rfl (by kernel_rfl) (fun _ _ _ h => h) rfl hS2 ?_
                          refine D.no 29 rfl (by kernel_rfl) (fun _ _ _ h => h) rfl hS2 ?_
                          refine D.no 30 rfl (by kernel_rfl) (fun _ _ _ h => h) rfl hS2 ?_
                          refine D.no 31 rfl (by kernel_rfl) (fun _ _ _ h => h) rfl hS2 ?_
                          refine D.no 32 rfl (by kernel_rfl) (fun _ _ _ h => h) rfl hS2 ?_
                          refine D.va 33 rfl (by kernel_rfl) (fun _ _ _ h => h) rfl (fun w' hw => X.pickF rfl (by conv => lhs; whnf)) hS2 ?_
                          refine D.va 34 rfl (by kernel_rfl) (fun _ _ _ h => h) rfl (fun w' hw => X.pickF rfl (by conv => lhs; whnf)) hS2 ?_
                          refine D.va 35 rfl (by kernel_rfl) (fun _ _ _ h => h) rfl (fun w' hw => X.assign (by conv => lhs; whnf)) hS2 ?_
                          refine D.done (by kernel_rfl) ?_
                          refine J.region ?_
                          refine L.va rfl (X.move (by conv => lhs; whnf)) ?_
                          refine L.va rfl (X.add rfl rfl (by omega)) ?_
                          refine L.va rfl (X.assign (by conv => lhs; whnf)) ?_
                          refine L.nil ?_
                          -- loopend
                          refine ⟨(i + 1, false), At2 (by first | rfl | exact at_int rfl (by omega) | exact at_slice rfl (by omega) | exact at_int rfl (by simp)) (by first | rfl | exact at_int rfl (by omega) | exact at_slice rfl (by omega) | exact at_int rfl (by simp)), (by (iterate 46 refine Agr.lk rfl ?_); exact Agr.lk rfl (Agr.hav rfl Agr.rfl')), ?_⟩
                          obtain ⟨u1, u2⟩ := up false (by intro h; exact h) (by intro _ h; exact absurd h hn)
                          exact ⟨⟨by dsimp only; omega, he10.trans hS2, u1, u2⟩, by dsimp only; omega⟩
                      · refine D.no 9 rfl (by kernel_rfl) (fun _ _ _ h => h) rfl hS2 ?_
                        refine D.no 10 rfl (by kernel_rfl) (fun _ _ _ h => h) rfl hS2 ?_
                        refine D.no 11 rfl (by kernel_rfl) (fun _ _ _ h => h) rfl hS2 ?_
                        refine D.no 12 rfl (by kernel_rfl) (fun _ _ _ h => h) rfl hS2 ?_
                        refine D.no 13 rfl (by kernel_rfl) (fun _ _ _ h => h) rfl hS2 ?_
                        refine D.no 14 rfl (by kernel_rfl) (fun _ _ _ h => h) rfl hS2 ?_
                        refine D.no 15 rfl (by kernel_rfl) (fun _ _ _ h => h) rfl hS2 ?_
                        refine D.va 16 rfl (by kernel_rfl) (fun _ _ _ h => h) rfl (fun w' hw => X.pickF rfl (by conv => lhs; whnf)) hS2 ?_
                        refine D.va 17 rfl (by kernel_rfl) (fun _ _ _ h => h) rfl (fun w' hw => X.move (by conv => lhs; whnf)) hS2 ?_
                        refine D.no 18 rfl (by kernel_rfl) (fun _ _ _ h => h) rfl hS2 ?_
                        refine D.no 19 rfl (by kernel_rfl) (fun _ _ _ h => h) rfl hS2 ?_
                        refine D.no 20 rfl (by kernel_rfl) (fun _ _ _ h => h) rfl hS2 ?_
                        refine D.no 21 rfl (by kernel_rfl) (fun _ _ _ h => h) rfl hS2 ?_
                        refine D.no 22 rfl (by kernel_rfl) (fun _ _ _ h => h) rfl hS2 ?_
                        refine D.no 23 rfl (by kernel_rfl) (fun _ _ _ h => h) rfl hS2 ?_
                        refine D.no 24 rfl (by kernel_rfl) (fun _ _ _ h => h) rfl hS2 ?_
                        refine D.no 25 rfl (by kernel_rfl) (fun _ _ _ h => h) rfl hS2 ?_
                        refine D.no 26 rfl (by kernel_rfl) (fun _ _ _ h => h) rfl hS2 ?_
                        refine D.no 27 rfl (by kernel_rfl) (fun _ _ _ h => h) rfl hS2 ?_
                        refine D.no 28 rfl (by kernel_rfl) (fun _ _ _ h => h) rfl hS2 ?_
                        refine D.no 29 rfl (by kernel_rfl) (fun _ _ _ h => h) rfl hS2 ?_
                        refine D.no 30 rfl (by kernel_rfl) (fun _ _ _ h => h) rfl hS2 ?_
                        refine D.no 31 rfl (by kernel_rfl) (fun _ _ _ h => h) rfl hS2 ?_
                        refine D.no 32 rfl (by kernel_rfl) (fun _ _ _ h => h) rfl hS2 ?_
                        refine D.va 33 rfl (by kernel_rfl) (fun _ _ _ h => h) rfl (fun w' hw => X.pickF rfl (by conv => lhs; whnf)) hS2 ?_
                        refine D.va 34 rfl (by kernel_rfl) (fun _ _ _ h => h) rfl (fun w' hw => X.pickF rfl (by conv => lhs; whnf)) hS2 ?_
                        refine D.va 35 rfl (by kernel_rfl) (fun _ _ _ h => h) rfl (fun w' hw => X.assign (by conv => lhs; whnf)) hS2 ?_
                        refine D.done (by kernel_rfl) ?_
                        refine J.region ?_
                        refine L.va rfl (X.move (by conv => lhs; whnf)) ?_
                        refine L.va rfl (X.add rfl rfl (by omega)) ?_
                        refine L.va rfl (X.assign (by conv => lhs; whnf)) ?_
                        refine L.nil ?_
                        -- loopend
                        refine ⟨(i + 1, false), At2 (by first | rfl | exact at_int rfl (by omega) | exact at_slice rfl (by omega) | exact at_int rfl (by simp)) (by first | rfl | exact at_int rfl (by omega) | exact at_slice rfl (by omega) | exact at_int rfl (by simp)), (by (iterate 45 refine Agr.lk rfl ?_); exact Agr.lk rfl (Agr.hav rfl Agr.rfl')), ?_⟩
                        obtain ⟨u1, u2⟩ := up false (by intro h; exact h) (by intro h; exact absurd h hk)
                        exact ⟨⟨by dsimp only; omega, he10.trans hS2, u1, u2⟩, by dsimp only; omega⟩
                    · refine J.draw (ℓ := 1000000) (S := Ext w10) mixed (fun w11 hS2 hS2_h => ?_)
                      refine D.va 0 rfl (by kernel_rfl) (fun _ _ _ h => h) rfl (fun w' hw => X.move (by conv => lhs; whnf)) hS2 ?_
                      refine D.va 1 rfl (by kernel_rfl) (fun _ _ _ h => h) rfl (fun w' hw => X.move (by conv => lhs; whnf)) hS2 ?_
                      -- case t126
                      refine D.caseBT (k := 126) rfl (by rfl) ?_
                      refine D.no 2 rfl (by kernel_rfl) (fun _ _ _ h => h) rfl hS2 ?_
                      refine D.no 3 rfl (by kernel_rfl) (fun _ _ _ h => h) rfl hS2 ?_
                      refine D.no 4 rfl (by kernel_rfl) (fun _ _ _ h => h) rfl hS2 ?_
                      refine D.no 5 rfl (by kernel_rfl) (fun _ _ _ h => h) rfl hS2 ?_
                      refine D.no 6 rfl (by kernel_rfl) (fun _ _ _ h => h) rfl hS2 ?_
                      refine D.no 7 rfl (by kernel_rfl) (fun _ _ _ h => h) rfl hS2 ?_
                      refine D.no 8 rfl (by kernel_rfl) (fun _ _ _ h => h) rfl hS2 ?_
                      refine D.no 9 rfl (by kernel_rfl) (fun _ _ _ h => h) rfl hS2 ?_
                      refine D.no 10 rfl (by kernel_rfl) (fun _ _ _ h => h) rfl hS2 ?_
                      refine D.no 11 rfl (by kernel_rfl) (fun _ _ _ h => h) rfl hS2 ?_
                      refine D.no 12 rfl (by kernel_rfl) (fun _ _ _ h => h) rfl hS2 ?_
                      refine D.no 13 rfl (by kernel_rfl) (fun _ _ _ h => h) rfl hS2 ?_
                      refine D.no 14 rfl (by kernel_rfl) (fun _ _ _ h => h) rfl hS2 ?_
                      refine D.no 15 rfl (by kernel_rfl) (fun _ _ _ h => h) rfl hS2 ?_
                      refine D.no 16 rfl (by kernel_rfl) (fun _ _ _ h => h) rfl hS2 ?_
                      refine D.no 17 rfl (by kernel_rfl) (fun _ _ _ h => h) rfl hS2 ?_
                      refine D.no 18 rfl (by kernel_rfl) (fun _ _ _ h => h) rfl hS2 ?_
                      refine D.no 19 rfl (by kernel_rfl) (fun _ _ _ h => h) rfl hS2 ?_
                      refine D.no 20 rfl (by kernel_rfl) (fun _ _ _ h => h) rfl hS2 ?_
                      refine D.no 21 rfl (by kernel_rfl) (fun _ _ _ h => h) rfl hS2 ?_
                      refine D.no 22 rfl (by kernel_rfl) (fun _ _ _ h => h) rfl hS2 ?_
                      refine D.no 23 rfl (by kernel_rfl) (fun _ _ _ h => h) rfl hS2 ?_
                      refine D.no 24 rfl (by kernel_rfl) (fun _ _ _ h => h) rfl hS2 ?_
                      refine D.no 25 rfl (by kernel_rfl) (fun _ _ _ h => h) rfl hS2 ?_
                      refine D.no 26 rfl (by kernel_rfl) (fun _ _ _ h => h) rfl hS2 ?_
                      refine D.no 27 rfl (by kernel_rfl) (fun _ _ _ h => h) rfl hS2 ?_
                      refine D.no 28 rfl (by kernel_rfl) (fun _ _ _ h => h) rfl hS2 ?_
                      refine D.no 29 rfl (by kernel_rfl) (fun _ _ _ h => h) rfl hS2 ?_
                      refine D.no 30 rfl (by kernel_rfl) (fun _ _ _ h => h) rfl hS2 ?_
                      refine D.no 31 rfl (by kernel_rfl) (fun _ _ _ h => h) rfl hS2 ?_
                      refine D.no 32 rfl (by kernel_rfl) (fun _ _ _ h => h) rfl hS2 ?_
                      refine D.no 33 rfl (by kernel_rfl) (fun _ _ _ h => h) rfl hS2 ?_
                      refine D.va 34 rfl (by kernel_rfl) (fun _ _ _ h => h) rfl (fun w' hw => X.pickT rfl (by conv => lhs; whnf)) hS2 ?_
                      refine D.va 35 rfl (by kernel_rfl) (fun _ _ _ h => h) rfl (fun w' hw => X.assign (by conv => lhs; whnf)) hS2 ?_
                      refine D.done (by kernel_rfl) ?_
                      refine J.region ?_
                      refine L.va rfl (X.move (by conv => lhs; whnf)) ?_
                      refine L.va rfl (X.add rfl rfl (by omega)) ?_
                      refine L.va rfl (X.assign (by conv => lhs; whnf)) ?_
                      refine L.nil ?_
                      -- loopend
                      refine ⟨(i + 1, true), At2 (by first | rfl | exact at_int rfl (by omega) | exact at_slice rfl (by omega) | exact at_int rfl (by simp)) (by first | rfl | exact at_int rfl (by omega) | exact at_slice rfl (by omega) | exact at_int rfl (by simp)), (by (iterate 44 refine Agr.lk rfl ?_); exact Agr.lk rfl (Agr.hav rfl Agr.rfl')), ?_⟩
                      obtain ⟨u1, u2⟩ := up true (by intro h; exact h) (by intros; rfl)
                      exact ⟨⟨by dsimp only; omega, he10.trans hS2, u1, u2⟩, by dsimp only; omega⟩
                  · obtain rfl : i = n1 := by dsimp only at hlt2; omega
                    obtain rfl : b = true := by
                      rcases WC a with h | ⟨j, x, r1, r2, r3, r4, r5⟩
                      · exact hb1 h
                      · exact hb2 j x r1 r2 r3 r4 r5
                    refine J.exit ?_
                    refine J.seq ?_
                    refine J.region ?_
                    refine L.va rfl (X.move (by conv => lhs; whnf)) ?_
                    refine L.va rfl (X.not rfl) ?_
                    refine L.nil ?_
                    -- cond
                    refine J.iteF rfl ?_
                    refine J.skip ?_
                    refine J.region ?_
                    refine L.va rfl (X.move (by conv => lhs; whnf)) ?_
                    refine L.va rfl (X.add rfl rfl (by omega)) ?_
                    refine L.va rfl (X.assign (by conv => lhs; whnf)) ?_
                    refine L.nil ?_
                    -- loopend
                    refine ⟨a + 1, At1 (by first | rfl | exact at_int rfl (by omega) | exact at_slice rfl (by omega) | exact at_int rfl (by simp)), (by (iterate 9 refine Agr.lk rfl ?_); refine Agr.lk rfl ?_; refine Agr.hav rfl ?_; (iterate 21 refine Agr.lk rfl ?_); exact Agr.lk rfl (Agr.hav rfl Agr.rfl')), ?_⟩
                    exact ⟨⟨by omega, he8.trans e810⟩, by omega⟩
              · refine J.exit ?_
                -- cutend
                refine ⟨(), At0 , (by (iterate 2 refine Agr.lk rfl ?_); refine Agr.lk rfl ?_; refine Agr.hav rfl ?_; (iterate 1 refine Agr.lk rfl ?_); exact Agr.rfl'), ?_⟩
                exact he8
          · rintro ⟨⟩ g w8 he8
            refine J.seq ?_
            refine J.region ?_
            -- callfn bushel/bushellaw19.awake
            refine L.call rfl en_16 rfl (awake19 w8) ?_
            rintro e w9 ⟨rfl, he9⟩
            refine ⟨_, rfl, ?_⟩
            refine L.va rfl (X.assign (by conv => lhs; whnf)) ?_
            refine L.nil ?_
            -- ret
            refine J.ret ?_
            refine fin1 ?_
            exact ⟨rfl, (he07.trans he8).trans he9⟩
end Go.Proofs.Ytdmfikedojgjbaa
