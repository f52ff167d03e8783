/-
  The law SealFinds: the plain law, and the walk.
-/
import Derived.Test.YtfgkbghagklacaaDoorLSealPuts
import Derived.Test.YtfgkbghagklacaaDoorLFrameFinds
namespace Go.Proofs.YtfgkbghagklacaaDoor
open Go.RowKit H
open Byts Seal
open Fram (getD_nn)
open Crc (xb bst sameB)
set_option linter.unusedVariables false
theorem sfinds (H S ys : List Int) (p k : Nat) (hS : S = H ++ smZ H) (hH : H.length = 1020) (hb : ∀ z ∈ S, 0 ≤ z ∧ z < 256) (hy : ∀ z ∈ ys, 0 ≤ z ∧ z < 256) (hk : k ≤ 4) (hp : p + k ≤ 1024) :
    (sameB ys k = true → bst S p ys k = S) ∧ (sameB ys k = false → sE smZ (bst S p ys k) = 13) := by
  have hSl : S.length = 1024 := by rw [hS, List.length_append, hH, smZ_length]
  constructor
  · intro hs
    exact Crc.bst_same hb (by omega) hs
  · intro hs
    have hm := Crc.bst_more (k := k) (p := p) 0#32 hb hy (by omega) hk
    have hX := Crc.bst_length (zs := S) (ys := ys) (p := p) (k := k) (by omega)
    generalize bst S p ys k = X at hm hX
    unfold sE
    rw [if_neg (by rw [hX]; omega), if_pos]
    intro hc
    have hr : Crc.more 0#32 S = Crc.more 0#32 X := by
      have hsplit : X = X.take 1020 ++ smZ (X.take 1020) := by
        rw [← hc, List.take_append_drop]
      rw [hsplit, hS, residue, residue]
    rw [hm, hs] at hr
    cases hr
set_option maxRecDepth 100000 in
set_option maxHeartbeats 1000000 in
theorem law_SealFinds (w : World) (ht : Tab w) (vs0 : List Value) (a0 : (Nm .i64) × (Nm .u64) × (Nm .u64) × (List (Nm .u8))) (hl0 : Lay.lies w w.heap.size vs0 a0) (x1 : Nm .i64) (vs2 : List Value) (a2 : Vec 4 (Nm .u8)) (hl2 : Lay.lies w w.heap.size vs2 a2) :
    Calls Tryd.prog 11 #[.agg vs0.toArray, .int .i64 x1.z, .agg vs2.toArray] w fun e w' => e = .returned (.bool true) ∧ Below w.heap.size w w' := by
  obtain ⟨A, n, c, rfl, hn, hc, hr⟩ := sheet4 hl0
  obtain ⟨ys, hy4, hyb, rfl⟩ := vec4 hl2
  have hz := zsOf_u8 a0.2.2.2
  generalize zsOf a0.2.2.2 = zs at hr hz
  obtain ⟨q0, q1⟩ := x1.i64
  generalize x1.z = q at q0 q1
  obtain ⟨x0, x1⟩ := a0.2.1.u64
  obtain ⟨y0, y1⟩ := a0.2.2.1.u64
  generalize a0.1.z = k
  generalize a0.2.1.z = a at x0 x1
  generalize a0.2.2.1.z = b at y0 y1
  unfold maxLen at hc
  have hl : zs.length = n := by have := hr.1; simpa [nums] using this
  obtain ⟨u0, u1, u2, u3, rfl⟩ : ∃ u0 u1 u2 u3, ys = [u0, u1, u2, u3] := by
    match ys, hy4 with
    | [u0, u1, u2, u3], _ => exact ⟨_, _, _, _, rfl⟩
  have ho : Ext w w := Ext.refl w
  refine enter Tryd.func11 rfl (by kernel_rfl) ?_
  refine J.seq ?_
  refine J.region ?_
  -- box
  refine L.boxA (l := [_, _, _, _]) rfl rfl ?_
  intro b1 w1 hb1 hs1 hk1 he1
  replace ho := ho.trans he1
  -- box
  refine L.boxA (l := [_, _, _, _]) rfl rfl ?_
  intro b2 w2 hb2 hs2 hk2 he2
  replace hk1 := hk1.ext he2
  replace ho := ho.ext he2
  refine L.va rfl (X.assign (by conv => lhs; whnf)) ?_
  refine L.nil ?_
  -- until
  refine J.cut (X := Unit) [6, 12, 13, 14, 15, 16, 17, 18, 19, 20, 21, 22, 23, 24, 25, 26, 27, 28, 29, 30, 31, 32, 33, 34] (fun _ => []) (fun _ w' => w' = w2 ∧ 1 ≤ k ∧ k ≤ 255 ∧ n ≤ 1001 ∧ 0 ≤ q ∧ q ≤ 1023) ?_ ?_
  · refine J.seq ?_
    refine J.region ?_
    refine L.va rfl (X.fieldAddr rfl Tryd.underlying35 rfl sz_3 (by decide)) ?_
    refine L.va rfl (X.load rfl sc_3 (by first | exact Ld.blk hk1 rfl)) ?_
    refine L.va rfl (X.lss rfl rfl) ?_
    refine L.va rfl (X.move (by conv => lhs; whnf)) ?_
    -- case t15
    refine L.caseDec (k := 15) rfl (fun h1 => ?_) (fun h1 => ?_)
    · refine L.no rfl ?_
      refine L.no rfl ?_
      refine L.no rfl ?_
      refine L.va rfl (X.pickT rfl (by conv => lhs; whnf)) ?_
      refine L.va rfl (X.move (by conv => lhs; whnf)) ?_
      refine L.no rfl ?_
      refine L.no rfl ?_
      refine L.no rfl ?_
      refine L.no rfl ?_
      refine L.va rfl (X.pickT rfl (by conv => lhs; whnf)) ?_
      refine L.va rfl (X.move (by conv => lhs; whnf)) ?_
      refine L.no rfl ?_
      refine L.no rfl ?_
      refine L.va rfl (X.pickT rfl (by conv => lhs; whnf)) ?_
      refine L.va rfl (X.move (by conv => lhs; whnf)) ?_
      refine L.no rfl ?_
      refine L.no rfl ?_
      refine L.va rfl (X.pickT rfl (by conv => lhs; whnf)) ?_
      refine L.nil ?_
      -- cond
      refine J.iteT rfl ?_
      refine J.seq ?_
      refine J.region ?_
      -- callfn bushel/bushellaw20.awake
      refine L.call rfl en_21 rfl (awake20 _ (ht.ext ho)) ?_
      rintro e w3 ⟨rfl, hb⟩
      refine ⟨_, rfl, ?_⟩
      refine L.va rfl (X.assign (by conv => lhs; whnf)) ?_
      refine L.nil ?_
      -- ret
      refine J.ret ?_
      refine thn_ret <| ?_
      refine fin1 ?_
      exact ⟨rfl, ho.trans hb⟩
    · refine L.va rfl (X.fieldAddr rfl Tryd.underlying35 rfl sz_3 (by decide)) ?_
      refine L.va rfl (X.load rfl sc_3 (by first | exact Ld.blk hk1 rfl)) ?_
      refine L.va rfl (X.gtr rfl rfl) ?_
      refine L.va rfl (X.pickF rfl (by conv => lhs; whnf)) ?_
      refine L.va rfl (X.move (by conv => lhs; whnf)) ?_
      -- case t20
      refine L.caseDec (k := 20) rfl (fun h2 => ?_) (fun h2 => ?_)
      · refine L.no rfl ?_
        refine L.no rfl ?_
        refine L.no rfl ?_
        refine L.no rfl ?_
        refine L.va rfl (X.pickT rfl (by conv => lhs; whnf)) ?_
        refine L.va rfl (X.move (by conv => lhs; whnf)) ?_
        refine L.no rfl ?_
        refine L.no rfl ?_
        refine L.va rfl (X.pickT rfl (by conv => lhs; whnf)) ?_
        refine L.va rfl (X.move (by conv => lhs; whnf)) ?_
        refine L.no rfl ?_
        refine L.no rfl ?_
        refine L.va rfl (X.pickT rfl (by conv => lhs; whnf)) ?_
        refine L.nil ?_
        -- cond
        refine J.iteT rfl ?_
        refine J.seq ?_
        refine J.region ?_
        -- callfn bushel/bushellaw20.awake
        refine L.call rfl en_21 rfl (awake20 _ (ht.ext ho)) ?_
        rintro e w3 ⟨rfl, hb⟩
        refine ⟨_, rfl, ?_⟩
        refine L.va rfl (X.assign (by conv => lhs; whnf)) ?_
        refine L.nil ?_
        -- ret
        refine J.ret ?_
        refine thn_ret <| ?_
        refine fin1 ?_
        exact ⟨rfl, ho.trans hb⟩
      · refine L.va rfl (X.fieldAddr rfl Tryd.underlying35 rfl sz_22 (by decide)) ?_
        refine L.va rfl (X.load rfl sc_22 (by first | exact Ld.blk hk1 rfl)) ?_
        refine L.va rfl (X.len rfl Tryd.underlying22) ?_
        refine L.va rfl (X.gtr rfl rfl) ?_
        refine L.va rfl (X.pickF rfl (by conv => lhs; whnf)) ?_
        refine L.va rfl (X.move (by conv => lhs; whnf)) ?_
        -- case t26
        refine L.caseDec (k := 26) rfl (fun h3 => ?_) (fun h3 => ?_)
        · refine L.no rfl ?_
          refine L.no rfl ?_
          refine L.va rfl (X.pickT rfl (by conv => lhs; whnf)) ?_
          refine L.va rfl (X.move (by conv => lhs; whnf)) ?_
          refine L.no rfl ?_
          refine L.no rfl ?_
          refine L.va rfl (X.pickT rfl (by conv => lhs; whnf)) ?_
          refine L.nil ?_
          -- cond
          refine J.iteT rfl ?_
          refine J.seq ?_
          refine J.region ?_
          -- callfn bushel/bushellaw20.awake
          refine L.call rfl en_21 rfl (awake20 _ (ht.ext ho)) ?_
          rintro e w3 ⟨rfl, hb⟩
          refine ⟨_, rfl, ?_⟩
          refine L.va rfl (X.assign (by conv => lhs; whnf)) ?_
          refine L.nil ?_
          -- ret
          refine J.ret ?_
          refine thn_ret <| ?_
          refine fin1 ?_
          exact ⟨rfl, ho.trans hb⟩
        · refine L.va rfl (X.move (by conv => lhs; whnf)) ?_
          refine L.va rfl (X.lss rfl rfl) ?_
          refine L.va rfl (X.pickF rfl (by conv => lhs; whnf)) ?_
          refine L.va rfl (X.move (by conv => lhs; whnf)) ?_
          -- case t30
          refine L.caseDec (k := 30) rfl (fun h4 => ?_) (fun h4 => ?_)
          · refine L.no rfl ?_
            refine L.no rfl ?_
            refine L.va rfl (X.pickT rfl (by conv => lhs; whnf)) ?_
            refine L.nil ?_
            -- cond
            refine J.iteT rfl ?_
            refine J.seq ?_
            refine J.region ?_
            -- callfn bushel/bushellaw20.awake
            refine L.call rfl en_21 rfl (awake20 _ (ht.ext ho)) ?_
            rintro e w3 ⟨rfl, hb⟩
            refine ⟨_, rfl, ?_⟩
            refine L.va rfl (X.assign (by conv => lhs; whnf)) ?_
            refine L.nil ?_
            -- ret
            refine J.ret ?_
            refine thn_ret <| ?_
            refine fin1 ?_
            exact ⟨rfl, ho.trans hb⟩
          · refine L.va rfl (X.move (by conv => lhs; whnf)) ?_
            refine L.va rfl (X.gtr rfl rfl) ?_
            refine L.va rfl (X.pickF rfl (by conv => lhs; whnf)) ?_
            refine L.nil ?_
            -- cond
            refine J.dec rfl (fun h5 => ?_) (fun h5 => ?_)
            · refine J.seq ?_
              refine J.region ?_
              -- callfn bushel/bushellaw20.awake
              -- callfn bushel/bushellaw20.awake
              refine L.call rfl en_21 rfl (awake20 _ (ht.ext ho)) ?_
              rintro e w3 ⟨rfl, hb⟩
              refine ⟨_, rfl, ?_⟩
              refine L.va rfl (X.assign (by conv => lhs; whnf)) ?_
              refine L.nil ?_
              -- ret
              refine J.ret ?_
              refine thn_ret <| ?_
              refine fin1 ?_
              exact ⟨rfl, ho.trans hb⟩
            · refine J.skip ?_
              -- cutend
              refine ⟨(), At0 , (by (iterate 26 refine Agr.lk rfl ?_); exact Agr.rfl'), ?_⟩
              exact ⟨rfl, by omega, by omega, by omega, by omega, by omega⟩
  · rintro u g w3 ⟨rfl, k1, k2, n1, q2, q3⟩
    obtain ⟨p, rfl⟩ := Int.eq_ofNat_of_zero_le q2
    have hz3 := ho.le
    refine J.seq ?_
    refine J.region ?_
    refine L.va rfl ((by first | exact X.loadAgg rfl (range_l hk1) Tryd.underlying35 rfl (by kernel_rfl) | exact X.loadAgg rfl (range_blk hk1) Tryd.underlying35 rfl (by kernel_rfl))) ?_
    -- callfn bushel/bushelref20.Put
    refine L.call rfl en_31 rfl (frefput20 k a b A n c zs _ k1 k2 x0 x1 y0 y1 n1 ((hr.ext ho).here (by omega)) hz) ?_
    rintro e w4 ⟨A4, c4, rfl, ho4, hb4⟩
    refine ⟨_, rfl, ?_⟩
    have hb4 : Ext w3 w4 := hb4
    replace hk1 := hk1.ext hb4
    replace ho := ho.ext hb4
    replace hk2 := hk2.ext hb4
    have hzl : w3.heap.size ≤ w4.heap.size := hb4.le
    generalize hSS : sec k a b zs (smZ (hd k a b zs)) = S at ho4
    have hSb : ∀ z ∈ S, 0 ≤ z ∧ z < 256 := by rw [← hSS]; exact sec_bytes k a b zs (by omega) hz
    have hSl : S.length = 1024 := by rw [← hSS]; unfold sec; rw [List.length_append, hd_length k a b zs (by omega), smZ_length]
    have hry : ∀ w', Below w3.heap.size w4 w' → Reads w' w3.heap.size 1 (some ⟨b2, 0, none⟩) 4 (nums .u8 [u0, u1, u2, u3]) := fun w' h => blk_reads (hk2.low h (by omega)) (by omega) rfl
    have hfin := sfinds (hd k a b zs) S [u0, u1, u2, u3] p
    generalize hys : [u0, u1, u2, u3] = ys at hyb hry hfin
    have hyl : ys.length = 4 := by rw [← hys]; rfl
    refine L.va rfl (X.assign (by conv => lhs; whnf)) ?_
    refine L.nil ?_
    refine J.seq ?_
    refine J.region ?_
    refine L.va rfl (X.assign (by conv => lhs; whnf)) ?_
    refine L.nil ?_
    -- until
    refine J.cut (X := Nat) [8, 9, 37, 38, 39, 40, 41, 42, 43, 44, 45, 46, 47, 48, 49, 50, 51, 52, 53, 54, 55, 56, 57, 58, 59, 60, 61, 62, 63, 64, 65, 66, 67, 68] (fun k => [(8, .bool (sameB ys k))]) (fun k w' => w'.ownsRow w3.heap.size 5 1 (.slice A4 1024 c4) 1024 (nums .u8 (bst S p ys k)) ∧ Below w3.heap.size w4 w' ∧ k ≤ 4 ∧ p + k ≤ 1024) ?_ ?_
    · refine J.seq ?_
      refine J.region ?_
      refine L.va rfl (X.assign (by conv => lhs; whnf)) ?_
      refine L.nil ?_
      refine J.block ?_
      -- loop
      refine J.loop (X := Nat) [8, 9, 37, 38, 39, 40, 41, 42, 43, 44, 45, 46, 47, 48, 49, 50, 51, 52, 53, 54, 55, 56, 57, 58, 59, 60, 61, 62, 63, 64, 65, 66, 67, 68] (fun k => [(9, .int .i64 (k : Int)), (8, .bool (sameB ys k))]) (fun k w' => w'.ownsRow w3.heap.size 5 1 (.slice A4 1024 c4) 1024 (nums .u8 (bst S p ys k)) ∧ Below w3.heap.size w4 w' ∧ k ≤ 4 ∧ p + k ≤ 1024) (fun k => 4 - k) (0) (At2 (by first | rfl | exact at_int rfl (by omega) | exact at_slice rfl (by omega) | exact at_int rfl (by simp)) (by first | rfl | exact at_int rfl (by omega) | exact at_slice rfl (by omega) | exact at_int rfl (by simp))) ?_ ?_
      · exact ⟨by rw [Crc.bst_zero]; exact ho4, Below.refl _ _, by omega, by omega⟩
      · rintro j g w5 ⟨ho5, hb5, hj, hpj⟩
        refine J.seq ?_
        refine J.seq ?_
        refine J.region ?_
        refine L.va rfl (X.move (by conv => lhs; whnf)) ?_
        refine L.va rfl (X.lss rfl rfl) ?_
        refine L.va rfl (X.move (by conv => lhs; whnf)) ?_
        -- case t39
        refine L.caseDec (k := 39) rfl (fun hlt => ?_) (fun hlt => ?_)
        · refine L.va rfl (X.move (by conv => lhs; whnf)) ?_
          refine L.va rfl (X.move (by conv => lhs; whnf)) ?_
          refine L.va rfl (X.add rfl rfl (by omega)) ?_
          refine L.va rfl (X.lss rfl rfl) ?_
          refine L.va rfl (X.pickT rfl (by conv => lhs; whnf)) ?_
          refine L.nil ?_
          -- cond
          refine J.dec rfl (fun hin => ?_) (fun hin => ?_)
          · have hry5 := hry w5 hb5
            have hzb := hb5.size
            have bz := Crc.getD_byte hSb (p + j)
            have by' := Crc.getD_byte hyb j
            have hxb := u8_xb _ _ bz by'
            have hbset := Crc.bst_set (zs := S) (ys := ys) (p := p) (k := j) (by omega)
            have hold : (bst S p ys j).getD (p + j) 0 = S.getD (p + j) 0 := by
              have := Crc.bst_at (zs := S) (ys := ys) (p := p) (k := j) (by omega)
              simp [List.getD, this]
            refine J.skip ?_
            refine J.seq ?_
            refine J.block ?_
            refine J.seq ?_
            -- draw
            refine J.draw (S := Below w3.heap.size w5) mixed (fun w6 hSE hS_h => ?_)
            have hS : (Below w3.heap.size w5) w6 := Below.mono hSE (by omega)
            have ho6 := ho5.ext hSE
            refine D.va 0 rfl (by kernel_rfl) (fun _ _ _ h => h) rfl (fun w' hw => X.move (by conv => lhs; whnf)) hS ?_
            refine D.va 1 rfl (by kernel_rfl) (fun _ _ _ h => h) rfl (fun w' hw => X.move (by conv => lhs; whnf)) hS ?_
            refine D.va 2 rfl (by kernel_rfl) (fun _ _ _ h => h) rfl (fun w' hw => X.move (by conv => lhs; whnf)) hS ?_
            refine D.va 3 rfl (by kernel_rfl) (fun _ _ _ h => h) rfl (fun w' hw => X.add rfl rfl (by omega)) hS ?_
            refine D.va 4 rfl (by kernel_rfl) (fun _ _ _ h => h) rfl (fun w' hw => X.move (by conv => lhs; whnf)) hS ?_
            refine D.va 5 rfl (by kernel_rfl) (fun _ _ _ h => h) rfl (fun w' hw => X.move (by conv => lhs; whnf)) hS ?_
            refine D.va 6 rfl (by kernel_rfl) (fun _ _ _ h => h) rfl (fun w' hw => X.move (by conv => lhs; whnf)) hS ?_
            refine D.va 7 rfl (by kernel_rfl) (fun _ _ _ h => h) rfl (fun w' hw => X.add rfl rfl (by omega)) hS ?_
            refine D.va 8 rfl (by kernel_rfl) (fun _ _ _ h => h) rfl (fun w' hw => (by first | exact X.index1n rfl rfl Tryd.underlying22 sz_5 (by first | exact Option.some_ne_none _ | exact hry5.some_ (by omega) | exact own_ne ho5 (by omega)) (by omega) | exact X.index1 rfl rfl Tryd.underlying22 sz_5 (by first | exact Option.some_ne_none _ | exact hry5.some_ (by omega) | exact own_ne ho5 (by omega)) (by omega))) hS ?_
            refine D.va 10 rfl (by kernel_rfl) (fun _ _ _ h => h) rfl (fun w' hw => X.move (by conv => lhs; whnf)) hS ?_
            refine D.va 11 rfl (by kernel_rfl) (fun _ _ _ h => h) rfl (fun w' hw => X.indexArr1n rfl rfl Tryd.underlying28 sz_5 (by omega)) hS ?_
            refine D.va 12 rfl (by kernel_rfl) (fun _ _ _ h => h) rfl (fun w' hw => X.load rfl sc_5 (by first | exact Ld.num (hry5.low hw (by omega)) (by omega) | exact Ld.own ho6 (by omega))) hS ?_
            -- load
            refine D.one 9 (by kernel_rfl) rfl ?_
            refine L.va rfl (X.load rfl sc_5 (Ld.own ho6 (by omega))) ?_
            refine L.nil ?_
            refine ⟨hS, ?_⟩
            refine D.va 13 rfl (by kernel_rfl) (fun _ _ _ h => h) rfl (fun w' hw => X.xor rfl rfl) hS ?_
            refine D.va 14 rfl (by kernel_rfl) (fun _ _ _ h => h) rfl (fun w' hw => (by first | exact X.index1n rfl rfl Tryd.underlying22 sz_5 (by first | exact Option.some_ne_none _ | exact hry5.some_ (by omega) | exact own_ne ho5 (by omega)) (by omega) | exact X.index1 rfl rfl Tryd.underlying22 sz_5 (by first | exact Option.some_ne_none _ | exact hry5.some_ (by omega) | exact own_ne ho5 (by omega)) (by omega))) hS ?_
            -- store
            refine D.one 15 (by kernel_rfl) rfl ?_
            refine L.storeON rfl rfl (by conv => lhs; whnf) sz_5 (ho6) (by omega) ?_
            intro w7 ho7 hg7 hb7 hs7
            have hS1 := hS.trans hb7
            refine L.nil ?_
            refine ⟨hS1, ?_⟩
            refine D.done (by kernel_rfl) ?_
            refine J.region ?_
            refine L.va rfl (X.move (by conv => lhs; whnf)) ?_
            refine L.va rfl (X.move (by conv => lhs; whnf)) ?_
            -- case t63
            rw [hold, hxb, hbset] at ho7
            have hb7' : Below w3.heap.size w4 w7 := hb5.trans hS1
            have hry7 := hry w7 hb7'
            have hsuc := Crc.sameB_succ (ys := ys) (k := j)
            -- case t63
            refine L.caseB (k := 63) rfl (fun hsm => ?_) (fun hsm => ?_)
            · refine L.va rfl (X.move (by conv => lhs; whnf)) ?_
              refine L.va rfl (X.indexArr1n rfl rfl Tryd.underlying28 sz_5 (by omega)) ?_
              refine L.va rfl (X.load rfl sc_5 (by first | exact Ld.num hry7 (by omega) | exact Ld.own ho6 (by omega))) ?_
              refine L.va rfl (X.eql rfl rfl) ?_
              refine L.va rfl (X.pickT rfl (by conv => lhs; whnf)) ?_
              refine L.va rfl (X.assign (by conv => lhs; whnf)) ?_
              refine L.nil ?_
              refine J.region ?_
              refine L.va rfl (X.move (by conv => lhs; whnf)) ?_
              refine L.va rfl (X.add rfl rfl (by omega)) ?_
              refine L.va rfl (X.assign (by conv => lhs; whnf)) ?_
              refine L.nil ?_
              -- loopend
              refine ⟨j + 1, At2 (rfl) (at_bool rfl (by rw [hsuc, hsm, Bool.true_and]; rfl)), (by (iterate 36 refine Agr.lk rfl ?_); exact Agr.lk rfl (Agr.hav rfl Agr.rfl')), ?_⟩
              exact ⟨⟨ho7, hb7', by omega, by omega⟩, by omega⟩
            · refine L.no rfl ?_
              refine L.no rfl ?_
              refine L.no rfl ?_
              refine L.no rfl ?_
              refine L.va rfl (X.pickF rfl (by conv => lhs; whnf)) ?_
              refine L.va rfl (X.assign (by conv => lhs; whnf)) ?_
              refine L.nil ?_
              refine J.region ?_
              refine L.va rfl (X.move (by conv => lhs; whnf)) ?_
              refine L.va rfl (X.add rfl rfl (by omega)) ?_
              refine L.va rfl (X.assign (by conv => lhs; whnf)) ?_
              refine L.nil ?_
              -- loopend
              refine ⟨j + 1, At2 (rfl) (at_bool rfl (by rw [hsuc, hsm, Bool.false_and])), (by (iterate 36 refine Agr.lk rfl ?_); exact Agr.lk rfl (Agr.hav rfl Agr.rfl')), ?_⟩
              exact ⟨⟨ho7, hb7', by omega, by omega⟩, by omega⟩
          · refine J.exit ?_
            -- cutend
            refine ⟨j, At1 (by first | rfl | exact at_int rfl (by omega) | exact at_slice rfl (by omega) | exact at_int rfl (by simp)), (by (iterate 9 refine Agr.lk rfl ?_); refine Agr.lk rfl ?_; refine Agr.hav rfl ?_; (iterate 1 refine Agr.lk rfl ?_); exact Agr.rfl'), ?_⟩
            exact ⟨ho5, hb5, hj, hpj⟩
        · refine L.no rfl ?_
          refine L.no rfl ?_
          refine L.no rfl ?_
          refine L.no rfl ?_
          refine L.va rfl (X.pickF rfl (by conv => lhs; whnf)) ?_
          refine L.nil ?_
          -- cond
          refine J.iteF rfl ?_
          refine J.exit ?_
          -- cutend
          refine ⟨j, At1 (by first | rfl | exact at_int rfl (by omega) | exact at_slice rfl (by omega) | exact at_int rfl (by simp)), (by (iterate 9 refine Agr.lk rfl ?_); refine Agr.lk rfl ?_; refine Agr.hav rfl ?_; (iterate 1 refine Agr.lk rfl ?_); exact Agr.rfl'), ?_⟩
          exact ⟨ho5, hb5, hj, hpj⟩
    · rintro j g w5 ⟨ho5, hb5, hj, hpj⟩
      have hzb := hb5.size
      have hc5 := own_bd ho5
      have ho' : Ext w w5 := ho.low hb5 (by omega)
      have hXb := Crc.bst_bytes hSb hyb (p := p) (k := j)
      have hfin := hfin j hSS.symm (hd_length k a b zs (by omega)) hSb hyb hj hpj
      have hk1' := hk1.below hb5 (by omega)
      refine J.seq ?_
      refine J.region ?_
      refine L.va rfl (X.move (by conv => lhs; whnf)) ?_
      -- callfn bushel/seal.Get
      refine L.call rfl en_29 rfl (sget_any A4 1024 c4 (bst S p ys j) _ (ht.ext ho') (own_reads ho5) hXb hc5.1 (by have := hc5.2; unfold maxLen at this; omega)) ?_
      rintro e w6 ⟨A6, c6, rfl, hr6, he6⟩
      refine ⟨_, rfl, ?_⟩
      have he6 : Ext w5 w6 := he6
      replace ho := ho'.trans he6
      replace hk1' := hk1'.ext he6
      generalize hl6 : (sV smZ (bst S p ys j)).length = q6 at hr6
      refine L.va rfl (X.move (by conv => lhs; whnf)) ?_
      refine L.va rfl (X.extract rfl rfl) ?_
      refine L.va rfl (X.extract rfl rfl) ?_
      -- alloc
      refine L.alloc rfl zr_35 ?_
      intro b7 w7 hb7 hs7 hk7 he7
      replace ho := ho.ext he7
      replace hr6 := hr6.ext he7
      replace hk1' := hk1'.ext he7
      -- store
      refine L.storeAgg (vs := [_, _, _, _]) rfl rfl rfl rfl sz_35 (hk7) rfl ?_
      intro w8 hk8 hg8 hs8
      have hz7 := he6.le
      have ho8 := ho.grw hg8 (by intro g hg; injection hg with hg; omega)
      have hr8 := hr6.grw hg8 (by intro g hg; injection hg with hg; omega)
      have hk18 := hk1'.grown hg8 (by intro hg; injection hg with hg; omega)
      refine L.va rfl (X.assign (by conv => lhs; whnf)) ?_
      refine L.nil ?_
      refine J.seq ?_
      refine J.seq ?_
      refine J.region ?_
      refine L.va rfl (X.move (by conv => lhs; whnf)) ?_
      refine L.nil ?_
      -- cond
      cases hsb : sameB ys j
      · have he13 := hfin.2 hsb
        have eK : sK smZ (bst S p ys j) = 0 := by unfold sK; rw [if_neg (by rw [he13]; decide)]
        have eA : sA smZ (bst S p ys j) = 0 := by unfold sA; rw [if_neg (by rw [he13]; decide)]
        have eB : sB smZ (bst S p ys j) = 0 := by unfold sB; rw [if_neg (by rw [he13]; decide)]
        have eV : sV smZ (bst S p ys j) = [] := by unfold sV; rw [if_neg (by rw [he13]; decide)]
        have hq6 : q6 = 0 := by rw [← hl6, eV]; rfl
        rw [eV] at hr8
        rw [eK, eA, eB] at hk8
        rw [he13, eK, eA, eB]
        subst hq6
        have cS : ∀ w', Ext w8 w' → Calls Tryd.prog 23 #[.agg #[.int .i64 0, .int .u64 0, .int .u64 0, .slice A6 0 c6], .agg #[.int .i64 0, .int .u64 0, .int .u64 0, .slice none 0 0]] w' fun e w'' => e = .returned (.bool true) ∧ Ext w' w'' := fun w' hw' =>
          refsame_any 0 0 0 0 0 0 A6 none 0 c6 0 0 [] [] w' ((hr8.ext hw').here (by omega)) Reads.none_ (by intro z h; cases h) (by intro z h; cases h) (by omega) (by omega)
        refine J.iteF rfl ?_
        refine J.skip ?_
        refine J.seq ?_
        refine J.region ?_
        refine L.va rfl (X.move (by conv => lhs; whnf)) ?_
        refine L.va rfl (X.eql rfl rfl) ?_
        refine L.va rfl (X.move (by conv => lhs; whnf)) ?_
        -- case t87
        refine L.caseDecT (k := 87) rfl (by rfl) ?_
        refine L.va rfl ((by first | exact X.loadAgg rfl (range_l hk18) Tryd.underlying35 rfl (by kernel_rfl) | exact X.loadAgg rfl (range_blk hk18) Tryd.underlying35 rfl (by kernel_rfl) | exact X.loadAgg rfl (range_l hk8) Tryd.underlying35 rfl (by kernel_rfl) | exact X.loadAgg rfl (range_blk hk8) Tryd.underlying35 rfl (by kernel_rfl))) ?_
        refine L.va rfl (X.build (l := [_, _, _, _]) Evs.nil (bld_run Tryd.underlying35 (bp_35 Tryd.underlying35) zr_35 rfl)) ?_
        -- callfn bushel/bushelref20.Same
        refine L.call rfl en_23 rfl (cS _ (Ext.refl _)) ?_
        rintro e wa ⟨rfl, hea⟩
        refine ⟨_, rfl, ?_⟩
        have hea : Ext w8 wa := hea
        replace hk18 := hk18.ext hea
        replace hk8 := hk8.ext hea
        replace ho8 := ho8.ext hea
        replace hr8 := hr8.ext hea
        refine L.va rfl (X.pickT rfl (by conv => lhs; whnf)) ?_
        refine L.va rfl (X.move (by conv => lhs; whnf)) ?_
        -- case t92
        refine L.caseBT (k := 92) rfl (by rfl) ?_
        -- callfn bushel/bushellaw20.awake
        refine L.call rfl en_21 rfl (awake20 _ (ht.ext ho8)) ?_
        rintro e wb ⟨rfl, heb⟩
        refine ⟨_, rfl, ?_⟩
        refine L.va rfl (X.pickT rfl (by conv => lhs; whnf)) ?_
        refine L.va rfl (X.assign (by conv => lhs; whnf)) ?_
        refine L.nil ?_
        -- ret
        refine J.ret ?_
        refine fin1 ?_
        exact ⟨rfl, ho8.trans heb⟩
      · have hX := hfin.1 hsb
        have hss := sec_get smZ smZ_length k a b zs (by omega) (by omega) x0 x1 y0 y1
        rw [hSS] at hss
        rw [hX, hss.1, hss.2.1, hss.2.2.1, hss.2.2.2.1]
        rw [hX, hss.2.1, hss.2.2.1, hss.2.2.2.1] at hk8
        rw [hX, hss.2.2.2.2] at hr8
        rw [hX, hss.2.2.2.2] at hl6
        have cS : ∀ w', Ext w8 w' → Calls Tryd.prog 23 #[.agg #[.int .i64 k, .int .u64 a, .int .u64 b, .slice A n c], .agg #[.int .i64 k, .int .u64 a, .int .u64 b, .slice A6 q6 c6]] w' fun e w'' => e = .returned (.bool true) ∧ Ext w' w'' := by
          intro w' hw'
          have := refsame_any k a b k a b A A6 n c q6 c6 zs zs w' ((hr.ext (ho8.trans hw')).here (by omega)) ((hr8.ext hw').here (by omega)) hz hz (by omega) (by omega)
          simp only [beq_self_eq_true, Bool.and_self] at this
          exact this
        refine J.iteT rfl ?_
        refine J.seq ?_
        refine J.region ?_
        refine L.va rfl (X.move (by conv => lhs; whnf)) ?_
        refine L.va rfl (X.eql rfl rfl) ?_
        refine L.va rfl (X.move (by conv => lhs; whnf)) ?_
        -- case t77
        refine L.caseDecT (k := 77) rfl (by rfl) ?_
        refine L.va rfl ((by first | exact X.loadAgg rfl (range_l hk18) Tryd.underlying35 rfl (by kernel_rfl) | exact X.loadAgg rfl (range_blk hk18) Tryd.underlying35 rfl (by kernel_rfl) | exact X.loadAgg rfl (range_l hk8) Tryd.underlying35 rfl (by kernel_rfl) | exact X.loadAgg rfl (range_blk hk8) Tryd.underlying35 rfl (by kernel_rfl))) ?_
        refine L.va rfl ((by first | exact X.loadAgg rfl (range_l hk18) Tryd.underlying35 rfl (by kernel_rfl) | exact X.loadAgg rfl (range_blk hk18) Tryd.underlying35 rfl (by kernel_rfl) | exact X.loadAgg rfl (range_l hk8) Tryd.underlying35 rfl (by kernel_rfl) | exact X.loadAgg rfl (range_blk hk8) Tryd.underlying35 rfl (by kernel_rfl))) ?_
        -- callfn bushel/bushelref20.Same
        refine L.call rfl en_23 rfl (cS _ (Ext.refl _)) ?_
        rintro e wa ⟨rfl, hea⟩
        refine ⟨_, rfl, ?_⟩
        have hea : Ext w8 wa := hea
        replace hk18 := hk18.ext hea
        replace hk8 := hk8.ext hea
        replace ho8 := ho8.ext hea
        replace hr8 := hr8.ext hea
        refine L.va rfl (X.pickT rfl (by conv => lhs; whnf)) ?_
        refine L.va rfl (X.move (by conv => lhs; whnf)) ?_
        -- case t82
        refine L.caseBT (k := 82) rfl (by rfl) ?_
        -- callfn bushel/bushellaw20.awake
        refine L.call rfl en_21 rfl (awake20 _ (ht.ext ho8)) ?_
        rintro e wb ⟨rfl, heb⟩
        refine ⟨_, rfl, ?_⟩
        refine L.va rfl (X.pickT rfl (by conv => lhs; whnf)) ?_
        refine L.va rfl (X.assign (by conv => lhs; whnf)) ?_
        refine L.nil ?_
        -- ret
        refine J.ret ?_
        refine thn_ret <| ?_
        refine fin1 ?_
        exact ⟨rfl, ho8.trans heb⟩
end Go.Proofs.YtfgkbghagklacaaDoor
