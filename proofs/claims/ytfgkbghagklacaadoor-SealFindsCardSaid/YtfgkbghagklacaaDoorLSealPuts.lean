/-
  The law SealPuts, walked.
-/
import Derived.Test.YtfgkbghagklacaaDoorLSealGets
namespace Go.Proofs.YtfgkbghagklacaaDoor
open Go.RowKit H
open Byts Seal
open Fram (getD_nn)
set_option linter.unusedVariables false
theorem sec_bytes (k a b : Int) (zs : List Int) (hk : 0 ≤ k ∧ k < 256) (hz : ∀ z ∈ zs, 0 ≤ z ∧ z < 256) : ∀ z ∈ sec k a b zs (smZ (hd k a b zs)), 0 ≤ z ∧ z < 256 := by
  intro z hzm
  unfold sec at hzm
  rw [List.mem_append] at hzm
  rcases hzm with h | h
  · exact hd_bytes _ _ _ _ hk hz z h
  · exact smZ_bytes _ z h
set_option maxRecDepth 100000 in
set_option maxHeartbeats 1000000 in
theorem law_SealPuts (w : World) (ht : Tab w) (vs0 : List Value) (a0 : (Nm .i64) × (Nm .u64) × (Nm .u64) × (List (Nm .u8))) (hl0 : Lay.lies w w.heap.size vs0 a0) :
    Calls Tryd.prog 13 #[.agg vs0.toArray] w fun e w' => e = .returned (.bool true) ∧ Below w.heap.size w w' := by
  obtain ⟨A, n, c, rfl, hn, hc, hr⟩ := sheet4 hl0
  have hz := zsOf_u8 a0.2.2.2
  generalize zsOf a0.2.2.2 = zs at hr hz
  obtain ⟨x0, x1⟩ := a0.2.1.u64
  obtain ⟨y0, y1⟩ := a0.2.2.1.u64
  generalize a0.1.z = k
  generalize a0.2.1.z = a at x0 x1
  generalize a0.2.2.1.z = b at y0 y1
  unfold maxLen at hc
  have hl : zs.length = n := by have := hr.1; simpa [nums] using this
  have ho : Ext w w := Ext.refl w
  refine enter Tryd.func13 rfl (by kernel_rfl) ?_
  refine J.seq ?_
  refine J.region ?_
  -- box
  refine L.boxA (l := [_, _, _, _]) rfl rfl ?_
  intro b1 w1 hb1 hs1 hk1 he1
  replace ho := ho.trans he1
  refine L.va rfl (X.assign (by conv => lhs; whnf)) ?_
  refine L.nil ?_
  refine J.seq ?_
  refine J.seq ?_
  refine J.region ?_
  refine L.va rfl (X.fieldAddr rfl Tryd.underlying35 rfl sz_22 (by decide)) ?_
  refine L.va rfl (X.load rfl sc_22 (by first | exact Ld.blk hk1 rfl)) ?_
  refine L.va rfl (X.len rfl Tryd.underlying22) ?_
  refine L.va rfl (X.gtr rfl rfl) ?_
  refine L.nil ?_
  -- cond
  refine J.dec rfl (fun h3 => ?_) (fun h3 => ?_)
  · refine J.seq ?_
    refine J.region ?_
    -- callfn bushel/bushellaw20.awake
    refine L.call rfl en_21 rfl (awake20 _ (ht.ext ho)) ?_
    rintro e w2 ⟨rfl, hb⟩
    refine ⟨_, rfl, ?_⟩
    refine L.va rfl (X.assign (by conv => lhs; whnf)) ?_
    refine L.nil ?_
    -- ret
    refine J.ret ?_
    refine thn_ret <| ?_
    refine fin1 ?_
    exact ⟨rfl, ho.trans hb⟩
  · skip
    by_cases hk : k < 1 ∨ 255 < k
    · refine J.skip ?_
      refine J.seq ?_
      refine J.region ?_
      refine L.va rfl ((by first | exact X.loadAgg rfl (range_l hk1) Tryd.underlying35 rfl (by kernel_rfl) | exact X.loadAgg rfl (range_blk hk1) Tryd.underlying35 rfl (by kernel_rfl))) ?_
      -- callfn bushel/seal.Put
      refine L.call rfl en_35 rfl (put_range k a b A n c _ hk) ?_
      rintro e w2 ⟨rfl, hb⟩
      refine ⟨_, rfl, ?_⟩
      have hb : Ext w1 w2 := hb
      replace hk1 := hk1.ext hb
      replace ho := ho.ext hb
      refine L.va rfl (X.move (by conv => lhs; whnf)) ?_
      refine L.va rfl (X.extract rfl rfl) ?_
      refine L.va rfl (X.extract rfl rfl) ?_
      refine L.va rfl (X.assign (by conv => lhs; whnf)) ?_
      refine L.va rfl (X.assign (by conv => lhs; whnf)) ?_
      refine L.nil ?_
      refine J.seq ?_
      refine J.seq ?_
      refine J.region ?_
      refine L.va rfl (X.fieldAddr rfl Tryd.underlying35 rfl sz_3 (by decide)) ?_
      refine L.va rfl (X.load rfl sc_3 (by first | exact Ld.blk hk1 rfl)) ?_
      refine L.va rfl (X.lss rfl rfl) ?_
      refine L.va rfl (X.move (by conv => lhs; whnf)) ?_
      -- case t20
      rcases hk with hk | hk
      · refine L.caseDecT (k := 20) rfl (by exact hk) ?_
        refine L.no rfl ?_
        refine L.no rfl ?_
        refine L.no rfl ?_
        refine L.va rfl (X.pickT rfl (by conv => lhs; whnf)) ?_
        refine L.nil ?_
        -- cond
        refine J.iteT rfl ?_
        refine J.seq ?_
        refine J.region ?_
        refine L.va rfl (X.move (by conv => lhs; whnf)) ?_
        refine L.va rfl (X.len rfl Tryd.underlying22) ?_
        refine L.va rfl (X.eql rfl rfl) ?_
        refine L.va rfl (X.move (by conv => lhs; whnf)) ?_
        -- case t28
        refine L.caseDecT (k := 28) rfl (by rfl) ?_
        refine L.va rfl (X.move (by conv => lhs; whnf)) ?_
        refine L.va rfl (X.eql rfl rfl) ?_
        refine L.va rfl (X.pickT rfl (by conv => lhs; whnf)) ?_
        refine L.va rfl (X.move (by conv => lhs; whnf)) ?_
        -- case t32
        refine L.caseDecT (k := 32) rfl (by rfl) ?_
        -- callfn bushel/bushellaw20.awake
        refine L.call rfl en_21 rfl (awake20 _ (ht.ext ho)) ?_
        rintro e w3 ⟨rfl, hb⟩
        refine ⟨_, rfl, ?_⟩
        refine L.va rfl (X.pickT rfl (by conv => lhs; whnf)) ?_
        refine L.va rfl (X.assign (by conv => lhs; whnf)) ?_
        refine L.nil ?_
        -- ret
        refine J.ret ?_
        refine thn_ret <| ?_
        refine fin1 ?_
        exact ⟨rfl, ho.trans hb⟩
      · refine L.caseDecF (k := 20) rfl (by omega) ?_
        refine L.va rfl (X.fieldAddr rfl Tryd.underlying35 rfl sz_3 (by decide)) ?_
        refine L.va rfl (X.load rfl sc_3 (by first | exact Ld.blk hk1 rfl)) ?_
        refine L.va rfl (X.gtr rfl rfl) ?_
        refine L.va rfl (X.pickF rfl (by conv => lhs; whnf)) ?_
        refine L.nil ?_
        -- cond
        refine J.decT rfl (by exact hk) ?_
        refine J.seq ?_
        refine J.region ?_
        refine L.va rfl (X.move (by conv => lhs; whnf)) ?_
        refine L.va rfl (X.len rfl Tryd.underlying22) ?_
        refine L.va rfl (X.eql rfl rfl) ?_
        refine L.va rfl (X.move (by conv => lhs; whnf)) ?_
        -- case t28
        refine L.caseDecT (k := 28) rfl (by rfl) ?_
        refine L.va rfl (X.move (by conv => lhs; whnf)) ?_
        refine L.va rfl (X.eql rfl rfl) ?_
        refine L.va rfl (X.pickT rfl (by conv => lhs; whnf)) ?_
        refine L.va rfl (X.move (by conv => lhs; whnf)) ?_
        -- case t32
        refine L.caseDecT (k := 32) rfl (by rfl) ?_
        -- callfn bushel/bushellaw20.awake
        refine L.call rfl en_21 rfl (awake20 _ (ht.ext ho)) ?_
        rintro e w3 ⟨rfl, hb⟩
        refine ⟨_, rfl, ?_⟩
        refine L.va rfl (X.pickT rfl (by conv => lhs; whnf)) ?_
        refine L.va rfl (X.assign (by conv => lhs; whnf)) ?_
        refine L.nil ?_
        -- ret
        refine J.ret ?_
        refine thn_ret <| ?_
        refine fin1 ?_
        exact ⟨rfl, ho.trans hb⟩
    by_cases hn2 : 1001 < n
    · refine J.skip ?_
      refine J.seq ?_
      refine J.region ?_
      refine L.va rfl ((by first | exact X.loadAgg rfl (range_l hk1) Tryd.underlying35 rfl (by kernel_rfl) | exact X.loadAgg rfl (range_blk hk1) Tryd.underlying35 rfl (by kernel_rfl))) ?_
      -- callfn bushel/seal.Put
      refine L.call rfl en_35 rfl (put_long k a b A n c _ (by omega) (by omega) hn2) ?_
      rintro e w2 ⟨rfl, hb⟩
      refine ⟨_, rfl, ?_⟩
      have hb : Ext w1 w2 := hb
      replace hk1 := hk1.ext hb
      replace ho := ho.ext hb
      refine L.va rfl (X.move (by conv => lhs; whnf)) ?_
      refine L.va rfl (X.extract rfl rfl) ?_
      refine L.va rfl (X.extract rfl rfl) ?_
      refine L.va rfl (X.assign (by conv => lhs; whnf)) ?_
      refine L.va rfl (X.assign (by conv => lhs; whnf)) ?_
      refine L.nil ?_
      refine J.seq ?_
      refine J.seq ?_
      refine J.region ?_
      refine L.va rfl (X.fieldAddr rfl Tryd.underlying35 rfl sz_3 (by decide)) ?_
      refine L.va rfl (X.load rfl sc_3 (by first | exact Ld.blk hk1 rfl)) ?_
      refine L.va rfl (X.lss rfl rfl) ?_
      refine L.va rfl (X.move (by conv => lhs; whnf)) ?_
      -- case t20
      refine L.caseDecF (k := 20) rfl (by omega) ?_
      refine L.va rfl (X.fieldAddr rfl Tryd.underlying35 rfl sz_3 (by decide)) ?_
      refine L.va rfl (X.load rfl sc_3 (by first | exact Ld.blk hk1 rfl)) ?_
      refine L.va rfl (X.gtr rfl rfl) ?_
      refine L.va rfl (X.pickF rfl (by conv => lhs; whnf)) ?_
      refine L.nil ?_
      -- cond
      refine J.decF rfl (by omega) ?_
      refine J.skip ?_
      refine J.seq ?_
      refine J.seq ?_
      refine J.region ?_
      refine L.va rfl (X.fieldAddr rfl Tryd.underlying35 rfl sz_22 (by decide)) ?_
      refine L.va rfl (X.load rfl sc_22 (by first | exact Ld.blk hk1 rfl)) ?_
      refine L.va rfl (X.len rfl Tryd.underlying22) ?_
      refine L.va rfl (X.gtr rfl rfl) ?_
      refine L.nil ?_
      -- cond
      refine J.decT rfl (by omega) ?_
      refine J.seq ?_
      refine J.region ?_
      refine L.va rfl (X.move (by conv => lhs; whnf)) ?_
      refine L.va rfl (X.len rfl Tryd.underlying22) ?_
      refine L.va rfl (X.eql rfl rfl) ?_
      refine L.va rfl (X.move (by conv => lhs; whnf)) ?_
      -- case t42
      refine L.caseDecT (k := 42) rfl (by rfl) ?_
      refine L.va rfl (X.move (by conv => lhs; whnf)) ?_
      refine L.va rfl (X.eql rfl rfl) ?_
      refine L.va rfl (X.pickT rfl (by conv => lhs; whnf)) ?_
      refine L.va rfl (X.move (by conv => lhs; whnf)) ?_
      -- case t46
      refine L.caseDecT (k := 46) rfl (by rfl) ?_
      -- callfn bushel/bushellaw20.awake
      refine L.call rfl en_21 rfl (awake20 _ (ht.ext ho)) ?_
      rintro e w3 ⟨rfl, hb⟩
      refine ⟨_, rfl, ?_⟩
      refine L.va rfl (X.pickT rfl (by conv => lhs; whnf)) ?_
      refine L.va rfl (X.assign (by conv => lhs; whnf)) ?_
      refine L.nil ?_
      -- ret
      refine J.ret ?_
      refine thn_ret <| ?_
      refine fin1 ?_
      exact ⟨rfl, ho.trans hb⟩
    · have hz1 := ho.le
      have hss := sec_get smZ smZ_length k a b zs (by omega) (by omega) x0 x1 y0 y1
      have hsl : (sec k a b zs (smZ (hd k a b zs))).length = 1024 := by
        unfold sec; rw [List.length_append, hd_length k a b zs (by omega), smZ_length]
      have hsb := sec_bytes k a b zs (by omega) hz
      refine J.skip ?_
      refine J.seq ?_
      refine J.region ?_
      refine L.va rfl ((by first | exact X.loadAgg rfl (range_l hk1) Tryd.underlying35 rfl (by kernel_rfl) | exact X.loadAgg rfl (range_blk hk1) Tryd.underlying35 rfl (by kernel_rfl))) ?_
      -- callfn bushel/seal.Put
      refine L.call rfl en_35 rfl (put_ok k a b A n c zs _ (ht.ext ho) (by omega) (by omega) x0 x1 y0 y1 (by omega) ((hr.ext ho).here (by omega)) hz) ?_
      rintro e w2 ⟨rfl, hkb, hb⟩
      refine ⟨_, rfl, ?_⟩
      rw [show bytesZ (Crc.more 0#32 (hd k a b zs)) = smZ (hd k a b zs) from rfl] at hkb
      have hb : Ext w1 w2 := hb
      replace hk1 := hk1.ext hb
      replace ho := ho.ext hb
      generalize hS : sec k a b zs (smZ (hd k a b zs)) = S at hss hsl hsb hkb
      have hrS : Reads w2 w2.heap.size 1 (some ⟨w1.heap.size + 1, 0, none⟩) 1024 (nums .u8 S) := blk_reads hkb hkb.lt (by simp [nums, hsl])
      refine L.va rfl (X.move (by conv => lhs; whnf)) ?_
      refine L.va rfl (X.extract rfl rfl) ?_
      refine L.va rfl (X.extract rfl rfl) ?_
      refine L.va rfl (X.assign (by conv => lhs; whnf)) ?_
      refine L.va rfl (X.assign (by conv => lhs; whnf)) ?_
      refine L.nil ?_
      refine J.seq ?_
      refine J.seq ?_
      refine J.region ?_
      refine L.va rfl (X.fieldAddr rfl Tryd.underlying35 rfl sz_3 (by decide)) ?_
      refine L.va rfl (X.load rfl sc_3 (by first | exact Ld.blk hk1 rfl)) ?_
      refine L.va rfl (X.lss rfl rfl) ?_
      refine L.va rfl (X.move (by conv => lhs; whnf)) ?_
      -- case t20
      refine L.caseDecF (k := 20) rfl (by omega) ?_
      refine L.va rfl (X.fieldAddr rfl Tryd.underlying35 rfl sz_3 (by decide)) ?_
      refine L.va rfl (X.load rfl sc_3 (by first | exact Ld.blk hk1 rfl)) ?_
      refine L.va rfl (X.gtr rfl rfl) ?_
      refine L.va rfl (X.pickF rfl (by conv => lhs; whnf)) ?_
      refine L.nil ?_
      -- cond
      refine J.decF rfl (by omega) ?_
      refine J.skip ?_
      refine J.seq ?_
      refine J.seq ?_
      refine J.region ?_
      refine L.va rfl (X.fieldAddr rfl Tryd.underlying35 rfl sz_22 (by decide)) ?_
      refine L.va rfl (X.load rfl sc_22 (by first | exact Ld.blk hk1 rfl)) ?_
      refine L.va rfl (X.len rfl Tryd.underlying22) ?_
      refine L.va rfl (X.gtr rfl rfl) ?_
      refine L.nil ?_
      -- cond
      refine J.decF rfl (by omega) ?_
      refine J.skip ?_
      refine J.seq ?_
      refine J.region ?_
      refine L.va rfl (X.move (by conv => lhs; whnf)) ?_
      -- callfn bushel/seal.Get
      refine L.call rfl en_29 rfl (sget_any (some ⟨w1.heap.size + 1, 0, none⟩) 1024 1024 S _ (ht.ext ho) hrS hsb (by omega) (by omega)) ?_
      rintro e w3 ⟨A3, c3, rfl, hr3, he3⟩
      refine ⟨_, rfl, ?_⟩
      have he3 : Ext w2 w3 := he3
      rw [hss.1, hss.2.1, hss.2.2.1, hss.2.2.2.1, hss.2.2.2.2, hl]
      rw [hss.2.2.2.2, hl] at hr3
      replace hk1 := hk1.ext he3
      replace ho := ho.ext he3
      replace hrS := hrS.ext he3
      refine L.va rfl (X.move (by conv => lhs; whnf)) ?_
      refine L.va rfl (X.extract rfl rfl) ?_
      refine L.va rfl (X.extract rfl rfl) ?_
      -- alloc
      refine L.alloc rfl zr_35 ?_
      intro b4 w4 hb4 hs4 hk4 he4
      replace hk1 := hk1.ext he4
      replace ho := ho.ext he4
      replace hrS := hrS.ext he4
      replace hr3 := hr3.ext he4
      -- store
      refine L.storeAgg (vs := [_, _, _, _]) rfl rfl rfl rfl sz_35 (hk4) rfl ?_
      intro w5 hk5 hg5 hs5
      have hz4 := ho.le
      have hk15 := hk1.grown hg5 (by intro hg; injection hg with hg; have := hb.le; have := he3.le; omega)
      have hr5 := hr3.grw hg5 (by intro g hg; injection hg with hg; omega)
      have hrS5 := hrS.grw hg5 (by intro g hg; injection hg with hg; have := he3.le; omega)
      have ho5 := ho.grw hg5 (by intro g hg; injection hg with hg; have := hb.le; have := he3.le; omega)
      have cS1 : ∀ w', Ext w5 w' → Calls Tryd.prog 23 #[.agg #[.int .i64 k, .int .u64 a, .int .u64 b, .slice A n c], .agg #[.int .i64 k, .int .u64 a, .int .u64 b, .slice A3 n c3]] w' fun e w'' => e = .returned (.bool true) ∧ Ext w' w'' := by
        intro w' hw'
        have := refsame_any k a b k a b A A3 n c n c3 zs zs w' ((hr.ext (ho5.trans hw')).here (by omega)) ((hr5.ext hw').here (by omega)) hz hz (by omega) (by omega)
        simp only [beq_self_eq_true, Bool.and_self] at this
        exact this
      have cS2 : ∀ w', Ext w5 w' → Calls Tryd.prog 22 #[.agg #[.int .i64 k, .int .u64 a, .int .u64 b, .slice A n c], .agg #[.int .i64 k, .int .u64 a, .int .u64 b, .slice A3 n c3]] w' fun e w'' => e = .returned (.bool true) ∧ Ext w' w'' := by
        intro w' hw'
        have := same_any k a b k a b A A3 n c n c3 zs zs w' ((hr.ext (ho5.trans hw')).here (by omega)) ((hr5.ext hw').here (by omega)) hz hz (by omega) (by omega)
        simp only [beq_self_eq_true, Bool.and_self] at this
        exact this
      refine L.va rfl (X.assign (by conv => lhs; whnf)) ?_
      refine L.nil ?_
      refine J.seq ?_
      -- draw
      refine J.draw (S := Ext w5) mixed (fun wa hS0 hS0_h => ?_)
      -- t58
      refine D.va 0 rfl (by kernel_rfl) (fun _ _ _ h => h) rfl (fun w' hw => X.move (by conv => lhs; whnf)) hS0 ?_
      refine D.va 1 rfl (by kernel_rfl) (fun _ _ _ h => h) rfl (fun w' hw => X.eql rfl rfl) hS0 ?_
      refine D.va 2 rfl (by kernel_rfl) (fun _ _ _ h => h) rfl (fun w' hw => X.move (by conv => lhs; whnf)) hS0 ?_
      -- case t56
      refine D.caseDecT (k := 56) rfl (by rfl) ?_
      refine D.va 3 rfl (by kernel_rfl) (fun _ _ _ h => h) rfl (fun w' hw => X.move (by conv => lhs; whnf)) hS0 ?_
      refine D.va 4 rfl (by kernel_rfl) (fun _ _ _ h => h) rfl (fun w' hw => X.conv rfl ((hrS5.ext hw).conv Tryd.underlying22 Tryd.underlying5 Tryd.underlying9)) hS0 ?_
      refine D.va 5 rfl (by kernel_rfl) (fun _ _ _ h => h) rfl (fun w' hw => (by first | exact X.loadAgg rfl (range_l (hk15.ext hw)) Tryd.underlying35 rfl (by kernel_rfl) | exact X.loadAgg rfl (range_blk (hk15.ext hw)) Tryd.underlying35 rfl (by kernel_rfl) | exact X.loadAgg rfl (range_l (hk5.ext hw)) Tryd.underlying35 rfl (by kernel_rfl) | exact X.loadAgg rfl (range_blk (hk5.ext hw)) Tryd.underlying35 rfl (by kernel_rfl))) hS0 ?_
      -- callfn bushel/bushelref20.Put
      refine D.one 6 (by kernel_rfl) rfl ?_
      refine L.call rfl en_31 rfl (frefput20 k a b A n c zs _ (by omega) (by omega) x0 x1 y0 y1 (by omega) ((hr.ext (ho5.trans hS0)).here (by omega)) hz) ?_
      rintro e wb ⟨Ab, cb, rfl, hob, heb⟩
      refine ⟨_, rfl, ?_⟩
      have hS1 := hS0.trans heb
      refine L.nil ?_
      refine ⟨hS1, ?_⟩
      rw [hS] at hob
      -- convert
      refine D.one 7 (by kernel_rfl) rfl ?_
      refine L.va rfl (X.conv rfl ((own_reads hob).conv Tryd.underlying22 Tryd.underlying5 Tryd.underlying9)) ?_
      refine L.nil ?_
      refine ⟨hS1, ?_⟩
      refine D.va 8 rfl (by kernel_rfl) (fun _ _ _ h => h) rfl (fun w' hw => X.eqlS rfl rfl) hS1 ?_
      refine D.va 9 rfl (by kernel_rfl) (fun _ _ _ h => h) rfl (fun w' hw => X.pickT rfl (by conv => lhs; whnf)) hS1 ?_
      refine D.va 10 rfl (by kernel_rfl) (fun _ _ _ h => h) rfl (fun w' hw => X.move (by conv => lhs; whnf)) hS1 ?_
      -- case t64
      refine D.caseDecT (k := 64) rfl (by rfl) ?_
      refine D.va 11 rfl (by kernel_rfl) (fun _ _ _ h => h) rfl (fun w' hw => X.move (by conv => lhs; whnf)) hS1 ?_
      refine D.va 12 rfl (by kernel_rfl) (fun _ _ _ h => h) rfl (fun w' hw => X.eql rfl rfl) hS1 ?_
      refine D.va 13 rfl (by kernel_rfl) (fun _ _ _ h => h) rfl (fun w' hw => X.pickT rfl (by conv => lhs; whnf)) hS1 ?_
      refine D.va 14 rfl (by kernel_rfl) (fun _ _ _ h => h) rfl (fun w' hw => X.move (by conv => lhs; whnf)) hS1 ?_
      -- case t68
      refine D.caseDecT (k := 68) rfl (by rfl) ?_
      refine D.va 15 rfl (by kernel_rfl) (fun _ _ _ h => h) rfl (fun w' hw => (by first | exact X.loadAgg rfl (range_l (hk15.ext hw)) Tryd.underlying35 rfl (by kernel_rfl) | exact X.loadAgg rfl (range_blk (hk15.ext hw)) Tryd.underlying35 rfl (by kernel_rfl) | exact X.loadAgg rfl (range_l (hk5.ext hw)) Tryd.underlying35 rfl (by kernel_rfl) | exact X.loadAgg rfl (range_blk (hk5.ext hw)) Tryd.underlying35 rfl (by kernel_rfl))) hS1 ?_
      refine D.va 16 rfl (by kernel_rfl) (fun _ _ _ h => h) rfl (fun w' hw => (by first | exact X.loadAgg rfl (range_l (hk15.ext hw)) Tryd.underlying35 rfl (by kernel_rfl) | exact X.loadAgg rfl (range_blk (hk15.ext hw)) Tryd.underlying35 rfl (by kernel_rfl) | exact X.loadAgg rfl (range_l (hk5.ext hw)) Tryd.underlying35 rfl (by kernel_rfl) | exact X.loadAgg rfl (range_blk (hk5.ext hw)) Tryd.underlying35 rfl (by kernel_rfl))) hS1 ?_
      -- callfn bushel/bushelref20.Same
      refine D.one 17 (by kernel_rfl) rfl ?_
      refine L.call rfl en_23 rfl (cS1 _ hS1) ?_
      rintro e wc ⟨rfl, hec⟩
      refine ⟨_, rfl, ?_⟩
      have hS2 := hS1.trans hec
      refine L.nil ?_
      refine ⟨hS2, ?_⟩
      refine D.va 18 rfl (by kernel_rfl) (fun _ _ _ h => h) rfl (fun w' hw => X.pickT rfl (by conv => lhs; whnf)) hS2 ?_
      refine D.va 19 rfl (by kernel_rfl) (fun _ _ _ h => h) rfl (fun w' hw => X.move (by conv => lhs; whnf)) hS2 ?_
      -- case t73
      refine D.caseBT (k := 73) rfl (by rfl) ?_
      refine D.va 20 rfl (by kernel_rfl) (fun _ _ _ h => h) rfl (fun w' hw => (by first | exact X.loadAgg rfl (range_l (hk15.ext hw)) Tryd.underlying35 rfl (by kernel_rfl) | exact X.loadAgg rfl (range_blk (hk15.ext hw)) Tryd.underlying35 rfl (by kernel_rfl) | exact X.loadAgg rfl (range_l (hk5.ext hw)) Tryd.underlying35 rfl (by kernel_rfl) | exact X.loadAgg rfl (range_blk (hk5.ext hw)) Tryd.underlying35 rfl (by kernel_rfl))) hS2 ?_
      refine D.va 21 rfl (by kernel_rfl) (fun _ _ _ h => h) rfl (fun w' hw => (by first | exact X.loadAgg rfl (range_l (hk15.ext hw)) Tryd.underlying35 rfl (by kernel_rfl) | exact X.loadAgg rfl (range_blk (hk15.ext hw)) Tryd.underlying35 rfl (by kernel_rfl) | exact X.loadAgg rfl (range_l (hk5.ext hw)) Tryd.underlying35 rfl (by kernel_rfl) | exact X.loadAgg rfl (range_blk (hk5.ext hw)) Tryd.underlying35 rfl (by kernel_rfl))) hS2 ?_
      -- callfn bushel/seal.Same
      refine D.one 22 (by kernel_rfl) rfl ?_
      refine L.call rfl en_22 rfl (cS2 _ hS2) ?_
      rintro e wd ⟨rfl, hed⟩
      refine ⟨_, rfl, ?_⟩
      have hS3 := hS2.trans hed
      refine L.nil ?_
      refine ⟨hS3, ?_⟩
      refine D.va 23 rfl (by kernel_rfl) (fun _ _ _ h => h) rfl (fun w' hw => X.pickT rfl (by conv => lhs; whnf)) hS3 ?_
      refine D.va 24 rfl (by kernel_rfl) (fun _ _ _ h => h) rfl (fun w' hw => X.move (by conv => lhs; whnf)) hS3 ?_
      -- case t78
      refine D.caseBT (k := 78) rfl (by rfl) ?_
      -- callfn bushel/bushellaw20.awake
      refine D.one 25 (by kernel_rfl) rfl ?_
      refine L.call rfl en_21 rfl (awake20 _ (ht.ext (ho5.trans hS3))) ?_
      rintro e wf ⟨rfl, hef⟩
      refine ⟨_, rfl, ?_⟩
      have hS4 := hS3.trans hef
      refine L.nil ?_
      refine ⟨hS4, ?_⟩
      refine D.va 26 rfl (by kernel_rfl) (fun _ _ _ h => h) rfl (fun w' hw => X.pickT rfl (by conv => lhs; whnf)) hS4 ?_
      refine D.va 27 rfl (by kernel_rfl) (fun _ _ _ h => h) rfl (fun w' hw => X.assign (by conv => lhs; whnf)) hS4 ?_
      refine D.done (by kernel_rfl) ?_
      replace hk15 := hk15.ext hS4
      replace hk5 := hk5.ext hS4
      replace hr5 := hr5.ext hS4
      replace hrS5 := hrS5.ext hS4
      replace ho5 := ho5.ext hS4
      -- ret
      refine J.ret ?_
      refine fin1 ?_
      exact ⟨rfl, ho5⟩
end Go.Proofs.YtfgkbghagklacaaDoor
