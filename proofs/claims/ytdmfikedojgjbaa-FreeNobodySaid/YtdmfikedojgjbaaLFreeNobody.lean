/-
  The law FreeNobody, walked: every list and page.
-/
import Derived.Test.YtdmfikedojgjbaaWFreeF
namespace Go.Proofs.Ytdmfikedojgjbaa
set_option maxRecDepth 100000
open Go.RowKit H
set_option linter.unusedVariables false
theorem law_FreeNobody (w : World) (A0 : Option Addr) (n0 c0 : Nat) (xs0 : List (Nm .i64)) (hn0 : n0 ≤ c0) (hc0 : c0 ≤ maxLen) (hA0 : A0 = none → c0 = 0) (hl0 : LiesSlice w w.heap.size A0 n0 xs0) (x1 : Nm .i64) :
    Calls Try.prog 10 #[.slice A0 n0 c0, .int .i64 x1.z] w fun e w' => e = .returned (.bool true) ∧ Below w.heap.size w w' := by
  unfold maxLen at hc0
  refine enter Try.func10 rfl (by kernel_rfl) ?_
  refine J.seq ?_
  refine J.region ?_
  refine L.va rfl (X.assign (by conv => lhs; whnf)) ?_
  refine L.nil ?_
  refine J.seq ?_
  refine J.seq ?_
  refine J.region ?_
  refine L.va rfl (X.move (by conv => lhs; whnf)) ?_
  refine L.va rfl (X.len rfl Try.underlying62) ?_
  refine L.va rfl (X.gtr rfl rfl) ?_
  refine L.nil ?_
  -- cond
  refine J.dec rfl (fun h3 => ?_) (fun h3 => ?_)
  · refine J.seq ?_
    refine J.region ?_
    -- callfn bushel/bushellaw24.awake
    refine L.call rfl en_32 rfl (awake24 w) ?_
    rintro e w1 ⟨rfl, he1⟩
    refine ⟨_, rfl, ?_⟩
    refine L.va rfl (X.assign (by conv => lhs; whnf)) ?_
    refine L.nil ?_
    -- ret
    refine J.ret ?_
    refine thn_ret <| ?_
    refine fin1 ?_
    exact ⟨rfl, he1⟩
  · refine J.skip ?_
    refine J.seq ?_
    refine J.seq ?_
    refine J.region ?_
    refine L.va rfl (X.assign (by conv => lhs; whnf)) ?_
    refine L.nil ?_
    refine J.block ?_
    -- loop
    refine J.loop (X := Nat) [4, 5, 6, 7, 8, 13, 14, 15, 16, 17, 18, 19, 20, 21, 22, 23, 24, 25, 26, 27, 28, 29, 30, 31, 32, 33, 34, 35, 36, 37, 38, 39, 40, 41, 42, 43, 44, 45, 46, 47, 48, 49, 50, 51, 52, 53, 54, 55, 56] (fun k => [(5, .int .i64 (k : Int))]) (fun k w' => k ≤ 2 ∧ Ext w w') (fun k => 2 - k) (0) (At1 (by first | rfl | exact at_int rfl (by omega) | exact at_slice rfl (by omega) | exact at_int rfl (by simp))) ?_ ?_
    · exact ⟨by omega, Ext.refl _⟩
    · rintro k g w3 ⟨hk, he3⟩
      refine J.seq ?_
      refine J.seq ?_
      refine J.region ?_
      refine L.va rfl (X.move (by conv => lhs; whnf)) ?_
      refine L.va rfl (X.lss rfl rfl) ?_
      refine L.nil ?_
      -- cond
      refine J.dec rfl (fun hlt => ?_) (fun hlt => ?_)
      · refine J.skip ?_
        refine J.seq ?_
        refine J.block ?_
        refine J.seq ?_
        refine J.region ?_
        refine L.va rfl (X.assign (by conv => lhs; whnf)) ?_
        refine L.nil ?_
        -- until
        refine J.cut (X := Value) [6, 17, 18, 19, 20] (fun p => [(6, p)]) (fun p w' => Shut p w' ∧ Ext w3 w') ?_ ?_
        · refine J.seq ?_
          refine J.region ?_
          refine L.va rfl (X.move (by conv => lhs; whnf)) ?_
          refine L.va rfl (X.eql rfl rfl) ?_
          refine L.nil ?_
          -- cond
          refine J.dec rfl (fun h1 => ?_) (fun h1 => ?_)
          · refine J.region ?_
            refine L.va rfl (X.build (l := [_, _]) Evs.nil (bld_run Try.underlying83 (bp_83 Try.underlying83) zr_83 rfl)) ?_
            -- box
            refine L.boxA (l := [_, _]) rfl rfl ?_
            intro b4 w4 hb4 hs4 hk4 he4
            refine L.va rfl (X.assign (by conv => lhs; whnf)) ?_
            refine L.nil ?_
            -- cutend
            refine ⟨(.pointer (some ⟨b4, 0, none⟩)), At1 (rfl), (by (iterate 5 refine Agr.lk rfl ?_); exact Agr.rfl'), ?_⟩
            exact ⟨.inr ⟨b4, rfl, hk4⟩, he4⟩
          · refine J.skip ?_
            -- cutend
            refine ⟨(.pointer none), At1 (rfl), (by (iterate 2 refine Agr.lk rfl ?_); exact Agr.rfl'), ?_⟩
            exact ⟨.inl rfl, Ext.refl _⟩
        · rintro p g w4 ⟨hp, he4⟩
          refine J.seq ?_
          refine J.region ?_
          refine L.va rfl (X.move (by conv => lhs; whnf)) ?_
          -- callfn (*bushel/free.Space).Take
          refine L.call rfl en_35 rfl (hp.take_) ?_
          rintro e _ ⟨rfl, rfl⟩
          refine ⟨_, rfl, ?_⟩
          refine L.va rfl (X.move (by conv => lhs; whnf)) ?_
          refine L.va rfl (X.extract rfl rfl) ?_
          refine L.va rfl (X.extract rfl rfl) ?_
          refine L.va rfl (X.assign (by conv => lhs; whnf)) ?_
          refine L.va rfl (X.assign (by conv => lhs; whnf)) ?_
          refine L.nil ?_
          refine J.seq ?_
          refine J.region ?_
          refine L.va rfl (X.move (by conv => lhs; whnf)) ?_
          -- callfn (*bushel/free.Space).Drop
          refine L.call rfl en_39 rfl (hp.drop_) ?_
          rintro e _ ⟨rfl, rfl⟩
          refine ⟨_, rfl, ?_⟩
          refine L.nil ?_
          refine J.seq ?_
          refine J.region ?_
          refine L.va rfl (X.move (by conv => lhs; whnf)) ?_
          refine L.va rfl (X.neq rfl rfl) ?_
          refine L.va rfl (X.move (by conv => lhs; whnf)) ?_
          -- case t30
          refine L.caseNdecF (k := 30) rfl (by rfl) ?_
          refine L.va rfl (X.move (by conv => lhs; whnf)) ?_
          refine L.va rfl (X.neq rfl rfl) ?_
          refine L.va rfl (X.pickF rfl (by conv => lhs; whnf)) ?_
          refine L.va rfl (X.move (by conv => lhs; whnf)) ?_
          -- case t34
          refine L.caseNdecF (k := 34) rfl (by rfl) ?_
          refine L.va rfl (X.move (by conv => lhs; whnf)) ?_
          refine L.va rfl (X.move (by conv => lhs; whnf)) ?_
          -- callfn (*bushel/free.Space).Keep
          refine L.call rfl en_38 rfl (hp.keep_ _) ?_
          rintro e _ ⟨rfl, rfl⟩
          refine ⟨_, rfl, ?_⟩
          refine L.va rfl (X.neq rfl rfl) ?_
          refine L.va rfl (X.pickF rfl (by conv => lhs; whnf)) ?_
          refine L.va rfl (X.move (by conv => lhs; whnf)) ?_
          -- case t40
          refine L.caseNdecF (k := 40) rfl (by rfl) ?_
          refine L.va rfl (X.move (by conv => lhs; whnf)) ?_
          -- callfn (*bushel/free.Space).Free
          refine L.call rfl en_34 rfl (hp.free_) ?_
          rintro e _ ⟨rfl, rfl⟩
          refine ⟨_, rfl, ?_⟩
          refine L.va rfl (X.neq rfl rfl) ?_
          refine L.va rfl (X.pickF rfl (by conv => lhs; whnf)) ?_
          refine L.va rfl (X.move (by conv => lhs; whnf)) ?_
          -- case t45
          refine L.caseNdecF (k := 45) rfl (by rfl) ?_
          refine L.va rfl (X.move (by conv => lhs; whnf)) ?_
          refine L.va rfl (X.move (by conv => lhs; whnf)) ?_
          -- callfn (*bushel/free.Space).Kind
          refine L.call rfl en_41 rfl (hp.kind_ x1.z) ?_
          rintro e _ ⟨rfl, rfl⟩
          refine ⟨_, rfl, ?_⟩
          refine L.va rfl (X.neq rfl rfl) ?_
          refine L.va rfl (X.pickF rfl (by conv => lhs; whnf)) ?_
          refine L.va rfl (X.move (by conv => lhs; whnf)) ?_
          -- case t51
          refine L.caseNdecF (k := 51) rfl (by rfl) ?_
          refine L.va rfl (X.move (by conv => lhs; whnf)) ?_
          -- callfn (*bushel/free.Space).Fresh
          refine L.call rfl en_42 rfl (hp.fresh_) ?_
          rintro e _ ⟨rfl, rfl⟩
          refine ⟨_, rfl, ?_⟩
          refine L.va rfl (X.len rfl Try.underlying62) ?_
          refine L.va rfl (X.neq rfl rfl) ?_
          refine L.va rfl (X.pickF rfl (by conv => lhs; whnf)) ?_
          refine L.nil ?_
          -- cond
          refine J.iteF rfl ?_
          refine J.skip ?_
          refine J.region ?_
          refine L.va rfl (X.move (by conv => lhs; whnf)) ?_
          refine L.va rfl (X.add rfl rfl (by omega)) ?_
          refine L.va rfl (X.assign (by conv => lhs; whnf)) ?_
          refine L.nil ?_
          -- loopend
          refine ⟨k + 1, At1 (by first | rfl | exact at_int rfl (by omega) | exact at_slice rfl (by omega) | exact at_int rfl (by simp)), (by (iterate 46 refine Agr.lk rfl ?_); refine Agr.lk rfl ?_; refine Agr.hav rfl ?_; (iterate 3 refine Agr.lk rfl ?_); exact Agr.lk rfl (Agr.hav rfl Agr.rfl')), ?_⟩
          exact ⟨⟨by omega, he3.trans he4⟩, by omega⟩
      · refine J.exit ?_
        refine J.seq ?_
        refine J.region ?_
        -- callfn bushel/bushellaw24.awake
        refine L.call rfl en_32 rfl (awake24 w3) ?_
        rintro e w4 ⟨rfl, he4⟩
        refine ⟨_, rfl, ?_⟩
        refine L.va rfl (X.assign (by conv => lhs; whnf)) ?_
        refine L.nil ?_
        -- ret
        refine J.ret ?_
        refine fin1 ?_
        exact ⟨rfl, he3.trans he4⟩
end Go.Proofs.Ytdmfikedojgjbaa
