/-
  Keys: why there are none, and the key of codes, in the program and in the reference.
-/
import Derived.Test.YtmiieppcoknmfaaKeyPlain
import Derived.Test.YtmiieppcoknmfaaWSchG
namespace Go.Proofs.Ytmiieppcoknmfaa
set_option maxRecDepth 100000
open Go.RowKit H
set_option linter.unusedVariables false
namespace Sch
/-- why there are no keys -/
def askE (s : Sch) (m : Nat) : Int := if s.code ≠ 0 then 1 else if (m : Int) ≤ s.F then 0 else 11
theorem askE_0 {s : Sch} {m : Nat} (h : s.askE m = 0) : s.code = 0 ∧ (m : Int) ≤ s.F := by
  unfold askE at h
  split at h
  · cases h
  · rename_i hc
    split at h
    · rename_i hF
      exact ⟨Decidable.not_not.1 hc, hF⟩
    · cases h
theorem Here.ask {s : Sch} {w : World} (h : s.Here w) {m : Nat} (hm : m < 4294967296) : Calls Try.prog 62 #[s.val, .int .u32 (m : Int)] w fun e w' => e = .returned (.int .i64 (s.askE m)) ∧ Ext w w' := by
  refine enter Try.func62 rfl (by kernel_rfl) ?_
  refine J.seq ?_
  refine J.region ?_
  -- box
  refine L.boxA (l := [_, _, _, _]) rfl rfl ?_
  intro b1 w1 hb1 hs1 hk1 he1
  refine L.va rfl (X.assign (by conv => lhs; whnf)) ?_
  refine L.nil ?_
  refine J.seq ?_
  refine J.region ?_
  refine L.va rfl ((by first | exact X.loadAgg rfl (range_l hk1) Try.underlying26 rfl (by kernel_rfl) | exact X.loadAgg rfl (range_blk hk1) Try.underlying26 rfl (by kernel_rfl))) ?_
  -- callfn bushel/schema.Full
  by_cases hc : s.code = 0
  · have g0 := (good hc).1
    have hF := F_bd hc
    have han := andNot_full (s := s) hm g0.2.1
    refine L.call rfl en_85 rfl ((h.ext he1).full_ok hc) ?_
    rintro e w2 ⟨rfl, he2⟩
    refine ⟨_, rfl, ?_⟩
    have he2 : Ext w1 w2 := he2
    refine L.va rfl (X.assign (by conv => lhs; whnf)) ?_
    refine L.nil ?_
    refine J.seq ?_
    refine J.block ?_
    refine J.seq ?_
    refine J.region ?_
    refine L.va rfl (X.move (by conv => lhs; whnf)) ?_
    refine L.va rfl (X.eql rfl rfl) ?_
    refine L.va rfl (X.assign (by conv => lhs; whnf)) ?_
    refine L.nil ?_
    -- cond
    refine J.decF rfl (by omega) ?_
    refine J.seq ?_
    refine J.region ?_
    refine L.va rfl (X.move (by conv => lhs; whnf)) ?_
    refine L.va rfl (X.move (by conv => lhs; whnf)) ?_
    refine L.va rfl (X.andNot rfl rfl) ?_
    refine L.va rfl (X.neq rfl rfl) ?_
    refine L.va rfl (X.assign (by conv => lhs; whnf)) ?_
    refine L.nil ?_
    -- cond
    refine J.ndec rfl (fun hn => ?_) (fun hn => ?_)
    · have e : s.askE m = 11 := by rw [askE, if_neg (fun k => k hc), if_neg (by omega)]
      rw [e]
      refine J.seq ?_
      refine J.region ?_
      refine L.va rfl (X.assign (by conv => lhs; whnf)) ?_
      refine L.nil ?_
      -- ret
      refine J.ret ?_
      refine inB_ret <|  thn_ret <| ?_
      refine fin1 ?_
      exact ⟨rfl, he1.trans he2⟩
    · have e : s.askE m = 0 := by rw [askE, if_neg (fun k => k hc), if_pos (by omega)]
      rw [e]
      refine J.skip ?_
      refine J.seq ?_
      refine J.region ?_
      refine L.va rfl (X.assign (by conv => lhs; whnf)) ?_
      refine L.nil ?_
      -- ret
      refine J.ret ?_
      refine fin1 ?_
      exact ⟨rfl, he1.trans he2⟩
  · refine L.call rfl en_85 rfl ((h.ext he1).full_no hc) ?_
    rintro e w2 ⟨rfl, he2⟩
    refine ⟨_, rfl, ?_⟩
    have he2 : Ext w1 w2 := he2
    have e : s.askE m = 1 := by rw [askE, if_pos hc]
    rw [e]
    refine L.va rfl (X.assign (by conv => lhs; whnf)) ?_
    refine L.nil ?_
    refine J.seq ?_
    refine J.block ?_
    refine J.seq ?_
    refine J.region ?_
    refine L.va rfl (X.move (by conv => lhs; whnf)) ?_
    refine L.va rfl (X.eql rfl rfl) ?_
    refine L.va rfl (X.assign (by conv => lhs; whnf)) ?_
    refine L.nil ?_
    -- cond
    refine J.iteT rfl ?_
    refine J.seq ?_
    refine J.region ?_
    refine L.va rfl (X.assign (by conv => lhs; whnf)) ?_
    refine L.nil ?_
    -- ret
    refine J.ret ?_
    refine inB_ret <|  thn_ret <| ?_
    refine fin1 ?_
    exact ⟨rfl, he1.trans he2⟩
/-- why codes have no key -/
def ofE (s : Sch) (m nc : Nat) (cs : List Int) : Int := if s.askE m ≠ 0 then s.askE m else if nc ≠ s.nd then 3 else if okO s.ds m cs s.nd = false then 2 else 0
def ofK (s : Sch) (m nc : Nat) (cs : List Int) : Int := if s.ofE m nc cs = 0 then kyO s.ds m cs s.nd else 0
section
variable {s : Sch} {m nc : Nat} {cs : List Int}
theorem ofE_a (h : s.askE m ≠ 0) : s.ofE m nc cs = s.askE m ∧ s.ofK m nc cs = 0 := by
  have e : s.ofE m nc cs = s.askE m := by rw [ofE, if_pos h]
  exact ⟨e, by rw [ofK, e, if_neg h]⟩
theorem ofE_3 (h : s.askE m = 0) (hn : nc ≠ s.nd) : s.ofE m nc cs = 3 ∧ s.ofK m nc cs = 0 := by
  have e : s.ofE m nc cs = 3 := by rw [ofE, if_neg (fun k => k h), if_pos hn]
  exact ⟨e, by rw [ofK, e, if_neg (by decide)]⟩
theorem ofE_2 (h : s.askE m = 0) (hn : nc = s.nd) (ho : okO s.ds m cs s.nd = false) : s.ofE m nc cs = 2 ∧ s.ofK m nc cs = 0 := by
  have e : s.ofE m nc cs = 2 := by rw [ofE, if_neg (fun k => k h), if_neg (fun k => k hn), if_pos ho]
  exact ⟨e, by rw [ofK, e, if_neg (by decide)]⟩
theorem ofE_0 (h : s.askE m = 0) (hn : nc = s.nd) (ho : okO s.ds m cs s.nd = true) : s.ofE m nc cs = 0 ∧ s.ofK m nc cs = kyO s.ds m cs s.nd := by
  have e : s.ofE m nc cs = 0 := by rw [ofE, if_neg (fun k => k h), if_neg (fun k => k hn), if_neg (by rw [ho]; decide)]
  exact ⟨e, by rw [ofK, if_pos e]⟩
theorem ofE_ok (h : s.ofE m nc cs = 0) : s.askE m = 0 ∧ nc = s.nd ∧ okO s.ds m cs s.nd = true := by
  unfold ofE at h
  split at h
  · rename_i k; exact absurd h k
  · rename_i k
    split at h
    · cases h
    · rename_i k2
      split at h
      · cases h
      · rename_i k3
        exact ⟨Decidable.not_not.1 k, Decidable.not_not.1 k2, by simpa using k3⟩
end
theorem Here.of {s : Sch} {w : World} (h : s.Here w) {m : Nat} (hm : m < 4294967296) (A : Option Addr) (nc cc : Nat) (cs : List Int) (hcs : Reads w w.heap.size 1 A nc (nums .i64 cs)) (hnc : nc ≤ 9223372036854775807) :
    Calls Try.prog 16 #[s.val, .int .u32 (m : Int), .slice A nc cc] w fun e w' => e = .returned (.tuple #[.int .u64 (s.ofK m nc cs), .int .i64 (s.ofE m nc cs)]) ∧ Ext w w' := by
  have hle := h.hle
  have ra := @ofE_a s m nc cs
  have r3 := @ofE_3 s m nc cs
  have r2 := @ofE_2 s m nc cs
  have r0 := @ofE_0 s m nc cs
  refine enter Try.func16 rfl (by kernel_rfl) ?_
  refine J.seq ?_
  refine J.region ?_
  -- box
  refine L.boxA (l := [_, _, _, _]) rfl rfl ?_
  intro b1 w1 hb1 hs1 hk1 he1
  refine L.va rfl (X.assign (by conv => lhs; whnf)) ?_
  refine L.va rfl (X.assign (by conv => lhs; whnf)) ?_
  refine L.nil ?_
  refine J.seq ?_
  refine J.seq ?_
  refine J.region ?_
  refine L.va rfl ((by first | exact X.loadAgg rfl (range_l hk1) Try.underlying26 rfl (by kernel_rfl) | exact X.loadAgg rfl (range_blk hk1) Try.underlying26 rfl (by kernel_rfl))) ?_
  refine L.va rfl (X.move (by conv => lhs; whnf)) ?_
  -- callfn bushel/key.ask
  refine L.call rfl en_62 rfl ((h.ext he1).ask hm) ?_
  rintro e w2 ⟨rfl, he2⟩
  refine ⟨_, rfl, ?_⟩
  have he2 : Ext w1 w2 := he2
  have he02 := he1.trans he2
  have hk2 := hk1.ext he2
  have hd2 := h.hd.ext he02
  refine L.va rfl (X.assign (by conv => lhs; whnf)) ?_
  refine L.nil ?_
  refine J.seq ?_
  refine J.region ?_
  refine L.va rfl (X.move (by conv => lhs; whnf)) ?_
  refine L.va rfl (X.neq rfl rfl) ?_
  refine L.nil ?_
  -- cond
  refine J.ndec rfl (fun hA => ?_) (fun hA => ?_)
  · rw [(ra hA).1, (ra hA).2]
    refine J.seq ?_
    refine J.region ?_
    refine L.va rfl (X.move (by conv => lhs; whnf)) ?_
    refine L.va rfl (X.assign (by conv => lhs; whnf)) ?_
    refine L.va rfl (X.assign (by conv => lhs; whnf)) ?_
    refine L.nil ?_
    -- ret
    refine J.ret ?_
    refine thn_ret <| ?_
    refine fin2 ?_
    exact ⟨rfl, he02⟩
  · have hA0 : s.askE m = 0 := hA
    obtain ⟨hc, hF⟩ := askE_0 hA0
    obtain ⟨g0, g1⟩ := good hc
    have hl := h.len
    refine J.skip ?_
    refine J.seq ?_
    refine J.seq ?_
    refine J.region ?_
    refine L.va rfl (X.move (by conv => lhs; whnf)) ?_
    refine L.va rfl (X.len rfl Try.underlying28) ?_
    refine L.va rfl (X.fieldAddr rfl Try.underlying26 rfl sz_22 (by decide)) ?_
    refine L.va rfl (X.load rfl sc_22 (by first | exact Ld.blk hk2 rfl | exact Ld.rd hd2 (by omega))) ?_
    refine L.va rfl (X.len rfl Try.underlying22) ?_
    refine L.va rfl (X.neq rfl rfl) ?_
    refine L.nil ?_
    -- cond
    refine J.ndec rfl (fun hn => ?_) (fun hn => ?_)
    · rw [(r3 hA0 (by omega)).1, (r3 hA0 (by omega)).2]
      refine J.seq ?_
      refine J.region ?_
      refine L.va rfl (X.assign (by conv => lhs; whnf)) ?_
      refine L.va rfl (X.assign (by conv => lhs; whnf)) ?_
      refine L.nil ?_
      -- ret
      refine J.ret ?_
      refine thn_ret <| ?_
      refine fin2 ?_
      exact ⟨rfl, he02⟩
    · have hn0 : nc = s.nd := by omega
      have r2 := r2 hA0 hn0
      have r0 := r0 hA0 hn0
      refine J.skip ?_
      refine J.seq ?_
      refine J.region ?_
      refine L.va rfl (X.assign (by conv => lhs; whnf)) ?_
      refine L.nil ?_
      refine J.seq ?_
      refine J.seq ?_
      refine J.region ?_
      refine L.va rfl (X.fieldAddr rfl Try.underlying26 rfl sz_22 (by decide)) ?_
      refine L.va rfl (X.load rfl sc_22 (by first | exact Ld.blk hk2 rfl | exact Ld.rd hd2 (by omega))) ?_
      refine L.va rfl (X.len rfl Try.underlying22) ?_
      refine L.va rfl (X.move (by conv => lhs; whnf)) ?_
      refine L.nil ?_
      refine J.block ?_
      -- loop
      -- loop
      refine J.loop (X := Nat × Int) [6, 7, 9, 10, 11, 27, 28, 29, 30, 31, 32, 33, 34, 35, 36, 37, 38, 39, 40, 41, 42, 43, 44, 45, 46, 47, 48, 49, 50, 51, 52, 53, 54, 55, 56, 57, 58, 59, 60, 61, 62] (fun x => [(27, .int .i64 (x.1 : Int)), (9, .int .u64 x.2)]) (fun x w' => Ext w2 w' ∧ x.1 ≤ s.nd ∧ x.2 = kyO s.ds m cs x.1 ∧ okO s.ds m cs x.1 = true) (fun x => s.nd - x.1) ((0, 0)) (At2 (by first | rfl | exact at_int rfl (by omega) | exact at_slice rfl (by omega) | exact at_int rfl (by simp)) (by first | rfl | exact at_int rfl (by omega) | exact at_slice rfl (by omega) | exact at_int rfl (by simp))) ?_ ?_
      · exact ⟨Ext.refl _, by dsimp only; omega, rfl, rfl⟩
      · rintro ⟨i, z⟩ g w3 ⟨he3, hi, hz, hO⟩
        dsimp only at hi hz hO
        have q1 : ((i, z) : Nat × Int).1 = i := rfl
        have q2 : ((i, z) : Nat × Int).2 = z := rfl
        have hk3 := hk2.ext he3
        have hd3 := hd2.ext he3
        have he03 := he02.trans he3
        refine J.seq ?_
        refine J.region ?_
        refine L.va rfl (X.lss rfl rfl) ?_
        refine L.nil ?_
        refine J.seq ?_
        -- cond
        refine J.dec rfl (fun hlt => ?_) (fun hlt => ?_)
        · have hil : i < s.nd := by dsimp only at hlt; omega
          have hbz := kyO_bd g1 i (by omega) hO
          have hbp := kyP_bd m g1 i (by omega)
          rw [← hz] at hbz
          have hno := @okO_no s.ds m cs i
          have hmk := @okO_mk s.ds m cs i hO
          have hmf := fun k => mono_f (okO_s s.ds m cs) (by omega : i + 1 ≤ s.nd) k
          have hnx : kyO s.ds m cs (i + 1) = if m.testBit i then kyO s.ds m cs i * szD s.ds i + cs.getD i 0 else kyO s.ds m cs i := rfl
          have hbd : 1 ≤ szD s.ds i ∧ szD s.ds i ≤ 4096 := szD_bd g1 hil
          have hbn : okO s.ds m cs (i + 1) = true → 0 ≤ kyO s.ds m cs (i + 1) ∧ kyO s.ds m cs (i + 1) ≤ 1099511627776 := fun k => by
            have k1 := kyO_bd g1 (i + 1) (by omega) k
            have k2 := kyP_bd m g1 (i + 1) (by omega)
            omega
          have hrow := dims_row (l := s.ds) (i := i) (by omega)
          have hba := bit_and (m := m) (i := i) hm (by omega)
          have hdv : (s.ds.getD i d0).2 = szD s.ds i := rfl
          rw [hdv] at hrow
          generalize szD s.ds i = dv at *
          -- t31
          refine J.skip ?_
          refine J.seq ?_
          refine J.block ?_
          refine J.seq ?_
          refine J.region ?_
          refine L.va rfl (X.move (by conv => lhs; whnf)) ?_
          refine L.va rfl ((by first | exact X.indexAddrn rfl rfl Try.underlying22 sz_40 (by first | exact Option.some_ne_none _ | exact hd3.some_ (by omega)) (by omega) | exact X.indexAddr rfl rfl Try.underlying22 sz_40 (by first | exact Option.some_ne_none _ | exact hd3.some_ (by omega)) (by omega))) ?_
          refine L.va rfl (X.loadRow (cs := [.string (s.ds.getD i d0).1, .int .i64 dv]) rfl hd3 hrow (Nat.zero_lt_succ _) Try.underlying40 rfl (by kernel_rfl)) ?_
          -- alloc
          refine L.alloc rfl zr_40 ?_
          intro b4 w4 hb4 hs4 hk4 he4
          refine L.va rfl (X.assign (by conv => lhs; whnf)) ?_
          -- store
          refine L.storeAgg (vs := [_, _]) rfl rfl rfl rfl sz_40 (hk4) rfl ?_
          intro w5 hk5 hg5 hs5
          have hz3 := he03.le
          have he35 : Ext w3 w5 := he4.grw hg5 (by intro g hg; injection hg with hg; omega)
          have he05 := he03.trans he35
          have hcs5 := hcs.ext he05
          refine L.nil ?_
          refine J.seq ?_
          refine J.seq ?_
          refine J.region ?_
          refine L.va rfl (X.move (by conv => lhs; whnf)) ?_
          refine L.va rfl (X.move (by conv => lhs; whnf)) ?_
          refine L.va rfl (X.shr rfl rfl (by omega)) ?_
          refine L.va rfl (X.and rfl rfl) ?_
          refine L.va rfl (X.eql rfl rfl) ?_
          refine L.nil ?_
          -- cond
          rw [hba]
          cases ht : m.testBit i
          · rw [ht] at hnx hmk
            refine J.iteT rfl ?_
            refine J.exit ?_
            refine J.region ?_
            refine L.va rfl (X.add rfl rfl (by omega)) ?_
            refine L.va rfl (X.move (by conv => lhs; whnf)) ?_
            refine L.nil ?_
            -- loopend
            refine ⟨(i + 1, z), At2 (by first | rfl | exact at_int rfl (by omega) | exact at_slice rfl (by omega) | exact at_int rfl (by simp)) (by first | rfl | exact at_int rfl (by omega) | exact at_slice rfl (by omega) | exact at_int rfl (by simp)), (by (iterate 13 refine Agr.lk rfl ?_); exact Agr.lk rfl (Agr.hav rfl Agr.rfl')), ?_⟩
            exact ⟨⟨he3.trans he35, by dsimp only; omega, by dsimp only; rw [hnx, hz]; rfl, hmk (fun k => by cases k)⟩, by dsimp only; omega⟩
          · rw [ht, if_pos rfl, ← hz] at hnx
            rw [hnx] at hbn
            replace hno := hno ht
            replace hmk := fun k => hmk (fun _ => k)
            refine J.decF rfl (by decide) ?_
            refine J.skip ?_
            refine J.seq ?_
            refine J.seq ?_
            -- draw
            refine J.quiet mixed (by kernel_rfl) ?_
            refine Qt.va rfl (fun w' hw => X.move (by conv => lhs; whnf)) ?_
            refine Qt.va rfl (fun w' hw => X.move (by conv => lhs; whnf)) ?_
            refine Qt.va rfl (fun w' hw => (by first | exact X.index1n rfl rfl Try.underlying28 sz_3 (by first | exact Option.some_ne_none _ | exact hcs5.some_ (by omega)) (by omega) | exact X.index1 rfl rfl Try.underlying28 sz_3 (by first | exact Option.some_ne_none _ | exact hcs5.some_ (by omega)) (by omega))) ?_
            refine Qt.va rfl (fun w' hw => X.load rfl sc_3 (by first | exact Ld.blk (hk5.ext hw) rfl | exact Ld.num (hcs5.ext hw) (by omega))) ?_
            refine Qt.va rfl (fun w' hw => X.lss rfl rfl) ?_
            refine Qt.va rfl (fun w' hw => X.move (by conv => lhs; whnf)) ?_
            -- case t42
            refine Qt.caseDec (k := 42) rfl (fun g2 => ?_) (fun g2 => ?_)
            · have g2' : cs.getD i 0 < 0 := g2
              have e := r2 (hmf (hno (by omega)))
              rw [e.1, e.2]
              refine Qt.no rfl ?_
              refine Qt.no rfl ?_
              refine Qt.no rfl ?_
              refine Qt.no rfl ?_
              refine Qt.no rfl ?_
              refine Qt.no rfl ?_
              refine Qt.no rfl ?_
              refine Qt.va rfl (fun w' hw => X.pickT rfl (by conv => lhs; whnf)) ?_
              refine Qt.nil (fun w6 hq => ?_)
              replace hk5 := hk5.ext hq
              replace hcs5 := hcs5.ext hq
              -- cond
              refine J.iteT rfl ?_
              refine J.seq ?_
              refine J.region ?_
              refine L.va rfl (X.assign (by conv => lhs; whnf)) ?_
              refine L.va rfl (X.assign (by conv => lhs; whnf)) ?_
              refine L.nil ?_
              -- ret
              refine J.ret ?_
              refine thn_ret <|  inB_ret <|  thn_ret <|  thn_ret <|  inB_ret <|  thn_ret <| ?_
              refine fin2 ?_
              exact ⟨rfl, he05.trans hq⟩
            · have g2' : ¬ cs.getD i 0 < 0 := g2
              refine Qt.va rfl (fun w' hw => X.move (by conv => lhs; whnf)) ?_
              refine Qt.va rfl (fun w' hw => X.move (by conv => lhs; whnf)) ?_
              refine Qt.va rfl (fun w' hw => (by first | exact X.index1n rfl rfl Try.underlying28 sz_3 (by first | exact Option.some_ne_none _ | exact hcs5.some_ (by omega)) (by omega) | exact X.index1 rfl rfl Try.underlying28 sz_3 (by first | exact Option.some_ne_none _ | exact hcs5.some_ (by omega)) (by omega))) ?_
              refine Qt.va rfl (fun w' hw => X.load rfl sc_3 (by first | exact Ld.blk (hk5.ext hw) rfl | exact Ld.num (hcs5.ext hw) (by omega))) ?_
              refine Qt.va rfl (fun w' hw => X.fieldAddr rfl Try.underlying40 rfl sz_3 (by decide)) ?_
              refine Qt.va rfl (fun w' hw => X.load rfl sc_3 (by first | exact Ld.blk (hk5.ext hw) rfl | exact Ld.num (hcs5.ext hw) (by omega))) ?_
              refine Qt.va rfl (fun w' hw => X.geq rfl rfl) ?_
              refine Qt.va rfl (fun w' hw => X.pickF rfl (by conv => lhs; whnf)) ?_
              refine Qt.nil (fun w6 hq => ?_)
              replace hk5 := hk5.ext hq
              replace hcs5 := hcs5.ext hq
              -- cond
              refine J.dec rfl (fun g3 => ?_) (fun g3 => ?_)
              · have g3' : dv ≤ cs.getD i 0 := g3
                have e := r2 (hmf (hno (by omega)))
                rw [e.1, e.2]
                refine J.seq ?_
                refine J.region ?_
                refine L.va rfl (X.assign (by conv => lhs; whnf)) ?_
                refine L.va rfl (X.assign (by conv => lhs; whnf)) ?_
                refine L.nil ?_
                -- ret
                refine J.ret ?_
                refine thn_ret <|  inB_ret <|  thn_ret <|  thn_ret <|  inB_ret <|  thn_ret <| ?_
                refine fin2 ?_
                exact ⟨rfl, he05.trans hq⟩
              · have g3' : ¬ dv ≤ cs.getD i 0 := g3
                have hO1 := hmk (by omega)
                have hbn := hbn hO1
                have m1 : 0 ≤ ((i, z) : Nat × Int).2 * dv := Int.mul_nonneg hbz.1 (by omega)
                have m2 : ((i, z) : Nat × Int).2 * dv = z * dv := rfl
                have m3 : cs.getD ((i, z) : Nat × Int).1 0 = cs.getD i 0 := rfl
                refine J.skip ?_
                -- draw
                refine J.quiet mixed (by kernel_rfl) ?_
                refine Qt.va rfl (fun w' hw => X.move (by conv => lhs; whnf)) ?_
                refine Qt.va rfl (fun w' hw => X.fieldAddr rfl Try.underlying40 rfl sz_3 (by decide)) ?_
                refine Qt.va rfl (fun w' hw => X.load rfl sc_3 (by first | exact Ld.blk (hk5.ext hw) rfl | exact Ld.num (hcs5.ext hw) (by omega))) ?_
                refine Qt.va rfl (fun w' hw => (by first | exact X.convU rfl is_3 Try.underlying31 (by omega) | exact X.convw rfl is_3 Try.underlying31)) ?_
                refine Qt.va rfl (fun w' hw => X.mulU rfl rfl (by omega)) ?_
                refine Qt.va rfl (fun w' hw => X.move (by conv => lhs; whnf)) ?_
                refine Qt.va rfl (fun w' hw => X.move (by conv => lhs; whnf)) ?_
                refine Qt.va rfl (fun w' hw => (by first | exact X.index1n rfl rfl Try.underlying28 sz_3 (by first | exact Option.some_ne_none _ | exact hcs5.some_ (by omega)) (by omega) | exact X.index1 rfl rfl Try.underlying28 sz_3 (by first | exact Option.some_ne_none _ | exact hcs5.some_ (by omega)) (by omega))) ?_
                refine Qt.va rfl (fun w' hw => X.load rfl sc_3 (by first | exact Ld.blk (hk5.ext hw) rfl | exact Ld.num (hcs5.ext hw) (by omega))) ?_
                refine Qt.va rfl (fun w' hw => (by first | exact X.convU rfl is_3 Try.underlying31 (by omega) | exact X.convw rfl is_3 Try.underlying31)) ?_
                refine Qt.va rfl (fun w' hw => X.addU rfl rfl (by omega)) ?_
                refine Qt.va rfl (fun w' hw => X.assign (by conv => lhs; whnf)) ?_
                refine Qt.nil (fun w7 hq2 => ?_)
                replace hk5 := hk5.ext hq2
                replace hcs5 := hcs5.ext hq2
                refine J.region ?_
                refine L.va rfl (X.add rfl rfl (by omega)) ?_
                refine L.va rfl (X.move (by conv => lhs; whnf)) ?_
                refine L.nil ?_
                -- loopend
                refine ⟨(i + 1, z * dv + cs.getD i 0), At2 (by first | rfl | exact at_int rfl (by omega) | exact at_slice rfl (by omega) | exact at_int rfl (by simp)) (by first | rfl | exact at_int rfl (by omega) | exact at_slice rfl (by omega) | exact at_int rfl (by simp)), (by (iterate 40 refine Agr.lk rfl ?_); exact Agr.lk rfl (Agr.hav rfl Agr.rfl')), ?_⟩
                exact ⟨⟨((he3.trans he35).trans hq).trans hq2, by dsimp only; omega, hnx.symm, hO1⟩, by dsimp only; omega⟩
        · obtain rfl : i = s.nd := by dsimp only at hlt; omega
          have e := r0 hO
          rw [e.1, e.2, ← hz]
          refine J.exit ?_
          refine J.seq ?_
          refine J.region ?_
          refine L.va rfl (X.move (by conv => lhs; whnf)) ?_
          refine L.va rfl (X.assign (by conv => lhs; whnf)) ?_
          refine L.va rfl (X.assign (by conv => lhs; whnf)) ?_
          refine L.nil ?_
          -- ret
          refine J.ret ?_
          refine fin2 ?_
          exact ⟨rfl, he03⟩
end Sch
end Go.Proofs.Ytmiieppcoknmfaa
