/-
  Package advise: Cost and Choose.
-/
import Derived.Test.YtkipdkkpifnboaaWAdvD
namespace Go.Proofs.Ytkipdkkpifnboaa
open Go.RowKit H
open Mk Ad
set_option linter.unusedVariables false
def coV (n : Int) (ss : List Int) (vs : List Nat) : Int := if gnE n ss vs = 0 then costL ss vs else 0
theorem cost_nil (ss : List Int) : costL ss [] = lastS ss * (ss.length : Int) := by
  unfold costL
  rw [outs_nil]
  generalize ss.length = q
  induction q with
  | zero => simp
  | succ q ih => rw [List.replicate_succ, List.sum_cons, ih, show ((q + 1 : Nat) : Int) = (q : Int) + 1 by omega, Int.mul_add]; omega
theorem advcost_any (n : Int) (A : Option Addr) (q c : Nat) (B : Option Addr) (m cB : Nat) (ss : List Int) (vs : List Nat) (w : World) (hr : Reads w w.heap.size 1 A q (nums .i64 ss)) (hq : q ≤ 9223372036854775807)
    (hV : Reads w w.heap.size 1 B m (nums .u32 (zl vs))) (hm : m ≤ 9223372036854775807) (hvs : ∀ v ∈ vs, v < 4294967296) :
    Calls Try.prog 16 #[.int .i64 n, .slice A q c, .slice B m cB] w fun e w' => e = .returned (.tuple #[.int .i64 (coV n ss vs), .int .i64 (gnE n ss vs)]) ∧ Ext w w' := by
  have hl : ss.length = q := by have := hr.1; simpa [nums] using this
  refine enter Try.func16 rfl (by kernel_rfl) ?_
  refine J.seq ?_
  refine J.region ?_
  refine L.va rfl (X.assign (by conv => lhs; whnf)) ?_
  refine L.va rfl (X.assign (by conv => lhs; whnf)) ?_
  refine L.nil ?_
  refine J.seq ?_
  refine J.region ?_
  refine L.va rfl (X.move (by conv => lhs; whnf)) ?_
  refine L.va rfl (X.move (by conv => lhs; whnf)) ?_
  refine L.va rfl (X.move (by conv => lhs; whnf)) ?_
  -- callfn bushel/advise.Gain
  refine L.call rfl en_17 rfl (advgain_any n A q c B m cB ss vs _ hr hq hV hm hvs) ?_
  rintro e w1 ⟨rfl, he⟩
  refine ⟨_, rfl, ?_⟩
  have he : Ext w w1 := he
  have hr1 := hr.ext he
  refine L.va rfl (X.move (by conv => lhs; whnf)) ?_
  refine L.va rfl (X.extract rfl rfl) ?_
  refine L.va rfl (X.extract rfl rfl) ?_
  refine L.va rfl (X.assign (by conv => lhs; whnf)) ?_
  refine L.va rfl (X.assign (by conv => lhs; whnf)) ?_
  refine L.nil ?_
  refine J.seq ?_
  refine J.seq ?_
  refine J.region ?_
  refine L.va rfl (X.move (by conv => lhs; whnf)) ?_
  refine L.va rfl (X.neq rfl rfl) ?_
  refine L.nil ?_
  -- cond
  refine J.ndec rfl (fun h0 => ?_) (fun h0 => ?_)
  · have hW : coV n ss vs = 0 := by rw [coV, if_neg h0]
    rw [hW]
    refine J.seq ?_
    refine J.region ?_
    refine L.va rfl (X.move (by conv => lhs; whnf)) ?_
    refine L.va rfl (X.assign (by conv => lhs; whnf)) ?_
    refine L.va rfl (X.assign (by conv => lhs; whnf)) ?_
    refine L.nil ?_
    -- ret
    refine J.ret ?_
    refine thn_ret <| ?_
    refine fin2 ?_
    exact ⟨rfl, he⟩
  · have hE : gnE n ss vs = 0 := by omega
    obtain ⟨hask, hvl⟩ := gnE_ask hE
    obtain ⟨n1, n6, _, hq2, hq64, hS⟩ := askE_zero hask
    rw [hl] at hq2 hq64
    have hn : 0 < ss.length := by omega
    have hG : gnV n ss vs = gn ss vs := by rw [gnV, if_pos hE]
    have hW : coV n ss vs = costL ss vs := by rw [coV, if_pos hE]
    have e1 : (q : Int) - 1 = ((q - 1 : Nat) : Int) := by omega
    have hm0 : ss.getD ((q : Int) - 1).toNat 0 * (q : Int) = costL ss [] := by
      rw [cost_nil, hl, show ((q : Int) - 1).toNat = q - 1 by omega]
      unfold lastS
      rw [hl]
    have s0 := (outs_ok hS hn [] (by simp)).sum
    have s1 := (outs_ok hS hn vs hvl).sum
    rw [outs_length, hl] at s0 s1
    have b0 : 0 ≤ costL ss [] ∧ costL ss [] ≤ (q : Int) * 1099511627776 := s0
    have b1 : 0 ≤ costL ss vs ∧ costL ss vs ≤ (q : Int) * 1099511627776 := s1
    have egn : costL ss [] - gn ss vs = costL ss vs := by unfold gn; omega
    rw [hG, hE, hW]
    rw [← hm0] at egn b0
    have egn2 : ss.getD ((q : Int) - 1).toNat 0 * (q : Int) - gn ss vs ≤ 9223372036854775807 ∧ 0 ≤ ss.getD ((q : Int) - 1).toNat 0 * (q : Int) - gn ss vs := by rw [egn]; omega
    generalize hZ : costL ss vs = Z at *
    refine J.skip ?_
    refine J.seq ?_
    refine J.region ?_
    refine L.va rfl (X.move (by conv => lhs; whnf)) ?_
    refine L.va rfl (X.move (by conv => lhs; whnf)) ?_
    refine L.va rfl (X.len rfl Try.underlying22) ?_
    refine L.va rfl (X.sub rfl rfl (by omega)) ?_
    refine L.va rfl ((by first | exact X.index1n rfl rfl Try.underlying22 sz_2 (by first | exact Option.some_ne_none _ | exact hr1.some_ (by omega)) (by omega) | exact X.index1 rfl rfl Try.underlying22 sz_2 (by first | exact Option.some_ne_none _ | exact hr1.some_ (by omega)) (by omega))) ?_
    refine L.va rfl (X.load rfl sc_2 (by first | exact Ld.num hr1 (by omega))) ?_
    refine L.va rfl (X.move (by conv => lhs; whnf)) ?_
    refine L.va rfl (X.len rfl Try.underlying22) ?_
    refine L.va rfl (X.mul rfl rfl (by omega)) ?_
    refine L.va rfl (X.move (by conv => lhs; whnf)) ?_
    refine L.va rfl (X.sub rfl rfl (by omega)) ?_
    refine L.va rfl (X.assign (by conv => lhs; whnf)) ?_
    refine L.va rfl (X.assign (by conv => lhs; whnf)) ?_
    refine L.nil ?_
    -- ret
    refine J.ret ?_
    refine fin2 ?_
    rw [egn]
    exact ⟨rfl, he⟩
/-- Choose's answer -/
def chL (n : Int) (ss : List Int) (k : Int) : List Nat := if askE n ss = 0 then grd ss k.toNat [] else []
theorem advchoose_any (n : Int) (A : Option Addr) (q c : Nat) (k : Int) (ss : List Int) (w : World) (hr : Reads w w.heap.size 1 A q (nums .i64 ss)) (hq : q ≤ 9223372036854775807) :
    Calls Try.prog 20 #[.int .i64 n, .slice A q c, .int .i64 k] w fun e w' => ∃ A' c', e = .returned (.tuple #[.slice A' (chL n ss k).length c', .int .i64 (askE n ss)]) ∧ w'.ownsRow w.heap.size 29 1 (.slice A' (chL n ss k).length c') (chL n ss k).length (nums .u32 (zl (chL n ss k))) ∧ Ext w w' := by
  have hl : ss.length = q := by have := hr.1; simpa [nums] using this
  refine enter Try.func20 rfl (by kernel_rfl) ?_
  refine J.seq ?_
  refine J.region ?_
  refine L.va rfl (X.assign (by conv => lhs; whnf)) ?_
  refine L.va rfl (X.assign (by conv => lhs; whnf)) ?_
  refine L.nil ?_
  refine J.seq ?_
  refine J.seq ?_
  refine J.region ?_
  refine L.va rfl (X.move (by conv => lhs; whnf)) ?_
  refine L.va rfl (X.move (by conv => lhs; whnf)) ?_
  -- callfn bushel/advise.ask
  refine L.call rfl en_64 rfl (advask_any n A q c ss _ hr hq) ?_
  rintro e _ ⟨rfl, rfl⟩
  refine ⟨_, rfl, ?_⟩
  refine L.va rfl (X.assign (by conv => lhs; whnf)) ?_
  refine L.nil ?_
  refine J.seq ?_
  refine J.region ?_
  refine L.va rfl (X.move (by conv => lhs; whnf)) ?_
  refine L.va rfl (X.neq rfl rfl) ?_
  refine L.nil ?_
  -- cond
  refine J.ndec rfl (fun h0 => ?_) (fun h0 => ?_)
  · have hE : chL n ss k = [] := by rw [chL, if_neg h0]
    rw [hE]
    refine J.seq ?_
    refine J.region ?_
    refine L.va rfl (X.move (by conv => lhs; whnf)) ?_
    refine L.va rfl (X.assign (by conv => lhs; whnf)) ?_
    refine L.va rfl (X.assign (by conv => lhs; whnf)) ?_
    refine L.nil ?_
    -- ret
    refine J.ret ?_
    refine thn_ret <| ?_
    refine fin2 ?_
    exact ⟨none, 0, rfl, own_nilN _ _ _ _, Ext.refl _⟩
  · have h00 : askE n ss = 0 := by omega
    have hE : chL n ss k = grd ss k.toNat [] := by rw [chL, if_pos h00]
    rw [hE, h00]
    obtain ⟨n1, n6, _, hq2, hq64, hS⟩ := askE_zero h00
    rw [hl] at hq2 hq64
    have hn : 0 < ss.length := by omega
    refine J.skip ?_
    refine J.seq ?_
    refine J.region ?_
    refine L.va rfl (X.move (by conv => lhs; whnf)) ?_
    -- callfn bushel/advise.costs
    refine L.call rfl en_65 rfl (advcosts_any A q c ss _ hr hq64 (by omega)) ?_
    rintro e w1 ⟨A1, c1, rfl, ho, he⟩
    refine ⟨_, rfl, ?_⟩
    have he : Ext w w1 := he
    have hz1 := he.le
    obtain ⟨bo, cap0, hA1, hbo, hlt0⟩ := ho.form (by omega : 0 < q)
    have hblk : (Value.slice A1 q c1).ownBlock = some bo := by rw [hA1]; rfl
    refine L.va rfl (X.assign (by conv => lhs; whnf)) ?_
    refine L.nil ?_
    refine J.seq ?_
    refine J.region ?_
    refine L.va rfl (X.assign (by conv => lhs; whnf)) ?_
    refine L.nil ?_
    refine J.seq ?_
    refine J.block ?_
    -- loop
    refine J.loop (X := List Nat × Option Addr × Nat × Nat) [10, 11, 12, 13, 14, 23, 24, 25, 26, 27, 28, 29, 30, 31, 32, 33, 34, 35, 36, 37, 38, 39, 40, 41, 42, 43, 44, 45, 46, 47, 48, 49, 50, 51, 52, 53] (fun x => [(10, .slice x.2.1 x.2.2.1 x.2.2.2)]) (fun x w' => x.2.2.1 = x.1.length ∧ x.1.Nodup ∧ (∀ v ∈ x.1, v < q) ∧ x.1.length ≤ k.toNat ∧ grd ss k.toNat [] = grd ss (k.toNat - x.1.length) x.1 ∧ w'.ownsRow w.heap.size 2 1 (.slice A1 q c1) q (nums .i64 (outs ss x.1)) ∧ w'.ownsRow w.heap.size 29 1 (.slice x.2.1 x.2.2.1 x.2.2.2) x.2.2.1 (nums .u32 (zl x.1)) ∧ (Value.slice x.2.1 x.2.2.1 x.2.2.2).ownBlock ≠ some bo ∧ Ext w w') (fun x => k.toNat - x.1.length) (([], none, 0, 0)) (At1 (by first | rfl | exact at_int rfl (by omega) | exact at_slice rfl (by omega) | exact at_int rfl (by simp))) ?_ ?_
    · exact ⟨rfl, List.nodup_nil, fun v hv => absurd hv (by simp), by simp, by simp, ho, own_nilN _ _ _ _, by simp [Value.ownBlock], he⟩
    · rintro ⟨vs, A2, m, c2⟩ g w2 ⟨h1, hnd, hb, hle, hg, ho2, hc2, hne, he2⟩
      dsimp only at h1 hnd hb hle hg ho2 hc2 hne
      have hmm : ((vs, A2, m, c2) : List Nat × Option Addr × Nat × Nat).2.2.1 = vs.length := h1
      have hz2 := he2.le
      have hvb : ∀ v ∈ vs, v < ss.length := by rw [hl]; exact hb
      have hm64 := nodup_len q vs hnd hb
      obtain ⟨t1, t2, t3⟩ := top_spec ss (outs ss vs) ss.length
      refine J.seq ?_
      refine J.seq ?_
      refine J.region ?_
      refine L.va rfl (X.move (by conv => lhs; whnf)) ?_
      refine L.va rfl (X.len rfl Try.underlying23) ?_
      refine L.va rfl (X.move (by conv => lhs; whnf)) ?_
      refine L.va rfl (X.lss rfl rfl) ?_
      refine L.nil ?_
      -- cond
      refine J.dec rfl (fun hlt => ?_) (fun hlt => ?_)
      · obtain ⟨j, hj⟩ : ∃ j, k.toNat - vs.length = j + 1 := ⟨k.toNat - vs.length - 1, by omega⟩
        refine J.skip ?_
        refine J.block ?_
        -- until
        refine J.seq ?_
        refine J.region ?_
        refine L.va rfl (X.assign (by conv => lhs; whnf)) ?_
        refine L.va rfl (X.assign (by conv => lhs; whnf)) ?_
        refine L.nil ?_
        -- until
        refine J.cut (X := Nat × Int) [11, 12, 13, 14, 27, 28, 29, 30, 31, 32, 33, 34, 35, 36, 37, 38, 39, 40, 41, 42, 43] (fun x => [(11, .int .u32 (x.1 : Int)), (12, .int .i64 x.2)]) (fun x w' => top ss (outs ss vs) q = (x.1, x.2) ∧ Ext w2 w') ?_ ?_
        · refine J.seq ?_
          refine J.region ?_
          refine L.va rfl (X.move (by conv => lhs; whnf)) ?_
          refine L.va rfl (X.len rfl Try.underlying22) ?_
          refine L.va rfl (X.move (by conv => lhs; whnf)) ?_
          refine L.nil ?_
          refine J.block ?_
          -- loop
          refine J.loop (X := Nat × Nat × Int) [11, 12, 13, 14, 29, 30, 31, 32, 33, 34, 35, 36, 37, 38, 39, 40, 41, 42, 43] (fun x => [(29, .int .i64 (x.1 : Int)), (11, .int .u32 (x.2.1 : Int)), (12, .int .i64 x.2.2)]) (fun x w' => x.1 ≤ q ∧ top ss (outs ss vs) x.1 = (x.2.1, x.2.2) ∧ Ext w2 w') (fun x => q - x.1) ((0, 0, 0)) (At3 (by first | rfl | exact at_int rfl (by omega) | exact at_slice rfl (by omega) | exact at_int rfl (by simp)) (by first | rfl | exact at_int rfl (by omega) | exact at_slice rfl (by omega) | exact at_int rfl (by simp)) (by first | rfl | exact at_int rfl (by omega) | exact at_slice rfl (by omega) | exact at_int rfl (by simp))) ?_ ?_
          · exact ⟨by dsimp only; omega, rfl, Ext.refl _⟩
          · rintro ⟨i, b, z⟩ g w3 ⟨hi, ht, he3⟩
            dsimp only at hi ht
            have htn : top ss (outs ss vs) (i + 1) = if z < wth ss (outs ss vs) i then (i, wth ss (outs ss vs) i) else (b, z) := by
              show (if (top ss (outs ss vs) i).2 < wth ss (outs ss vs) i then _ else _) = _
              rw [ht]
            refine J.seq ?_
            refine J.region ?_
            refine L.va rfl (X.lss rfl rfl) ?_
            refine L.nil ?_
            refine J.seq ?_
            -- cond
            refine J.dec rfl (fun hi2 => ?_) (fun hi2 => ?_)
            · refine J.skip ?_
              refine J.seq ?_
              refine J.block ?_
              refine J.seq ?_
              refine J.region ?_
              refine L.va rfl (X.move (by conv => lhs; whnf)) ?_
              refine L.va rfl (X.assign (by conv => lhs; whnf)) ?_
              refine L.nil ?_
              refine J.seq ?_
              refine J.region ?_
              refine L.va rfl (X.move (by conv => lhs; whnf)) ?_
              refine L.va rfl (X.move (by conv => lhs; whnf)) ?_
              refine L.va rfl (X.move (by conv => lhs; whnf)) ?_
              refine L.va rfl ((by first | exact X.conv32 rfl is_3 Try.underlying29 (by omega) | exact X.convw rfl is_3 Try.underlying29)) ?_
              -- callfn bushel/advise.worth
              refine L.call rfl en_68 rfl (advworth_any A1 q c1 A c (outs ss vs) ss i _ ((own_reads ho2).ext he3 |>.here (by decide)) ((hr.ext (he2.trans he3)).here (by decide)) hq64 (by omega) (outs_ok hS hn vs hvb) hS) ?_
              rintro e w4 ⟨rfl, he4⟩
              refine ⟨_, rfl, ?_⟩
              have he4 : Ext w3 w4 := he4
              refine L.va rfl (X.assign (by conv => lhs; whnf)) ?_
              refine L.nil ?_
              refine J.seq ?_
              refine J.region ?_
              refine L.va rfl (X.move (by conv => lhs; whnf)) ?_
              refine L.va rfl (X.move (by conv => lhs; whnf)) ?_
              refine L.va rfl (X.gtr rfl rfl) ?_
              refine L.nil ?_
              -- cond
              refine J.dec rfl (fun hgt => ?_) (fun hgt => ?_)
              · rw [if_pos hgt] at htn
                refine J.region ?_
                refine L.va rfl (X.move (by conv => lhs; whnf)) ?_
                refine L.va rfl ((by first | exact X.conv32 rfl is_3 Try.underlying29 (by omega) | exact X.convw rfl is_3 Try.underlying29)) ?_
                refine L.va rfl (X.move (by conv => lhs; whnf)) ?_
                refine L.va rfl (X.assign (by conv => lhs; whnf)) ?_
                refine L.va rfl (X.assign (by conv => lhs; whnf)) ?_
                refine L.nil ?_
                refine J.region ?_
                refine L.va rfl (X.add rfl rfl (by omega)) ?_
                refine L.va rfl (X.move (by conv => lhs; whnf)) ?_
                refine L.nil ?_
                -- loopend
                refine ⟨(i + 1, i, wth ss (outs ss vs) i), At3 (by first | rfl | exact at_int rfl (by omega) | exact at_slice rfl (by omega) | exact at_int rfl (by simp)) (by first | rfl | exact at_int rfl (by omega) | exact at_slice rfl (by omega) | exact at_int rfl (by simp)) (by first | rfl | exact at_int rfl (by omega) | exact at_slice rfl (by omega) | exact at_int rfl (by simp)), (by (iterate 19 refine Agr.lk rfl ?_); exact Agr.lk rfl (Agr.hav rfl Agr.rfl')), ?_⟩
                exact ⟨⟨by dsimp only; omega, htn, he3.trans he4⟩, by dsimp only; omega⟩
              · rw [if_neg hgt] at htn
                refine J.skip ?_
                refine J.region ?_
                refine L.va rfl (X.add rfl rfl (by omega)) ?_
                refine L.va rfl (X.move (by conv => lhs; whnf)) ?_
                refine L.nil ?_
                -- loopend
                refine ⟨(i + 1, b, z), At3 (by first | rfl | exact at_int rfl (by omega) | exact at_slice rfl (by omega) | exact at_int rfl (by simp)) (by first | rfl | exact at_int rfl (by omega) | exact at_slice rfl (by omega) | exact at_int rfl (by simp)) (by first | rfl | exact at_int rfl (by omega) | exact at_slice rfl (by omega) | exact at_int rfl (by simp)), (by (iterate 14 refine Agr.lk rfl ?_); exact Agr.lk rfl (Agr.hav rfl Agr.rfl')), ?_⟩
                exact ⟨⟨by dsimp only; omega, htn, he3.trans he4⟩, by dsimp only; omega⟩
            · obtain rfl : i = q := by omega
              refine J.exit ?_
              -- cutend
              refine ⟨(b, z), At2 (by first | rfl | exact at_int rfl (by omega) | exact at_slice rfl (by omega) | exact at_int rfl (by simp)) (by first | rfl | exact at_int rfl (by omega) | exact at_slice rfl (by omega) | exact at_int rfl (by simp)), (by (iterate 1 refine Agr.lk rfl ?_); refine Agr.lk rfl ?_; refine Agr.hav rfl ?_; (iterate 3 refine Agr.lk rfl ?_); exact Agr.rfl'), ?_⟩
              exact ⟨ht, he3⟩
        · rintro ⟨b, z⟩ g w3 ⟨ht, he3⟩
          dsimp only at ht
          have hz3 := he3.le
          have ho3 := ho2.ext he3
          have hc3 := hc2.ext he3
          rw [hl] at t1 t2 t3
          rw [ht] at t1 t2 t3
          dsimp only at t1 t2 t3
          have hgn := grd_next ss j vs
          rw [hl, ht] at hgn
          rw [hj] at hg
          refine J.seq ?_
          refine J.seq ?_
          refine J.region ?_
          refine L.va rfl (X.move (by conv => lhs; whnf)) ?_
          refine L.va rfl (X.eql rfl rfl) ?_
          refine L.nil ?_
          -- cond
          refine J.dec rfl (fun hzero => ?_) (fun hzero => ?_)
          · rw [if_pos hzero] at hgn
            rw [hg, hgn, ← h1]
            refine J.exit ?_
            refine J.seq ?_
            refine J.region ?_
            refine L.va rfl (X.move (by conv => lhs; whnf)) ?_
            refine L.va rfl (X.assign (by conv => lhs; whnf)) ?_
            refine L.va rfl (X.assign (by conv => lhs; whnf)) ?_
            refine L.nil ?_
            -- ret
            refine J.ret ?_
            refine fin2 ?_
            exact ⟨_, _, rfl, by rw [h1] at hc3 ⊢; exact hc3, he2.trans he3⟩
          · rw [if_neg hzero] at hgn
            obtain ⟨hbq, hwb⟩ := t3 (by have : z ≠ 0 := hzero; omega)
            have hnew : b ∉ vs := by
              intro hmem
              have := again_zero hS hn vs hvb b hmem
              rw [hwb] at this
              exact hzero this
            have hnd2 := nodup_snoc hnd hnew
            have hb2 : ∀ v ∈ vs ++ [b], v < q := by
              intro v hv
              rcases List.mem_append.1 hv with h | h
              · exact hb v h
              · obtain rfl : v = b := by simpa using h
                exact hbq
            have hly := (ly_outs hS hn vs hvb b (by omega)).1
            refine J.skip ?_
            refine J.seq ?_
            refine J.region ?_
            refine L.va rfl (X.move (by conv => lhs; whnf)) ?_
            refine L.va rfl (X.move (by conv => lhs; whnf)) ?_
            refine L.va rfl (X.move (by conv => lhs; whnf)) ?_
            -- callfn bushel/advise.lay
            refine L.call rfl en_66 rfl (advlay_any w.heap.size A1 q c1 A c (outs ss vs) ss b _ ho3 (by omega) (hr.ext (he2.trans he3)) hq64 hbq (outs_ok hS hn vs hvb) hS) ?_
            rintro e w4 ⟨rfl, ho4, hg4, hb4⟩
            refine ⟨_, rfl, ?_⟩
            rw [hly] at ho4
            dsimp only at ho4
            have hc4 := hc3.kept hg4 (.inr (by rw [hblk]; exact hne))
            have hz4 := hb4.size
            have he4 : Ext w w4 := Below.trans (he2.trans he3) hb4
            refine L.nil ?_
            refine J.region ?_
            refine L.va rfl (X.move (by conv => lhs; whnf)) ?_
            refine L.va rfl (X.move (by conv => lhs; whnf)) ?_
            -- buildSlice
            refine L.bslice (vs := [_]) rfl (Evs.cons (by conv => lhs; whnf) Evs.nil) rfl rfl rfl rfl Try.underlying23 sz_29 zr_29 (by decide) ?_
            intro b5 w5 hb5 hs5 hk5 he5
            -- append
            refine L.appendQ (q := m + 1) (ys := zl vs ++ [(b : Int)]) rfl rfl rfl Try.underlying23 el_29 (hc4.ext he5) ((blk_reads (q := 1) (l := nums .u32 [(b : Int)]) hk5 (by omega : b5 < w5.heap.size) rfl)) (by omega) (by simp) (by unfold maxLen; omega) (by omega) ?_
            intro A6 c6 w6 ho6 hg6 hb6 hor6
            rw [← zl_snoc] at ho6
            have ho7 := (ho4.ext he5).kept hg6 (.inr (by rw [hblk]; exact fun h => hne h.symm))
            have hne6 : (Value.slice A6 (m + 1) c6).ownBlock ≠ some bo := by
              rcases hor6 with h | h
              · rw [h]; exact hne
              · rw [h]
                intro hh
                injection hh with hh
                have := (ho4.lt bo hblk).2
                have := he5.le
                omega
            refine L.va rfl (X.assign (by conv => lhs; whnf)) ?_
            refine L.nil ?_
            -- loopend
            refine ⟨(vs ++ [b], A6, m + 1, c6), At1 (by first | rfl | exact at_int rfl (by omega) | exact at_slice rfl (by omega) | exact at_int rfl (by simp)), (by (iterate 11 refine Agr.lk rfl ?_); refine Agr.lk rfl ?_; refine Agr.hav rfl ?_; (iterate 6 refine Agr.lk rfl ?_); exact Agr.lk rfl (Agr.hav rfl Agr.rfl')), ?_⟩
            refine ⟨⟨?_, hnd2, hb2, ?_, ?_, ho7, ho6, hne6, Below.trans (he4.trans he5) hb6⟩, ?_⟩
            · dsimp only; rw [List.length_append, h1]; rfl
            · dsimp only; rw [List.length_append]; simp only [List.length_cons, List.length_nil]; omega
            · dsimp only; rw [hg, hgn, List.length_append]; simp only [List.length_cons, List.length_nil]; congr 1; omega
            · dsimp only; rw [List.length_append]; simp only [List.length_cons, List.length_nil]; omega
      · have hk0 : k.toNat - vs.length = 0 := by omega
        rw [hk0] at hg
        rw [hg]
        refine J.exit ?_
        refine J.seq ?_
        refine J.region ?_
        refine L.va rfl (X.move (by conv => lhs; whnf)) ?_
        refine L.va rfl (X.assign (by conv => lhs; whnf)) ?_
        refine L.va rfl (X.assign (by conv => lhs; whnf)) ?_
        refine L.nil ?_
        -- ret
        refine J.ret ?_
        refine fin2 ?_
        exact ⟨A2, c2, by rw [h1]; rfl, by rw [h1] at hc2; exact hc2, he2⟩
end Go.Proofs.Ytkipdkkpifnboaa
