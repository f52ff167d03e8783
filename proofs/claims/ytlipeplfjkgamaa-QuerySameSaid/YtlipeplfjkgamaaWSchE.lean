/-
  Why a schema isn't right, in the reference.
-/
import Derived.Test.YtlipeplfjkgamaaSchPlain
namespace Go.Proofs.Ytlipeplfjkgamaa
set_option maxRecDepth 100000
open Go.RowKit H
set_option linter.unusedVariables false
theorem pw6 {nd : Nat} (h : nd ≤ 6) : 1 ≤ 2 ^ nd ∧ 2 ^ nd ≤ 64 := ⟨Nat.pow_pos (by decide), Nat.le_trans (Nat.pow_le_pow_right (by decide) h) (by decide)⟩
/-- a set lies in the full one exactly if it is no greater -/
theorem sb_full {a nd : Nat} (ha : a < 4294967296) (hn : nd ≤ 6) : Mk.sb a (2 ^ nd - 1) = decide (a ≤ 2 ^ nd - 1) := by
  have hp := (pw6 hn).1
  unfold Mk.sb
  rw [Nat.and_two_pow_sub_one_eq_mod, Bool.eq_iff_iff, beq_iff_eq, decide_eq_true_iff]
  constructor
  · intro h
    have := Nat.mod_lt a hp
    omega
  · intro h
    exact Nat.mod_eq_of_lt (by omega)
theorem rsub_full (z F : Int) (nd : Nat) (w : World) (hz : 0 ≤ z ∧ z < 4294967296) (hn : nd ≤ 6) (hF : ((2 ^ nd - 1 : Nat) : Int) = F) :
    Calls Try.prog 98 #[.int .u32 z, .int .u32 F] w fun e w' => e = .returned (.bool (decide (z ≤ F))) ∧ w = w' := by
  obtain ⟨a, rfl⟩ := Int.eq_ofNat_of_zero_le hz.1
  have hp := pw6 hn
  have h := rsub_any a (2 ^ nd - 1) w (by omega) (by omega)
  rw [sb_full (by omega) hn] at h
  have e : decide (a ≤ 2 ^ nd - 1) = decide ((a : Int) ≤ F) := by rw [decide_eq_decide]; omega
  rw [e, hF] at h
  exact h
theorem rcheck_any (Ad : Option Addr) (nd cd : Nat) (A1 : Option Addr) (n1 c1 : Nat) (A2 : Option Addr) (n2 c2 : Nat) (Av : Option Addr) (nv cv : Nat) (ds : List (ByteArray × Int)) (s1 s2 : List ByteArray) (zs : List Int) (w : World)
    (hd : Reads w w.heap.size 2 Ad nd (dimsV ds)) (h1 : Reads w w.heap.size 1 A1 n1 (strs s1)) (h2 : Reads w w.heap.size 1 A2 n2 (strs s2)) (hv : Reads w w.heap.size 1 Av nv (nums .u32 zs)) (hzs : ∀ i, 0 ≤ zs.getD i 0 ∧ zs.getD i 0 < 4294967296) (hnv : nv ≤ maxLen) :
    Calls Try.prog 97 #[.agg #[.slice Ad nd cd, .slice A1 n1 c1, .slice A2 n2 c2, .slice Av nv cv]] w fun e w' => e = .returned (.int .i64 (chk nd n1 n2 nv ds s1 s2 zs)) ∧ Ext w w' := by
  have hl : ds.length = nd := by have := hd.1; rw [dimsV_length] at this; omega
  unfold maxLen at hnv
  have t3 := @chk_3 nd n1 n2 nv ds s1 s2 zs
  refine enter Try.func97 rfl (by kernel_rfl) ?_
  refine J.seq ?_
  refine J.region ?_
  -- box
  refine L.boxA (l := [_, _, _, _]) rfl rfl ?_
  intro b1 w1 hb1 hs1 hk1 he1
  refine L.va rfl (X.assign (by conv => lhs; whnf)) ?_
  refine L.nil ?_
  refine J.seq ?_
  refine J.seq ?_
  refine J.region ?_
  refine L.va rfl (X.fieldAddr rfl Try.underlying49 rfl sz_45 (by decide)) ?_
  refine L.va rfl (X.load rfl sc_45 (by first | exact Ld.blk hk1 rfl)) ?_
  refine L.va rfl (X.len rfl Try.underlying45) ?_
  refine L.va rfl (X.lss rfl rfl) ?_
  refine L.va rfl (X.move (by conv => lhs; whnf)) ?_
  -- case t14
  refine L.caseDec (k := 14) rfl (fun a1 => ?_) (fun a1 => ?_)
  · rw [t3 (by omega)]
    refine L.no rfl ?_
    refine L.no rfl ?_
    refine L.no rfl ?_
    refine L.no rfl ?_
    refine L.va rfl (X.pickT rfl (by conv => lhs; whnf)) ?_
    refine L.va rfl (X.move (by conv => lhs; whnf)) ?_
    refine L.no rfl ?_
    refine L.no rfl ?_
    refine L.no rfl ?_
    refine L.no rfl ?_
    refine L.va rfl (X.pickT rfl (by conv => lhs; whnf)) ?_
    refine L.va rfl (X.move (by conv => lhs; whnf)) ?_
    refine L.no rfl ?_
    refine L.no rfl ?_
    refine L.no rfl ?_
    refine L.no rfl ?_
    refine L.va rfl (X.pickT rfl (by conv => lhs; whnf)) ?_
    refine L.va rfl (X.move (by conv => lhs; whnf)) ?_
    refine L.no rfl ?_
    refine L.no rfl ?_
    refine L.no rfl ?_
    refine L.no rfl ?_
    refine L.va rfl (X.pickT rfl (by conv => lhs; whnf)) ?_
    refine L.nil ?_
    -- cond
    refine J.iteT rfl ?_
    refine J.seq ?_
    refine J.region ?_
    refine L.va rfl (X.assign (by conv => lhs; whnf)) ?_
    refine L.nil ?_
    -- ret
    refine J.ret ?_
    refine thn_ret <| ?_
    refine fin1 ?_
    exact ⟨rfl, he1⟩
  · refine L.va rfl (X.fieldAddr rfl Try.underlying49 rfl sz_45 (by decide)) ?_
    refine L.va rfl (X.load rfl sc_45 (by first | exact Ld.blk hk1 rfl)) ?_
    refine L.va rfl (X.len rfl Try.underlying45) ?_
    refine L.va rfl (X.gtr rfl rfl) ?_
    refine L.va rfl (X.pickF rfl (by conv => lhs; whnf)) ?_
    refine L.va rfl (X.move (by conv => lhs; whnf)) ?_
    -- case t20
    refine L.caseDec (k := 20) rfl (fun a2 => ?_) (fun a2 => ?_)
    · rw [t3 (by omega)]
      refine L.no rfl ?_
      refine L.no rfl ?_
      refine L.no rfl ?_
      refine L.no rfl ?_
      refine L.va rfl (X.pickT rfl (by conv => lhs; whnf)) ?_
      refine L.va rfl (X.move (by conv => lhs; whnf)) ?_
      refine L.no rfl ?_
      refine L.no rfl ?_
      refine L.no rfl ?_
      refine L.no rfl ?_
      refine L.va rfl (X.pickT rfl (by conv => lhs; whnf)) ?_
      refine L.va rfl (X.move (by conv => lhs; whnf)) ?_
      refine L.no rfl ?_
      refine L.no rfl ?_
      refine L.no rfl ?_
      refine L.no rfl ?_
      refine L.va rfl (X.pickT rfl (by conv => lhs; whnf)) ?_
      refine L.nil ?_
      -- cond
      refine J.iteT rfl ?_
      refine J.seq ?_
      refine J.region ?_
      refine L.va rfl (X.assign (by conv => lhs; whnf)) ?_
      refine L.nil ?_
      -- ret
      refine J.ret ?_
      refine thn_ret <| ?_
      refine fin1 ?_
      exact ⟨rfl, he1⟩
    · refine L.va rfl (X.fieldAddr rfl Try.underlying49 rfl sz_46 (by decide)) ?_
      refine L.va rfl (X.load rfl sc_46 (by first | exact Ld.blk hk1 rfl)) ?_
      refine L.va rfl (X.len rfl Try.underlying46) ?_
      refine L.va rfl (X.gtr rfl rfl) ?_
      refine L.va rfl (X.pickF rfl (by conv => lhs; whnf)) ?_
      refine L.va rfl (X.move (by conv => lhs; whnf)) ?_
      -- case t26
      refine L.caseDec (k := 26) rfl (fun a3 => ?_) (fun a3 => ?_)
      · rw [t3 (by omega)]
        refine L.no rfl ?_
        refine L.no rfl ?_
        refine L.no rfl ?_
        refine L.no rfl ?_
        refine L.va rfl (X.pickT rfl (by conv => lhs; whnf)) ?_
        refine L.va rfl (X.move (by conv => lhs; whnf)) ?_
        refine L.no rfl ?_
        refine L.no rfl ?_
        refine L.no rfl ?_
        refine L.no rfl ?_
        refine L.va rfl (X.pickT rfl (by conv => lhs; whnf)) ?_
        refine L.nil ?_
        -- cond
        refine J.iteT rfl ?_
        refine J.seq ?_
        refine J.region ?_
        refine L.va rfl (X.assign (by conv => lhs; whnf)) ?_
        refine L.nil ?_
        -- ret
        refine J.ret ?_
        refine thn_ret <| ?_
        refine fin1 ?_
        exact ⟨rfl, he1⟩
      · refine L.va rfl (X.fieldAddr rfl Try.underlying49 rfl sz_46 (by decide)) ?_
        refine L.va rfl (X.load rfl sc_46 (by first | exact Ld.blk hk1 rfl)) ?_
        refine L.va rfl (X.len rfl Try.underlying46) ?_
        refine L.va rfl (X.gtr rfl rfl) ?_
        refine L.va rfl (X.pickF rfl (by conv => lhs; whnf)) ?_
        refine L.va rfl (X.move (by conv => lhs; whnf)) ?_
        -- case t32
        refine L.caseDec (k := 32) rfl (fun a4 => ?_) (fun a4 => ?_)
        · rw [t3 (by omega)]
          refine L.no rfl ?_
          refine L.no rfl ?_
          refine L.no rfl ?_
          refine L.no rfl ?_
          refine L.va rfl (X.pickT rfl (by conv => lhs; whnf)) ?_
          refine L.nil ?_
          -- cond
          refine J.iteT rfl ?_
          refine J.seq ?_
          refine J.region ?_
          refine L.va rfl (X.assign (by conv => lhs; whnf)) ?_
          refine L.nil ?_
          -- ret
          refine J.ret ?_
          refine thn_ret <| ?_
          refine fin1 ?_
          exact ⟨rfl, he1⟩
        · refine L.va rfl (X.fieldAddr rfl Try.underlying49 rfl sz_47 (by decide)) ?_
          refine L.va rfl (X.load rfl sc_47 (by first | exact Ld.blk hk1 rfl)) ?_
          refine L.va rfl (X.len rfl Try.underlying47) ?_
          refine L.va rfl (X.gtr rfl rfl) ?_
          refine L.va rfl (X.pickF rfl (by conv => lhs; whnf)) ?_
          refine L.nil ?_
          -- cond
          refine J.dec rfl (fun a5 => ?_) (fun a5 => ?_)
          · rw [t3 (by omega)]
            refine J.seq ?_
            refine J.region ?_
            refine L.va rfl (X.assign (by conv => lhs; whnf)) ?_
            refine L.nil ?_
            -- ret
            refine J.ret ?_
            refine thn_ret <| ?_
            refine fin1 ?_
            exact ⟨rfl, he1⟩
          · have hlen : 1 ≤ nd ∧ nd ≤ 6 ∧ n1 ≤ 3 ∧ n2 ≤ 2 ∧ nv ≤ 15 := by omega
            have t8 := @chk_8 nd n1 n2 nv ds s1 s2 zs hlen
            have t9 := @chk_9 nd n1 n2 nv ds s1 s2 zs hlen
            have t2 := @chk_2 nd n1 n2 nv ds s1 s2 zs hlen
            have t6 := @chk_6 nd n1 n2 nv ds s1 s2 zs hlen
            have t0 := @chk_0 nd n1 n2 nv ds s1 s2 zs hlen
            refine J.skip ?_
            refine J.seq ?_
            refine J.region ?_
            refine L.va rfl ((by first | exact X.loadAgg rfl (range_l hk1) Try.underlying49 rfl (by kernel_rfl) | exact X.loadAgg rfl (range_blk hk1) Try.underlying49 rfl (by kernel_rfl))) ?_
            -- callfn bushel/bushelref11.names
            refine L.call rfl en_85 rfl (rnames_any Ad nd cd A1 n1 c1 A2 n2 c2 Av nv cv ds s1 s2 _ ((hd.ext he1).here (by decide)) ((h1.ext he1).here (by decide)) ((h2.ext he1).here (by decide)) (by omega) (by omega) (by omega)) ?_
            rintro e w2 ⟨A, c, rfl, ho, he2⟩
            refine ⟨_, rfl, ?_⟩
            have he2 : Ext w1 w2 := he2
            refine L.va rfl (X.assign (by conv => lhs; whnf)) ?_
            refine L.nil ?_
            refine J.seq ?_
            refine J.seq ?_
            refine J.region ?_
            refine L.va rfl (X.assign (by conv => lhs; whnf)) ?_
            refine L.nil ?_
            refine J.block ?_
            -- loop
            refine J.loop (X := Nat) [2, 4, 40, 41, 42, 43, 44, 45, 46, 47, 48, 49, 50, 51] (fun i => [(4, .int .i64 (i : Int))]) (fun i w' => i ≤ nd + n1 + n2 ∧ nmB (nmL ds s1 s2) i = true ∧ Ext w2 w') (fun i => nd + n1 + n2 - i) (0) (At1 (by first | rfl | exact at_int rfl (by omega) | exact at_slice rfl (by omega) | exact at_int rfl (by simp))) ?_ ?_
            · exact ⟨by omega, rfl, Ext.refl _⟩
            · rintro i g w3 ⟨hi, hB, he3⟩
              have ho3 := ho.ext he3
              have hk3 := (hk1.ext he2).ext he3
              refine J.seq ?_
              refine J.seq ?_
              refine J.region ?_
              refine L.va rfl (X.move (by conv => lhs; whnf)) ?_
              refine L.va rfl (X.move (by conv => lhs; whnf)) ?_
              refine L.va rfl (X.len rfl Try.underlying46) ?_
              refine L.va rfl (X.lss rfl rfl) ?_
              refine L.nil ?_
              -- cond
              refine J.dec rfl (fun hlt => ?_) (fun hlt => ?_)
              · refine J.skip ?_
                refine J.seq ?_
                refine J.block ?_
                refine J.seq ?_
                refine J.region ?_
                refine L.va rfl (X.move (by conv => lhs; whnf)) ?_
                refine L.va rfl (X.move (by conv => lhs; whnf)) ?_
                refine L.va rfl ((by first | exact X.index1n rfl rfl Try.underlying46 sz_9 (by first | exact Option.some_ne_none _ | exact own_ne ho3 (by omega)) (by omega) | exact X.index1 rfl rfl Try.underlying46 sz_9 (by first | exact Option.some_ne_none _ | exact own_ne ho3 (by omega)) (by omega))) ?_
                refine L.va rfl (X.load rfl sc_9 (by first | exact Ld.ostr ho3 (by omega) | exact Ld.blk hk3 rfl)) ?_
                -- callfn bushel/bushelref10.Is
                refine L.call rfl en_177 rfl (ris_any _ _) ?_
                rintro e w4 ⟨rfl, he4⟩
                refine ⟨_, rfl, ?_⟩
                have he4 : Ext w3 w4 := he4
                cases hs : isS ((nmL ds s1 s2).getD i be0)
                · have hE := mono_f (nmB_s (nmL ds s1 s2)) (by omega : i + 1 ≤ nd + n1 + n2) (nmB_no hs)
                  rw [t8 hE]
                  refine L.va rfl (X.not rfl) ?_
                  refine L.nil ?_
                  -- cond
                  refine J.iteT rfl ?_
                  refine J.seq ?_
                  refine J.region ?_
                  refine L.va rfl (X.assign (by conv => lhs; whnf)) ?_
                  refine L.nil ?_
                  -- ret
                  refine J.ret ?_
                  refine inB_ret <|  thn_ret <|  thn_ret <|  inB_ret <|  thn_ret <| ?_
                  refine fin1 ?_
                  exact ⟨rfl, ((he1.trans he2).trans he3).trans he4⟩
                · refine L.va rfl (X.not rfl) ?_
                  refine L.nil ?_
                  -- cond
                  refine J.iteF rfl ?_
                  refine J.skip ?_
                  refine J.region ?_
                  refine L.va rfl (X.move (by conv => lhs; whnf)) ?_
                  refine L.va rfl (X.add rfl rfl (by omega)) ?_
                  refine L.va rfl (X.assign (by conv => lhs; whnf)) ?_
                  refine L.nil ?_
                  -- loopend
                  refine ⟨i + 1, At1 (by first | rfl | exact at_int rfl (by omega) | exact at_slice rfl (by omega) | exact at_int rfl (by simp)), (by (iterate 13 refine Agr.lk rfl ?_); exact Agr.lk rfl (Agr.hav rfl Agr.rfl')), ?_⟩
                  exact ⟨⟨by omega, nmB_mk hB hs, he3.trans he4⟩, by omega⟩
              · obtain rfl : i = nd + n1 + n2 := by omega
                refine J.exit ?_
                refine J.seq ?_
                refine J.seq ?_
                refine J.region ?_
                refine L.va rfl (X.move (by conv => lhs; whnf)) ?_
                -- callfn bushel/bushelref10.Twice
                refine L.call rfl en_178 rfl (rtwice_any _ _ _ _ _ ((own_reads ho3).here (by decide)) (by exact (own_bd ho).1) (by omega)) ?_
                rintro e w4 ⟨rfl, he4⟩
                refine ⟨_, rfl, ?_⟩
                have he4 : Ext w3 w4 := he4
                have he14 := (he2.trans he3).trans he4
                have hk4 := hk1.ext he14
                have hd4 := (hd.ext he1).ext he14
                have hv4 := (hv.ext he1).ext he14
                have he04 := he1.trans he14
                refine L.va rfl (X.geq rfl rfl) ?_
                refine L.nil ?_
                -- cond
                refine J.dec rfl (fun h9 => ?_) (fun h9 => ?_)
                · rw [t9 hB h9]
                  refine J.seq ?_
                  refine J.region ?_
                  refine L.va rfl (X.assign (by conv => lhs; whnf)) ?_
                  refine L.nil ?_
                  -- ret
                  refine J.ret ?_
                  refine thn_ret <| ?_
                  refine fin1 ?_
                  exact ⟨rfl, he04⟩
                · refine J.skip ?_
                  refine J.seq ?_
                  refine J.region ?_
                  refine L.va rfl (X.assign (by conv => lhs; whnf)) ?_
                  refine L.nil ?_
                  -- until
                  refine J.seq ?_
                  refine J.seq ?_
                  refine J.region ?_
                  refine L.va rfl (X.assign (by conv => lhs; whnf)) ?_
                  refine L.nil ?_
                  refine J.block ?_
                  -- loop
                  refine J.loop (X := Nat × Int) [2, 5, 6, 7, 55, 56, 57, 58, 59, 60, 61, 62, 63, 64, 65, 66, 67, 68, 69, 70, 71, 72, 73, 74, 75, 76, 77, 78] (fun x => [(6, .int .i64 (x.1 : Int)), (5, .int .i64 x.2)]) (fun x w' => w' = w4 ∧ x.1 ≤ nd ∧ x.2 = kyA ds x.1 ∧ szB ds x.1 = true) (fun x => nd - x.1) ((0, 1)) (At2 (by first | rfl | exact at_int rfl (by omega) | exact at_slice rfl (by omega) | exact at_int rfl (by simp)) (by first | rfl | exact at_int rfl (by omega) | exact at_slice rfl (by omega) | exact at_int rfl (by simp))) ?_ ?_
                  · exact ⟨rfl, by dsimp only; omega, rfl, rfl⟩
                  · rintro ⟨i, z⟩ g w5 ⟨rfl, hi, hz, hS⟩
                    dsimp only at hi hz hS
                    have q1 : ((i, z) : Nat × Int).1 = i := rfl
                    have q2 : ((i, z) : Nat × Int).2 = z := rfl
                    have hzb := kyA_bd hS
                    rw [← hz] at hzb
                    refine J.seq ?_
                    refine J.seq ?_
                    refine J.region ?_
                    refine L.va rfl (X.move (by conv => lhs; whnf)) ?_
                    refine L.va rfl (X.fieldAddr rfl Try.underlying49 rfl sz_45 (by decide)) ?_
                    refine L.va rfl (X.load rfl sc_45 (by first | exact Ld.blk hk4 rfl | exact Ld.num hv4 (by omega) | exact Ld.rd hd4 (by omega))) ?_
                    refine L.va rfl (X.len rfl Try.underlying45) ?_
                    refine L.va rfl (X.lss rfl rfl) ?_
                    refine L.nil ?_
                    -- cond
                    refine J.dec rfl (fun hlt2 => ?_) (fun hlt2 => ?_)
                    · have hil : i < nd := by dsimp only at hlt2; omega
                      have hnx := @ky_next ds i hS
                      have hno := @szB_no ds i
                      have hmf := fun h => t2 hB h9 (mono_f (szB_s ds) (by omega : i + 1 ≤ nd) h)
                      have hkn : kyA ds (i + 1) = z * (ds.getD i d0).2 := by rw [hz]; rfl
                      -- t67
                      refine J.skip ?_
                      refine J.seq ?_
                      refine J.block ?_
                      refine J.seq ?_
                      refine J.region ?_
                      refine L.va rfl (X.fieldAddr rfl Try.underlying49 rfl sz_45 (by decide)) ?_
                      refine L.va rfl (X.load rfl sc_45 (by first | exact Ld.blk hk4 rfl | exact Ld.num hv4 (by omega) | exact Ld.rd hd4 (by omega))) ?_
                      refine L.va rfl (X.move (by conv => lhs; whnf)) ?_
                      refine L.va rfl ((by first | exact X.indexAddrn rfl rfl Try.underlying45 sz_128 (by first | exact Option.some_ne_none _ | exact hv4.some_ (by omega) | exact hd4.some_ (by omega)) (by omega) | exact X.indexAddr rfl rfl Try.underlying45 sz_128 (by first | exact Option.some_ne_none _ | exact hv4.some_ (by omega) | exact hd4.some_ (by omega)) (by omega))) ?_
                      refine L.va rfl (X.fieldP rfl Try.underlying128 rfl sz_3 (by decide) (by first | exact Option.some_ne_none _ | exact hv4.some_ (by omega) | exact hd4.some_ (by omega))) ?_
                      refine L.va rfl (X.load rfl sc_3 (Ld.dimN hd4 (by omega))) ?_
                      refine L.va rfl (X.assign (by conv => lhs; whnf)) ?_
                      refine L.nil ?_
                      refine J.seq ?_
                      refine J.seq ?_
                      refine J.region ?_
                      refine L.va rfl (X.move (by conv => lhs; whnf)) ?_
                      refine L.va rfl (X.lss rfl rfl) ?_
                      refine L.va rfl (X.move (by conv => lhs; whnf)) ?_
                      -- case t70
                      dsimp only
                      generalize hdv : (ds.getD i d0).2 = dv at *
                      refine L.caseDec (k := 70) rfl (fun b1 => ?_) (fun b1 => ?_)
                      · rw [hmf (hno (by omega))]
                        refine L.no rfl ?_
                        refine L.no rfl ?_
                        refine L.va rfl (X.pickT rfl (by conv => lhs; whnf)) ?_
                        refine L.nil ?_
                        -- cond
                        refine J.iteT rfl ?_
                        refine J.seq ?_
                        refine J.region ?_
                        refine L.va rfl (X.assign (by conv => lhs; whnf)) ?_
                        refine L.nil ?_
                        -- ret
                        refine J.ret ?_
                        refine thn_ret <|  inB_ret <|  thn_ret <|  thn_ret <|  inB_ret <|  thn_ret <| ?_
                        refine fin1 ?_
                        exact ⟨rfl, he04⟩
                      · refine L.va rfl (X.move (by conv => lhs; whnf)) ?_
                        refine L.va rfl (X.gtr rfl rfl) ?_
                        refine L.va rfl (X.pickF rfl (by conv => lhs; whnf)) ?_
                        refine L.nil ?_
                        -- cond
                        refine J.dec rfl (fun b2 => ?_) (fun b2 => ?_)
                        · rw [hmf (hno (by omega))]
                          refine J.seq ?_
                          refine J.region ?_
                          refine L.va rfl (X.assign (by conv => lhs; whnf)) ?_
                          refine L.nil ?_
                          -- ret
                          refine J.ret ?_
                          refine thn_ret <|  inB_ret <|  thn_ret <|  thn_ret <|  inB_ret <|  thn_ret <| ?_
                          refine fin1 ?_
                          exact ⟨rfl, he04⟩
                        · have hnx := hnx (by omega) (by omega)
                          rw [hkn] at hnx
                          have hnx' : 1 ≤ ((i, z) : Nat × Int).2 * dv ∧ ((i, z) : Nat × Int).2 * dv ≤ 1099511627776 * 4096 := hnx
                          have hq3 : ((i, z) : Nat × Int).2 * dv = z * dv := rfl
                          refine J.skip ?_
                          refine J.seq ?_
                          refine J.region ?_
                          refine L.va rfl (X.move (by conv => lhs; whnf)) ?_
                          refine L.va rfl (X.move (by conv => lhs; whnf)) ?_
                          refine L.va rfl (X.mul rfl rfl (by omega)) ?_
                          refine L.va rfl (X.assign (by conv => lhs; whnf)) ?_
                          refine L.nil ?_
                          refine J.seq ?_
                          refine J.region ?_
                          refine L.va rfl (X.move (by conv => lhs; whnf)) ?_
                          refine L.va rfl (X.gtr rfl rfl) ?_
                          refine L.nil ?_
                          -- cond
                          refine J.dec rfl (fun b3 => ?_) (fun b3 => ?_)
                          · rw [hmf (hno (by omega))]
                            refine J.seq ?_
                            refine J.region ?_
                            refine L.va rfl (X.assign (by conv => lhs; whnf)) ?_
                            refine L.nil ?_
                            -- ret
                            refine J.ret ?_
                            refine inB_ret <|  thn_ret <|  thn_ret <|  inB_ret <|  thn_ret <| ?_
                            refine fin1 ?_
                            exact ⟨rfl, he04⟩
                          · refine J.skip ?_
                            refine J.region ?_
                            refine L.va rfl (X.move (by conv => lhs; whnf)) ?_
                            refine L.va rfl (X.add rfl rfl (by omega)) ?_
                            refine L.va rfl (X.assign (by conv => lhs; whnf)) ?_
                            refine L.nil ?_
                            -- loopend
                            refine ⟨(i + 1, z * dv), At2 (by first | rfl | exact at_int rfl (by omega) | exact at_slice rfl (by omega) | exact at_int rfl (by simp)) (by first | rfl | exact at_int rfl (by omega) | exact at_slice rfl (by omega) | exact at_int rfl (by simp)), (by (iterate 28 refine Agr.lk rfl ?_); exact Agr.lk rfl (Agr.hav rfl Agr.rfl')), ?_⟩
                            exact ⟨⟨rfl, by dsimp only; omega, hkn.symm, szB_mk hS (by rw [hdv]; omega)⟩, by dsimp only; omega⟩
                    · obtain rfl : i = nd := by dsimp only at hlt2; omega
                      have hpw := pw6 hlen.2.1
                      refine J.exit ?_
                      refine J.seq ?_
                      refine J.region ?_
                      refine L.va rfl (X.fieldAddr rfl Try.underlying49 rfl sz_45 (by decide)) ?_
                      refine L.va rfl (X.load rfl sc_45 (by first | exact Ld.blk hk4 rfl | exact Ld.num hv4 (by omega) | exact Ld.rd hd4 (by omega))) ?_
                      refine L.va rfl (X.len rfl Try.underlying45) ?_
                      -- callfn bushel/bushelref11.Two
                      refine L.call rfl en_96 rfl (rtwo_any i _ (by omega)) ?_
                      rintro e _ ⟨rfl, rfl⟩
                      refine ⟨_, rfl, ?_⟩
                      generalize hF : ((2 ^ i - 1 : Nat) : Int) = F at *
                      have hsub : IntKind.u32.wrap (((2 ^ i : Nat) : Int) - 1) = F := by rw [w32 (by omega)]; omega
                      refine L.va rfl (X.subw rfl rfl) ?_
                      refine L.va rfl (X.assign (by conv => lhs; whnf)) ?_
                      refine L.nil ?_
                      -- until
                      refine J.seq ?_
                      refine J.seq ?_
                      refine J.region ?_
                      refine L.va rfl (X.assign (by conv => lhs; whnf)) ?_
                      refine L.nil ?_
                      refine J.block ?_
                      -- loop
                      rw [hsub]
                      refine J.loop (X := Nat) [2, 9, 84, 85, 86, 87, 88, 89, 90, 91, 92, 93, 94, 95, 96, 97, 98, 99, 100, 101, 102, 103, 104, 105, 106, 107, 108, 109, 110, 111, 112, 113, 114, 115, 116, 117, 118, 119, 120, 121, 122, 123, 124, 125] (fun i => [(9, .int .i64 (i : Int))]) (fun i w' => Ext w5 w' ∧ i ≤ nv ∧ viB F zs i = true) (fun i => nv - i) (0) (At1 (by first | rfl | exact at_int rfl (by omega) | exact at_slice rfl (by omega) | exact at_int rfl (by simp))) ?_ ?_
                      · exact ⟨Ext.refl _, by omega, rfl⟩
                      · rintro j g w6 ⟨he6, hj, hV⟩
                        have hk6 := hk4.ext he6
                        have hv6 := hv4.ext he6
                        have he06 := he04.trans he6
                        refine J.seq ?_
                        refine J.seq ?_
                        refine J.region ?_
                        refine L.va rfl (X.move (by conv => lhs; whnf)) ?_
                        refine L.va rfl (X.fieldAddr rfl Try.underlying49 rfl sz_47 (by decide)) ?_
                        refine L.va rfl (X.load rfl sc_47 (by first | exact Ld.blk hk6 rfl | exact Ld.num hv6 (by omega))) ?_
                        refine L.va rfl (X.len rfl Try.underlying47) ?_
                        refine L.va rfl (X.lss rfl rfl) ?_
                        refine L.nil ?_
                        -- cond
                        refine J.dec rfl (fun hlt3 => ?_) (fun hlt3 => ?_)
                        · have hno := @viB_no F zs j
                          have hmf := fun h => t6 hB h9 hS (mono_f (viB_s F zs) (by omega : j + 1 ≤ nv) h)
                          have hzj := hzs j
                          have hzj' := hzs (j - 1)
                          have hjp : zs.getD ((j : Int) - 1).toNat 0 = zs.getD (j - 1) 0 := by rw [show ((j : Int) - 1).toNat = j - 1 by omega]
                          refine J.skip ?_
                          refine J.seq ?_
                          refine J.block ?_
                          refine J.seq ?_
                          -- draw
                          refine J.quiet mixed (by kernel_rfl) ?_
                          refine Qt.va rfl (fun w' hw => X.fieldAddr rfl Try.underlying49 rfl sz_47 (by decide)) ?_
                          refine Qt.va rfl (fun w' hw => X.load rfl sc_47 (by first | exact Ld.blk (hk6.ext hw) rfl | exact Ld.num (hv6.ext hw) (by omega))) ?_
                          refine Qt.va rfl (fun w' hw => X.move (by conv => lhs; whnf)) ?_
                          refine Qt.va rfl (fun w' hw => (by first | exact X.index1n rfl rfl Try.underlying47 sz_50 (by first | exact Option.some_ne_none _ | exact hv6.some_ (by omega)) (by omega) | exact X.index1 rfl rfl Try.underlying47 sz_50 (by first | exact Option.some_ne_none _ | exact hv6.some_ (by omega)) (by omega))) ?_
                          refine Qt.va rfl (fun w' hw => X.load rfl sc_50 (by first | exact Ld.blk (hk6.ext hw) rfl | exact Ld.num (hv6.ext hw) (by omega))) ?_
                          refine Qt.va rfl (fun w' hw => X.move (by conv => lhs; whnf)) ?_
                          -- callfn bushel/bushelref11.Sub
                          refine Qt.call rfl en_98 rfl (fun w' hw => calls_same hw (rsub_full _ _ _ _ hzj hlen.2.1 hF)) ?_
                          refine Qt.va rfl (fun w' hw => X.not rfl) ?_
                          refine Qt.va rfl (fun w' hw => X.move (by conv => lhs; whnf)) ?_
                          -- case t99
                          refine Qt.caseB (k := 99) rfl (fun g1 => ?_) (fun g1 => ?_)
                          · have g1' : ¬ zs.getD j 0 ≤ F := nd_t g1
                            rw [hmf (hno (by omega))]
                            refine Qt.no rfl ?_
                            refine Qt.no rfl ?_
                            refine Qt.no rfl ?_
                            refine Qt.no rfl ?_
                            refine Qt.no rfl ?_
                            refine Qt.no rfl ?_
                            refine Qt.no rfl ?_
                            refine Qt.va rfl (fun w' hw => X.pickT rfl (by conv => lhs; whnf)) ?_
                            refine Qt.va rfl (fun w' hw => X.move (by conv => lhs; whnf)) ?_
                            refine Qt.no rfl ?_
                            refine Qt.no rfl ?_
                            refine Qt.no rfl ?_
                            refine Qt.no rfl ?_
                            refine Qt.no rfl ?_
                            refine Qt.no rfl ?_
                            refine Qt.no rfl ?_
                            refine Qt.no rfl ?_
                            refine Qt.no rfl ?_
                            refine Qt.no rfl ?_
                            refine Qt.no rfl ?_
                            refine Qt.no rfl ?_
                            refine Qt.no rfl ?_
                            refine Qt.no rfl ?_
                            refine Qt.no rfl ?_
                            refine Qt.no rfl ?_
                            refine Qt.va rfl (fun w' hw => X.pickT rfl (by conv => lhs; whnf)) ?_
                            refine Qt.nil (fun w7 hq => ?_)
                            replace hk6 := hk6.ext hq
                            replace hv6 := hv6.ext hq
                            -- cond
                            refine J.iteT rfl ?_
                            refine J.seq ?_
                            refine J.region ?_
                            refine L.va rfl (X.assign (by conv => lhs; whnf)) ?_
                            refine L.nil ?_
                            -- ret
                            refine J.ret ?_
                            refine inB_ret <|  thn_ret <|  thn_ret <|  inB_ret <|  thn_ret <| ?_
                            refine fin1 ?_
                            exact ⟨rfl, he06.trans hq⟩
                          · have g1' : zs.getD j 0 ≤ F := nd_f g1
                            refine Qt.va rfl (fun w' hw => X.fieldAddr rfl Try.underlying49 rfl sz_47 (by decide)) ?_
                            refine Qt.va rfl (fun w' hw => X.load rfl sc_47 (by first | exact Ld.blk (hk6.ext hw) rfl | exact Ld.num (hv6.ext hw) (by omega))) ?_
                            refine Qt.va rfl (fun w' hw => X.move (by conv => lhs; whnf)) ?_
                            refine Qt.va rfl (fun w' hw => (by first | exact X.index1n rfl rfl Try.underlying47 sz_50 (by first | exact Option.some_ne_none _ | exact hv6.some_ (by omega)) (by omega) | exact X.index1 rfl rfl Try.underlying47 sz_50 (by first | exact Option.some_ne_none _ | exact hv6.some_ (by omega)) (by omega))) ?_
                            refine Qt.va rfl (fun w' hw => X.load rfl sc_50 (by first | exact Ld.blk (hk6.ext hw) rfl | exact Ld.num (hv6.ext hw) (by omega))) ?_
                            refine Qt.va rfl (fun w' hw => X.move (by conv => lhs; whnf)) ?_
                            refine Qt.va rfl (fun w' hw => X.eql rfl rfl) ?_
                            refine Qt.va rfl (fun w' hw => X.pickF rfl (by conv => lhs; whnf)) ?_
                            refine Qt.va rfl (fun w' hw => X.move (by conv => lhs; whnf)) ?_
                            -- case t108
                            refine Qt.caseDec (k := 108) rfl (fun g2 => ?_) (fun g2 => ?_)
                            · rw [hmf (hno (by omega))]
                              refine Qt.no rfl ?_
                              refine Qt.no rfl ?_
                              refine Qt.no rfl ?_
                              refine Qt.no rfl ?_
                              refine Qt.no rfl ?_
                              refine Qt.no rfl ?_
                              refine Qt.no rfl ?_
                              refine Qt.no rfl ?_
                              refine Qt.no rfl ?_
                              refine Qt.no rfl ?_
                              refine Qt.no rfl ?_
                              refine Qt.no rfl ?_
                              refine Qt.no rfl ?_
                              refine Qt.no rfl ?_
                              refine Qt.no rfl ?_
                              refine Qt.no rfl ?_
                              refine Qt.va rfl (fun w' hw => X.pickT rfl (by conv => lhs; whnf)) ?_
                              refine Qt.nil (fun w7 hq => ?_)
                              replace hk6 := hk6.ext hq
                              replace hv6 := hv6.ext hq
                              -- cond
                              refine J.iteT rfl ?_
                              refine J.seq ?_
                              refine J.region ?_
                              refine L.va rfl (X.assign (by conv => lhs; whnf)) ?_
                              refine L.nil ?_
                              -- ret
                              refine J.ret ?_
                              refine inB_ret <|  thn_ret <|  thn_ret <|  inB_ret <|  thn_ret <| ?_
                              refine fin1 ?_
                              exact ⟨rfl, he06.trans hq⟩
                            · refine Qt.va rfl (fun w' hw => X.move (by conv => lhs; whnf)) ?_
                              refine Qt.va rfl (fun w' hw => X.gtr rfl rfl) ?_
                              refine Qt.va rfl (fun w' hw => X.move (by conv => lhs; whnf)) ?_
                              -- case t111
                              refine Qt.caseDec (k := 111) rfl (fun g3 => ?_) (fun g3 => ?_)
                              · refine Qt.va rfl (fun w' hw => X.fieldAddr rfl Try.underlying49 rfl sz_47 (by decide)) ?_
                                refine Qt.va rfl (fun w' hw => X.load rfl sc_47 (by first | exact Ld.blk (hk6.ext hw) rfl | exact Ld.num (hv6.ext hw) (by omega))) ?_
                                refine Qt.va rfl (fun w' hw => X.move (by conv => lhs; whnf)) ?_
                                refine Qt.va rfl (fun w' hw => (by first | exact X.index1n rfl rfl Try.underlying47 sz_50 (by first | exact Option.some_ne_none _ | exact hv6.some_ (by omega)) (by omega) | exact X.index1 rfl rfl Try.underlying47 sz_50 (by first | exact Option.some_ne_none _ | exact hv6.some_ (by omega)) (by omega))) ?_
                                refine Qt.va rfl (fun w' hw => X.load rfl sc_50 (by first | exact Ld.blk (hk6.ext hw) rfl | exact Ld.num (hv6.ext hw) (by omega))) ?_
                                refine Qt.va rfl (fun w' hw => X.fieldAddr rfl Try.underlying49 rfl sz_47 (by decide)) ?_
                                refine Qt.va rfl (fun w' hw => X.load rfl sc_47 (by first | exact Ld.blk (hk6.ext hw) rfl | exact Ld.num (hv6.ext hw) (by omega))) ?_
                                refine Qt.va rfl (fun w' hw => X.move (by conv => lhs; whnf)) ?_
                                refine Qt.va rfl (fun w' hw => X.sub rfl rfl (by omega)) ?_
                                refine Qt.va rfl (fun w' hw => (by first | exact X.index1n rfl rfl Try.underlying47 sz_50 (by first | exact Option.some_ne_none _ | exact hv6.some_ (by omega)) (by omega) | exact X.index1 rfl rfl Try.underlying47 sz_50 (by first | exact Option.some_ne_none _ | exact hv6.some_ (by omega)) (by omega))) ?_
                                refine Qt.va rfl (fun w' hw => X.load rfl sc_50 (by first | exact Ld.blk (hk6.ext hw) rfl | exact Ld.num (hv6.ext hw) (by omega))) ?_
                                refine Qt.va rfl (fun w' hw => X.leq rfl rfl) ?_
                                refine Qt.va rfl (fun w' hw => X.pickT rfl (by conv => lhs; whnf)) ?_
                                refine Qt.va rfl (fun w' hw => X.pickF rfl (by conv => lhs; whnf)) ?_
                                refine Qt.nil (fun w7 hq => ?_)
                                replace hk6 := hk6.ext hq
                                replace hv6 := hv6.ext hq
                                -- cond
                                refine J.dec rfl (fun g4 => ?_) (fun g4 => ?_)
                                · rw [hmf (hno (by omega))]
                                  refine J.seq ?_
                                  refine J.region ?_
                                  refine L.va rfl (X.assign (by conv => lhs; whnf)) ?_
                                  refine L.nil ?_
                                  -- ret
                                  refine J.ret ?_
                                  refine inB_ret <|  thn_ret <|  thn_ret <|  inB_ret <|  thn_ret <| ?_
                                  refine fin1 ?_
                                  exact ⟨rfl, he06.trans hq⟩
                                · refine J.skip ?_
                                  refine J.region ?_
                                  refine L.va rfl (X.move (by conv => lhs; whnf)) ?_
                                  refine L.va rfl (X.add rfl rfl (by omega)) ?_
                                  refine L.va rfl (X.assign (by conv => lhs; whnf)) ?_
                                  refine L.nil ?_
                                  -- loopend
                                  refine ⟨j + 1, At1 (by first | rfl | exact at_int rfl (by omega) | exact at_slice rfl (by omega) | exact at_int rfl (by simp)), (by (iterate 46 refine Agr.lk rfl ?_); exact Agr.lk rfl (Agr.hav rfl Agr.rfl')), ?_⟩
                                  exact ⟨⟨he6.trans hq, by omega, viB_mk hV (by omega)⟩, by omega⟩
                              · refine Qt.no rfl ?_
                                refine Qt.no rfl ?_
                                refine Qt.no rfl ?_
                                refine Qt.no rfl ?_
                                refine Qt.no rfl ?_
                                refine Qt.no rfl ?_
                                refine Qt.no rfl ?_
                                refine Qt.no rfl ?_
                                refine Qt.no rfl ?_
                                refine Qt.no rfl ?_
                                refine Qt.no rfl ?_
                                refine Qt.no rfl ?_
                                refine Qt.va rfl (fun w' hw => X.pickF rfl (by conv => lhs; whnf)) ?_
                                refine Qt.va rfl (fun w' hw => X.pickF rfl (by conv => lhs; whnf)) ?_
                                refine Qt.nil (fun w7 hq => ?_)
                                replace hk6 := hk6.ext hq
                                replace hv6 := hv6.ext hq
                                -- cond
                                refine J.iteF rfl ?_
                                refine J.skip ?_
                                refine J.region ?_
                                refine L.va rfl (X.move (by conv => lhs; whnf)) ?_
                                refine L.va rfl (X.add rfl rfl (by omega)) ?_
                                refine L.va rfl (X.assign (by conv => lhs; whnf)) ?_
                                refine L.nil ?_
                                -- loopend
                                refine ⟨j + 1, At1 (by first | rfl | exact at_int rfl (by omega) | exact at_slice rfl (by omega) | exact at_int rfl (by simp)), (by (iterate 46 refine Agr.lk rfl ?_); exact Agr.lk rfl (Agr.hav rfl Agr.rfl')), ?_⟩
                                exact ⟨⟨he6.trans hq, by omega, viB_mk hV (by omega)⟩, by omega⟩
                        · obtain rfl : j = nv := by omega
                          rw [t0 hB h9 hS hV]
                          refine J.exit ?_
                          refine J.seq ?_
                          refine J.region ?_
                          refine L.va rfl (X.assign (by conv => lhs; whnf)) ?_
                          refine L.nil ?_
                          -- ret
                          refine J.ret ?_
                          refine fin1 ?_
                          exact ⟨rfl, he06⟩
end Go.Proofs.Ytlipeplfjkgamaa
