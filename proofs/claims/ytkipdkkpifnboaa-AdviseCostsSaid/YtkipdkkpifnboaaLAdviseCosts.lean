/-
  The law AdviseCosts, walked.
-/
import Derived.Test.YtkipdkkpifnboaaWAdvT
namespace Go.Proofs.Ytkipdkkpifnboaa
open Go.RowKit H
open Mk Ad
set_option linter.unusedVariables false
theorem law_AdviseCosts (w : World) (x0 : Nm .i64) (A1 : Option Addr) (n1 c1 : Nat) (xs1 : List (Nm .i64)) (hn1 : n1 ≤ c1) (hc1 : c1 ≤ maxLen) (hA1 : A1 = none → c1 = 0) (hl1 : LiesSlice w w.heap.size A1 n1 xs1) (A2 : Option Addr) (n2 c2 : Nat) (xs2 : List (Nm .u32)) (hn2 : n2 ≤ c2) (hc2 : c2 ≤ maxLen) (hA2 : A2 = none → c2 = 0) (hl2 : LiesSlice w w.heap.size A2 n2 xs2) :
    Calls Try.prog 3 #[.int .i64 x0.z, .slice A1 n1 c1, .slice A2 n2 c2] w fun e w' => e = .returned (.bool true) ∧ Below w.heap.size w w' := by
  unfold maxLen at hc1 hc2
  have hr := hl1.reads
  have hV := hl2.reads
  generalize x0.z = n
  generalize zsOf xs1 = ss at hr
  obtain ⟨vs, hvz, hvs⟩ := u32_list xs2
  rw [hvz] at hV
  have hq : n1 ≤ 9223372036854775807 := by omega
  have hm : n2 ≤ 9223372036854775807 := by omega
  have hl : ss.length = n1 := by have := hr.1; simpa [nums] using this
  have hml : vs.length = n2 := by have := hV.1; simpa [nums, zl] using this
  have ho : Ext w w := Ext.refl w
  refine enter Try.func3 rfl (by kernel_rfl) ?_
  refine J.seq ?_
  refine J.region ?_
  refine L.va rfl (X.assign (by conv => lhs; whnf)) ?_
  refine L.nil ?_
  refine J.seq ?_
  refine J.seq ?_
  refine J.region ?_
  refine L.va rfl (X.move (by conv => lhs; whnf)) ?_
  refine L.va rfl (X.len rfl Try.underlying22) ?_
  refine L.va rfl (X.gtr rfl rfl) ?_
  refine L.va rfl (X.move (by conv => lhs; whnf)) ?_
  -- case t16
  refine L.caseDec (k := 16) rfl (fun h1 => ?_) (fun h1 => ?_)
  · refine L.no rfl ?_
    refine L.no rfl ?_
    refine L.no rfl ?_
    refine L.va rfl (X.pickT rfl (by conv => lhs; whnf)) ?_
    refine L.nil ?_
    -- cond
    refine J.iteT rfl ?_
    refine J.seq ?_
    refine J.region ?_
    -- callfn bushel/bushellaw18.awake
    refine L.call rfl en_15 rfl (awake18 _) ?_
    rintro e w1 ⟨rfl, he⟩
    refine ⟨_, rfl, ?_⟩
    refine L.va rfl (X.assign (by conv => lhs; whnf)) ?_
    refine L.nil ?_
    -- ret
    refine J.ret ?_
    refine thn_ret <| ?_
    refine fin1 ?_
    exact ⟨rfl, he⟩
  · refine L.va rfl (X.move (by conv => lhs; whnf)) ?_
    refine L.va rfl (X.len rfl Try.underlying23) ?_
    refine L.va rfl (X.gtr rfl rfl) ?_
    refine L.va rfl (X.pickF rfl (by conv => lhs; whnf)) ?_
    refine L.nil ?_
    -- cond
    refine J.dec rfl (fun h2 => ?_) (fun h2 => ?_)
    · refine J.seq ?_
      refine J.region ?_
      -- callfn bushel/bushellaw18.awake
      refine L.call rfl en_15 rfl (awake18 _) ?_
      rintro e w1 ⟨rfl, he⟩
      refine ⟨_, rfl, ?_⟩
      refine L.va rfl (X.assign (by conv => lhs; whnf)) ?_
      refine L.nil ?_
      -- ret
      refine J.ret ?_
      refine thn_ret <| ?_
      refine fin1 ?_
      exact ⟨rfl, he⟩
    · refine J.skip ?_
      refine J.seq ?_
      refine J.region ?_
      refine L.va rfl (X.move (by conv => lhs; whnf)) ?_
      refine L.va rfl (X.move (by conv => lhs; whnf)) ?_
      refine L.va rfl (X.move (by conv => lhs; whnf)) ?_
      -- callfn bushel/advise.Cost
      refine L.call rfl en_16 rfl (advcost_any n A1 n1 c1 A2 n2 c2 ss vs _ hr hq hV hm hvs) ?_
      rintro e w1 ⟨rfl, he1⟩
      refine ⟨_, rfl, ?_⟩
      replace ho : Ext w w1 := he1
      refine L.va rfl (X.move (by conv => lhs; whnf)) ?_
      refine L.va rfl (X.extract rfl rfl) ?_
      refine L.va rfl (X.extract rfl rfl) ?_
      refine L.va rfl (X.assign (by conv => lhs; whnf)) ?_
      refine L.va rfl (X.assign (by conv => lhs; whnf)) ?_
      refine L.nil ?_
      refine J.seq ?_
      refine J.region ?_
      refine L.va rfl (X.move (by conv => lhs; whnf)) ?_
      refine L.va rfl (X.move (by conv => lhs; whnf)) ?_
      refine L.va rfl (X.move (by conv => lhs; whnf)) ?_
      -- callfn bushel/advise.Gain
      refine L.call rfl en_17 rfl (advgain_any n A1 n1 c1 A2 n2 c2 ss vs _ ((hr.ext ho).here (by decide)) hq ((hV.ext ho).here (by decide)) hm hvs) ?_
      rintro e w2 ⟨rfl, he2⟩
      refine ⟨_, rfl, ?_⟩
      have he2 : Ext w1 w2 := he2
      replace ho := ho.ext he2
      refine L.va rfl (X.move (by conv => lhs; whnf)) ?_
      refine L.va rfl (X.extract rfl rfl) ?_
      refine L.va rfl (X.extract rfl rfl) ?_
      refine L.va rfl (X.assign (by conv => lhs; whnf)) ?_
      refine L.va rfl (X.assign (by conv => lhs; whnf)) ?_
      refine L.nil ?_
      refine J.seq ?_
      refine J.region ?_
      refine L.va rfl (X.move (by conv => lhs; whnf)) ?_
      refine L.va rfl (X.move (by conv => lhs; whnf)) ?_
      -- callfn bushel/bushelref18.Wrong
      refine L.call rfl en_18 rfl (rwrong_any n A1 n1 c1 ss _ ((hr.ext ho).here (by decide)) hq) ?_
      rintro e _ ⟨rfl, rfl⟩
      refine ⟨_, rfl, ?_⟩
      have hV2 := hV.ext ho
      have hE0 : gnE n ss [] = askE n ss := by
        unfold gnE
        by_cases h : askE n ss = 0
        · rw [if_neg (by omega), if_neg (by simp)]; exact h.symm
        · rw [if_pos h]
      have hcs := askE_cases n ss
      have hEb : ∀ l : List Nat, gnE n ss l = 0 ∨ gnE n ss l = 2 ∨ gnE n ss l = 3 ∨ gnE n ss l = 11 := by
        intro l
        unfold gnE
        split
        · omega
        · split <;> simp
      refine L.va rfl (X.assign (by conv => lhs; whnf)) ?_
      refine L.nil ?_
      -- until
      refine J.cut (X := Unit) [11, 12, 39, 40, 41, 42, 43, 44, 45, 46, 47, 48, 49, 50, 51, 52, 53, 54, 55, 56] (fun _ => [(11, .int .i64 (gnE n ss vs))]) (fun _ w' => w' = w2) ?_ ?_
      · skip
        refine J.seq ?_
        refine J.region ?_
        refine L.va rfl (X.assign (by conv => lhs; whnf)) ?_
        refine L.nil ?_
        refine J.block ?_
        -- loop
        refine J.loop (X := Nat × Int) [11, 12, 39, 40, 41, 42, 43, 44, 45, 46, 47, 48, 49, 50, 51, 52, 53, 54, 55, 56] (fun x => [(12, .int .i64 (x.1 : Int)), (11, .int .i64 x.2)]) (fun x w' => w' = w2 ∧ x.1 ≤ n2 ∧ x.2 = gnE n ss (vs.take x.1)) (fun x => n2 - x.1) ((0, askE n ss)) (At2 (by first | rfl | exact at_int rfl (by omega) | exact at_slice rfl (by omega) | exact at_int rfl (by simp)) (by first | rfl | exact at_int rfl (by omega) | exact at_slice rfl (by omega) | exact at_int rfl (by simp))) ?_ ?_
        · exact ⟨rfl, by dsimp only; omega, hE0.symm⟩
        · rintro ⟨i, z⟩ g w3 ⟨rfl, hi, hz⟩
          dsimp only at hi hz
          refine J.seq ?_
          refine J.seq ?_
          refine J.region ?_
          refine L.va rfl (X.move (by conv => lhs; whnf)) ?_
          refine L.va rfl (X.eql rfl rfl) ?_
          refine L.va rfl (X.move (by conv => lhs; whnf)) ?_
          -- case t41
          refine L.caseDec (k := 41) rfl (fun hz0 => ?_) (fun hz0 => ?_)
          · have hz0' : z = 0 := hz0
            rw [hz0'] at hz
            refine L.va rfl (X.move (by conv => lhs; whnf)) ?_
            refine L.va rfl (X.move (by conv => lhs; whnf)) ?_
            refine L.va rfl (X.len rfl Try.underlying23) ?_
            refine L.va rfl (X.lss rfl rfl) ?_
            refine L.va rfl (X.pickT rfl (by conv => lhs; whnf)) ?_
            refine L.nil ?_
            -- cond
            refine J.dec rfl (fun hlt => ?_) (fun hlt => ?_)
            · have hzv := zl_getD vs i
              have ht := take_next (vs := vs) (i := i) (by omega)
              have hmem := mem_at (vs := vs) (i := i) (by omega)
              obtain ⟨v, hv⟩ : ∃ v, vs.getD i 0 = v := ⟨_, rfl⟩
              rw [hv] at hzv ht hmem
              have hvb := hvs v hmem
              have hnx := gnE_next (v := v) hz.symm
              rw [← ht] at hnx
              have hzv' : (zl vs).getD ((i, z) : Nat × Int).1 0 = (v : Int) := hzv
              refine J.skip ?_
              refine J.seq ?_
              refine J.block ?_
              refine J.seq ?_
              refine J.region ?_
              refine L.va rfl (X.move (by conv => lhs; whnf)) ?_
              refine L.va rfl (X.move (by conv => lhs; whnf)) ?_
              refine L.va rfl ((by first | exact X.index1n rfl rfl Try.underlying23 sz_29 (by first | exact Option.some_ne_none _ | exact hV2.some_ (by omega)) (by omega) | exact X.index1 rfl rfl Try.underlying23 sz_29 (by first | exact Option.some_ne_none _ | exact hV2.some_ (by omega)) (by omega))) ?_
              refine L.va rfl (X.load rfl sc_29 (by first | exact Ld.num hV2 (by omega))) ?_
              refine L.va rfl ((by first | exact X.convI rfl is_29 Try.underlying2 (by omega) | exact X.convw rfl is_29 Try.underlying2)) ?_
              refine L.va rfl (X.move (by conv => lhs; whnf)) ?_
              refine L.va rfl (X.len rfl Try.underlying22) ?_
              refine L.va rfl (X.geq rfl rfl) ?_
              refine L.nil ?_
              -- cond
              refine J.dec rfl (fun hbad => ?_) (fun hbad => ?_)
              · have hbad' : (n1 : Int) ≤ (zl vs).getD i 0 := hbad
                rw [if_pos (by omega)] at hnx
                refine J.region ?_
                refine L.va rfl (X.assign (by conv => lhs; whnf)) ?_
                refine L.nil ?_
                refine J.region ?_
                refine L.va rfl (X.move (by conv => lhs; whnf)) ?_
                refine L.va rfl (X.add rfl rfl (by omega)) ?_
                refine L.va rfl (X.assign (by conv => lhs; whnf)) ?_
                refine L.nil ?_
                -- loopend
                refine ⟨(i + 1, 11), At2 (by first | rfl | exact at_int rfl (by omega) | exact at_slice rfl (by omega) | exact at_int rfl (by simp)) (by first | rfl | exact at_int rfl (by omega) | exact at_slice rfl (by omega) | exact at_int rfl (by simp)), (by (iterate 21 refine Agr.lk rfl ?_); exact Agr.lk rfl (Agr.hav rfl Agr.rfl')), ?_⟩
                exact ⟨⟨rfl, by dsimp only; omega, by dsimp only; exact hnx.symm⟩, by dsimp only; omega⟩
              · have hbad' : ¬ (n1 : Int) ≤ (zl vs).getD i 0 := hbad
                rw [if_neg (by omega)] at hnx
                refine J.skip ?_
                refine J.region ?_
                refine L.va rfl (X.move (by conv => lhs; whnf)) ?_
                refine L.va rfl (X.add rfl rfl (by omega)) ?_
                refine L.va rfl (X.assign (by conv => lhs; whnf)) ?_
                refine L.nil ?_
                -- loopend
                refine ⟨(i + 1, z), At2 (by first | rfl | exact at_int rfl (by omega) | exact at_slice rfl (by omega) | exact at_int rfl (by simp)) (by first | rfl | exact at_int rfl (by omega) | exact at_slice rfl (by omega) | exact at_int rfl (by simp)), (by (iterate 20 refine Agr.lk rfl ?_); exact Agr.lk rfl (Agr.hav rfl Agr.rfl')), ?_⟩
                exact ⟨⟨rfl, by dsimp only; omega, by dsimp only; rw [hz0']; exact hnx.symm⟩, by dsimp only; omega⟩
            · obtain rfl : i = n2 := by omega
              rw [List.take_of_length_le (by omega)] at hz
              have e : z = gnE n ss vs := by omega
              refine J.exit ?_
              -- cutend
              refine ⟨(), At1 (at_int rfl e), (by (iterate 9 refine Agr.lk rfl ?_); refine Agr.lk rfl ?_; refine Agr.hav rfl ?_; (iterate 1 refine Agr.lk rfl ?_); exact Agr.rfl'), ?_⟩
              exact rfl
          · have hz0' : z ≠ 0 := hz0
            have e : z = gnE n ss vs := by
              have := gnE_stick (l' := vs.drop i) (by rw [← hz]; exact hz0')
              rw [List.take_append_drop] at this
              rw [hz, this]
            refine L.no rfl ?_
            refine L.no rfl ?_
            refine L.no rfl ?_
            refine L.no rfl ?_
            refine L.va rfl (X.pickF rfl (by conv => lhs; whnf)) ?_
            refine L.nil ?_
            -- cond
            refine J.iteF rfl ?_
            refine J.exit ?_
            -- cutend
            refine ⟨(), At1 (at_int rfl e), (by (iterate 9 refine Agr.lk rfl ?_); refine Agr.lk rfl ?_; refine Agr.hav rfl ?_; (iterate 1 refine Agr.lk rfl ?_); exact Agr.rfl'), ?_⟩
            exact rfl
      · rintro _ g w3 rfl
        refine J.seq ?_
        refine J.seq ?_
        refine J.region ?_
        refine L.va rfl (X.move (by conv => lhs; whnf)) ?_
        refine L.va rfl (X.neq rfl rfl) ?_
        refine L.nil ?_
        -- cond
        refine J.ndec rfl (fun hne => ?_) (fun hne => ?_)
        · have eC : coV n ss vs = 0 := by rw [coV, if_neg hne]
          have eG : gnV n ss vs = 0 := by rw [gnV, if_neg hne]
          rw [eC, eG]
          refine J.seq ?_
          refine J.region ?_
          refine L.va rfl (X.move (by conv => lhs; whnf)) ?_
          refine L.va rfl (X.eql rfl rfl) ?_
          refine L.va rfl (X.move (by conv => lhs; whnf)) ?_
          -- case t61
          refine L.caseDecT (k := 61) rfl (by rfl) ?_
          refine L.va rfl (X.move (by conv => lhs; whnf)) ?_
          refine L.va rfl (X.eql rfl rfl) ?_
          refine L.va rfl (X.pickT rfl (by conv => lhs; whnf)) ?_
          refine L.va rfl (X.move (by conv => lhs; whnf)) ?_
          -- case t65
          refine L.caseDecT (k := 65) rfl (by rfl) ?_
          refine L.va rfl (X.move (by conv => lhs; whnf)) ?_
          refine L.va rfl (X.move (by conv => lhs; whnf)) ?_
          refine L.va rfl (X.eql rfl rfl) ?_
          refine L.va rfl (X.pickT rfl (by conv => lhs; whnf)) ?_
          refine L.va rfl (X.move (by conv => lhs; whnf)) ?_
          -- case t70
          refine L.caseDecT (k := 70) rfl (by rfl) ?_
          refine L.va rfl (X.move (by conv => lhs; whnf)) ?_
          refine L.va rfl (X.move (by conv => lhs; whnf)) ?_
          refine L.va rfl (X.eql rfl rfl) ?_
          refine L.va rfl (X.pickT rfl (by conv => lhs; whnf)) ?_
          refine L.va rfl (X.move (by conv => lhs; whnf)) ?_
          -- case t75
          refine L.caseDecT (k := 75) rfl (by rfl) ?_
          -- callfn bushel/bushellaw18.awake
          refine L.call rfl en_15 rfl (awake18 _) ?_
          rintro e w4 ⟨rfl, he4⟩
          refine ⟨_, rfl, ?_⟩
          refine L.va rfl (X.pickT rfl (by conv => lhs; whnf)) ?_
          refine L.va rfl (X.assign (by conv => lhs; whnf)) ?_
          refine L.nil ?_
          -- ret
          refine J.ret ?_
          refine thn_ret <| ?_
          refine fin1 ?_
          exact ⟨rfl, ho.trans he4⟩
        · have hE : gnE n ss vs = 0 := by omega
          obtain ⟨hask, hvl⟩ := gnE_ask hE
          obtain ⟨n1', n6, _, hq2, hq64, hS⟩ := askE_zero hask
          rw [hl] at hq2 hq64 hvl
          have hG : gnV n ss vs = gn ss vs := by rw [gnV, if_pos hE]
          have hW : coV n ss vs = costL ss vs := by rw [coV, if_pos hE]
          have s0 := (outs_ok hS (by omega) [] (by simp)).sum
          have s1 := (outs_ok hS (by omega) vs (by rw [hl]; exact hvl)).sum
          rw [outs_length, hl] at s0 s1
          have b0 : 0 ≤ costL ss [] ∧ costL ss [] ≤ (n1 : Int) * 1099511627776 := s0
          have b1 : 0 ≤ costL ss vs ∧ costL ss vs ≤ (n1 : Int) * 1099511627776 := s1
          have egn : gn ss vs = costL ss [] - costL ss vs := rfl
          rw [hE, hG, hW, egn]
          refine J.skip ?_
          refine J.seq ?_
          refine J.region ?_
          refine L.va rfl (X.move (by conv => lhs; whnf)) ?_
          refine L.va rfl (X.eql rfl rfl) ?_
          refine L.va rfl (X.move (by conv => lhs; whnf)) ?_
          -- case t80
          refine L.caseDecT (k := 80) rfl (by rfl) ?_
          refine L.va rfl (X.move (by conv => lhs; whnf)) ?_
          refine L.va rfl (X.eql rfl rfl) ?_
          refine L.va rfl (X.pickT rfl (by conv => lhs; whnf)) ?_
          refine L.va rfl (X.move (by conv => lhs; whnf)) ?_
          -- case t84
          refine L.caseDecT (k := 84) rfl (by rfl) ?_
          refine L.va rfl (X.move (by conv => lhs; whnf)) ?_
          refine L.va rfl (X.move (by conv => lhs; whnf)) ?_
          refine L.va rfl (X.move (by conv => lhs; whnf)) ?_
          -- callfn bushel/bushelref18.Cost
          refine L.call rfl en_19 rfl (rcost_any A1 n1 c1 A2 n2 c2 ss vs _ ((hr.ext ho).here (by decide)) (by omega) (by omega) hS ((hV.ext ho).here (by decide)) hm hvl) ?_
          rintro e _ ⟨rfl, rfl⟩
          refine ⟨_, rfl, ?_⟩
          refine L.va rfl (X.eql rfl rfl) ?_
          refine L.va rfl (X.pickT rfl (by conv => lhs; whnf)) ?_
          refine L.va rfl (X.move (by conv => lhs; whnf)) ?_
          -- case t91
          refine L.caseDecT (k := 91) rfl (by rfl) ?_
          refine L.va rfl (X.move (by conv => lhs; whnf)) ?_
          refine L.va rfl (X.move (by conv => lhs; whnf)) ?_
          -- callfn bushel/bushelref18.Cost
          refine L.call rfl en_19 rfl (rcost_any A1 n1 c1 none 0 0 ss [] _ ((hr.ext ho).here (by decide)) (by omega) (by omega) hS Reads.none_ (by decide) (by simp)) ?_
          rintro e _ ⟨rfl, rfl⟩
          refine ⟨_, rfl, ?_⟩
          refine L.va rfl (X.move (by conv => lhs; whnf)) ?_
          refine L.va rfl (X.sub rfl rfl (by omega)) ?_
          refine L.va rfl (X.eql rfl rfl) ?_
          refine L.va rfl (X.pickT rfl (by conv => lhs; whnf)) ?_
          refine L.va rfl (X.move (by conv => lhs; whnf)) ?_
          -- case t99
          refine L.caseDecT (k := 99) rfl (by rfl) ?_
          -- callfn bushel/bushellaw18.awake
          refine L.call rfl en_15 rfl (awake18 _) ?_
          rintro e w4 ⟨rfl, he4⟩
          refine ⟨_, rfl, ?_⟩
          refine L.va rfl (X.pickT rfl (by conv => lhs; whnf)) ?_
          refine L.va rfl (X.assign (by conv => lhs; whnf)) ?_
          refine L.nil ?_
          -- ret
          refine J.ret ?_
          refine fin1 ?_
          exact ⟨rfl, ho.trans he4⟩
end Go.Proofs.Ytkipdkkpifnboaa
