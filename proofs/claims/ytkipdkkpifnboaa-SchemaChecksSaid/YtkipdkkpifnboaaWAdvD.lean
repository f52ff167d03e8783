/-
  Package advise: Gain, Cost and Choose.
-/
import Derived.Test.YtkipdkkpifnboaaWAdvC
namespace Go.Proofs.Ytkipdkkpifnboaa
open Go.RowKit H
open Mk Ad
set_option linter.unusedVariables false
/-- Gain's answer -/
def gnE (n : Int) (ss : List Int) (vs : List Nat) : Int := if askE n ss ≠ 0 then askE n ss else if ∃ v ∈ vs, ss.length ≤ v then 11 else 0
def gnV (n : Int) (ss : List Int) (vs : List Nat) : Int := if gnE n ss vs = 0 then gn ss vs else 0
theorem gnE_ask {n : Int} {ss : List Int} {vs : List Nat} (h : gnE n ss vs = 0) : askE n ss = 0 ∧ ∀ v ∈ vs, v < ss.length := by
  unfold gnE at h
  split at h
  · rename_i h0; exact absurd h h0
  · rename_i h0
    split at h
    · cases h
    · rename_i h1
      refine ⟨Decidable.byContradiction h0, fun v hv => ?_⟩
      apply Nat.not_le.1
      intro hc
      exact h1 ⟨v, hv, hc⟩
theorem mem_at {vs : List Nat} {i : Nat} (h : i < vs.length) : vs.getD i 0 ∈ vs := by
  simp only [List.getD, List.getElem?_eq_getElem h, Option.getD_some]
  exact List.getElem_mem h
theorem take_next {vs : List Nat} {i : Nat} (h : i < vs.length) : vs.take (i + 1) = vs.take i ++ [vs.getD i 0] := by
  rw [List.take_add_one, List.getElem?_eq_getElem h]
  simp [List.getD, h]
theorem advgain_any (n : Int) (A : Option Addr) (q c : Nat) (B : Option Addr) (m cB : Nat) (ss : List Int) (vs : List Nat) (w : World) (hr : Reads w w.heap.size 1 A q (nums .i64 ss)) (hq : q ≤ 9223372036854775807)
    (hV : Reads w w.heap.size 1 B m (nums .u32 (zl vs))) (hm : m ≤ 9223372036854775807) (hvs : ∀ v ∈ vs, v < 4294967296) :
    Calls Try.prog 17 #[.int .i64 n, .slice A q c, .slice B m cB] w fun e w' => e = .returned (.tuple #[.int .i64 (gnV n ss vs), .int .i64 (gnE n ss vs)]) ∧ Ext w w' := by
  have hl : ss.length = q := by have := hr.1; simpa [nums] using this
  have hml : vs.length = m := by have := hV.1; simpa [nums, zl] using this
  refine enter Try.func17 rfl (by kernel_rfl) ?_
  refine J.seq ?_
  refine J.region ?_
  refine L.va rfl (X.assign (by conv => lhs; whnf)) ?_
  refine L.va rfl (X.assign (by conv => lhs; whnf)) ?_
  refine L.nil ?_
  refine J.seq ?_
  refine J.seq ?_
  refine J.region ?_
  refine L.va rfl (X.move (by conv => lhs; whnf)) ?_
  refine L.va rfl (X.move (by conv => lhs; whnf)) ?_
  -- callfn bushel/advise.ask
  refine L.call rfl en_64 rfl (advask_any n A q c ss _ hr hq) ?_
  rintro e _ ⟨rfl, rfl⟩
  refine ⟨_, rfl, ?_⟩
  refine L.va rfl (X.assign (by conv => lhs; whnf)) ?_
  refine L.nil ?_
  refine J.seq ?_
  refine J.region ?_
  refine L.va rfl (X.move (by conv => lhs; whnf)) ?_
  refine L.va rfl (X.neq rfl rfl) ?_
  refine L.nil ?_
  -- cond
  refine J.ndec rfl (fun h0 => ?_) (fun h0 => ?_)
  · have hE : gnE n ss vs = askE n ss := by rw [gnE, if_pos h0]
    have hW : gnV n ss vs = 0 := by rw [gnV, if_neg (by rw [hE]; exact h0)]
    rw [hE, hW]
    refine J.seq ?_
    refine J.region ?_
    refine L.va rfl (X.move (by conv => lhs; whnf)) ?_
    refine L.va rfl (X.assign (by conv => lhs; whnf)) ?_
    refine L.va rfl (X.assign (by conv => lhs; whnf)) ?_
    refine L.nil ?_
    -- ret
    refine J.ret ?_
    refine thn_ret <| ?_
    refine fin2 ?_
    exact ⟨rfl, Ext.refl _⟩
  · have h00 : askE n ss = 0 := by omega
    obtain ⟨n1, n6, _, hq2, hq64, hS⟩ := askE_zero h00
    rw [hl] at hq2 hq64
    have hn : 0 < ss.length := by omega
    refine J.skip ?_
    refine J.seq ?_
    refine J.region ?_
    refine L.va rfl (X.move (by conv => lhs; whnf)) ?_
    -- callfn bushel/advise.costs
    refine L.call rfl en_65 rfl (advcosts_any A q c ss _ hr hq64 (by omega)) ?_
    rintro e w1 ⟨A1, c1, rfl, ho, he⟩
    refine ⟨_, rfl, ?_⟩
    have he : Ext w w1 := he
    have hz1 := he.le
    refine L.va rfl (X.assign (by conv => lhs; whnf)) ?_
    refine L.nil ?_
    refine J.seq ?_
    refine J.region ?_
    refine L.va rfl (X.assign (by conv => lhs; whnf)) ?_
    refine L.nil ?_
    -- until
    refine J.seq ?_
    refine J.seq ?_
    refine J.region ?_
    refine L.va rfl (X.move (by conv => lhs; whnf)) ?_
    refine L.va rfl (X.len rfl Try.underlying23) ?_
    refine L.va rfl (X.move (by conv => lhs; whnf)) ?_
    refine L.nil ?_
    refine J.block ?_
    -- loop
    refine J.loop (X := Nat × Int) [6, 7, 10, 12, 23, 24, 25, 26, 27, 28, 29, 30, 31, 32, 33, 34, 35, 36, 37, 38] (fun x => [(23, .int .i64 (x.1 : Int)), (10, .int .i64 x.2)]) (fun x w' => x.1 ≤ m ∧ x.2 = gn ss (vs.take x.1) ∧ (∀ v ∈ vs.take x.1, v < q) ∧ w'.ownsRow w.heap.size 2 1 (.slice A1 q c1) q (nums .i64 (outs ss (vs.take x.1))) ∧ Ext w w') (fun x => m - x.1) ((0, 0)) (At2 (by first | rfl | exact at_int rfl (by omega) | exact at_slice rfl (by omega) | exact at_int rfl (by simp)) (by first | rfl | exact at_int rfl (by omega) | exact at_slice rfl (by omega) | exact at_int rfl (by simp))) ?_ ?_
    · exact ⟨by dsimp only; omega, (gn_nil ss).symm, fun v hv => absurd hv (by simp), ho, he⟩
    · rintro ⟨i, z⟩ g w2 ⟨hi, hzz, hb, ho2, he2⟩
      dsimp only at hi hzz hb ho2
      have hz' : ((i, z) : Nat × Int).2 = z := rfl
      have hV2 := hV.ext he2
      have hz2 := he2.le
      refine J.seq ?_
      refine J.region ?_
      refine L.va rfl (X.lss rfl rfl) ?_
      refine L.nil ?_
      refine J.seq ?_
      -- cond
      refine J.dec rfl (fun hlt => ?_) (fun hlt => ?_)
      · have hz := zl_getD vs i
        have ht := take_next (vs := vs) (i := i) (by omega)
        have hmem := mem_at (vs := vs) (i := i) (by omega)
        obtain ⟨v, hv⟩ : ∃ v, vs.getD i 0 = v := ⟨_, rfl⟩
        rw [hv] at hz ht hmem
        have hvb : v < 4294967296 := hvs v hmem
        refine J.skip ?_
        refine J.seq ?_
        refine J.block ?_
        refine J.seq ?_
        refine J.region ?_
        refine L.va rfl ((by first | exact X.index1n rfl rfl Try.underlying23 sz_29 (by first | exact Option.some_ne_none _ | exact hV2.some_ (by omega)) (by omega) | exact X.index1 rfl rfl Try.underlying23 sz_29 (by first | exact Option.some_ne_none _ | exact hV2.some_ (by omega)) (by omega))) ?_
        refine L.va rfl (X.load rfl sc_29 (by first | exact Ld.num hV2 (by omega))) ?_
        refine L.va rfl (X.assign (by conv => lhs; whnf)) ?_
        refine L.nil ?_
        -- until
        rw [hz]
        refine J.seq ?_
        refine J.seq ?_
        refine J.region ?_
        refine L.va rfl (X.move (by conv => lhs; whnf)) ?_
        refine L.va rfl ((by first | exact X.convI rfl is_29 Try.underlying2 (by omega) | exact X.convw rfl is_29 Try.underlying2)) ?_
        refine L.va rfl (X.move (by conv => lhs; whnf)) ?_
        refine L.va rfl (X.len rfl Try.underlying22) ?_
        refine L.va rfl (X.geq rfl rfl) ?_
        refine L.nil ?_
        -- cond
        refine J.dec rfl (fun hbad => ?_) (fun hbad => ?_)
        · have hE : gnE n ss vs = 11 := by rw [gnE, if_neg (by omega), if_pos ⟨v, hmem, by omega⟩]
          have hW : gnV n ss vs = 0 := by rw [gnV, if_neg (by rw [hE]; decide)]
          rw [hE, hW]
          refine J.seq ?_
          refine J.region ?_
          refine L.va rfl (X.assign (by conv => lhs; whnf)) ?_
          refine L.va rfl (X.assign (by conv => lhs; whnf)) ?_
          refine L.nil ?_
          -- ret
          refine J.ret ?_
          refine thn_ret <|  inB_ret <|  thn_ret <|  thn_ret <|  inB_ret <|  thn_ret <| ?_
          refine fin2 ?_
          exact ⟨rfl, he2⟩
        · have hvq : v < q := by omega
          have hly := (ly_outs hS hn (vs.take i) (by rw [hl]; exact hb) v (by omega)).1
          have hle := (ly_outs hS hn (vs.take i) (by rw [hl]; exact hb) v (by omega)).2
          have s0 := (outs_ok hS hn [] (by simp)).sum
          have s1 := (outs_ok hS hn (vs.take i) (by rw [hl]; exact hb)).sum
          have hbn : ∀ u ∈ vs.take (i + 1), u < q := by
            intro u hu
            rw [ht] at hu
            rcases List.mem_append.1 hu with h | h
            · exact hb u h
            · obtain rfl : u = v := by simpa using h
              exact hvq
          have s2 := (outs_ok hS hn (vs.take (i + 1)) (by rw [hl]; exact hbn)).sum
          rw [outs_length, hl] at s0 s1 s2
          rw [← ht] at hly hle
          have egn : z + (costL ss (vs.take i) - costL ss (vs.take (i + 1))) = gn ss (vs.take (i + 1)) := by rw [hzz]; unfold gn; omega
          have ebd : 0 ≤ gn ss (vs.take (i + 1)) ∧ gn ss (vs.take (i + 1)) ≤ 9223372036854775807 := by
            have h1 := cost_more ss (vs.take (i + 1)) []
            rw [List.append_nil] at h1
            unfold gn
            unfold costL at *
            omega
          rw [← egn] at ebd
          refine J.skip ?_
          refine J.region ?_
          refine L.va rfl (X.move (by conv => lhs; whnf)) ?_
          refine L.va rfl (X.move (by conv => lhs; whnf)) ?_
          refine L.va rfl (X.move (by conv => lhs; whnf)) ?_
          refine L.va rfl (X.move (by conv => lhs; whnf)) ?_
          -- callfn bushel/advise.lay
          refine L.call rfl en_66 rfl (advlay_any w.heap.size A1 q c1 A c (outs ss (vs.take i)) ss v _ ho2 (by omega) (hr.ext he2) hq64 hvq (outs_ok hS hn _ (by rw [hl]; exact hb)) hS) ?_
          rintro e w3 ⟨rfl, ho3, hg3, hb3⟩
          refine ⟨_, rfl, ?_⟩
          rw [hly] at ho3
          rw [hly]
          refine L.va rfl (X.add rfl rfl (by omega)) ?_
          refine L.va rfl (X.assign (by conv => lhs; whnf)) ?_
          refine L.nil ?_
          refine J.region ?_
          refine L.va rfl (X.add rfl rfl (by omega)) ?_
          refine L.va rfl (X.move (by conv => lhs; whnf)) ?_
          refine L.nil ?_
          -- loopend
          refine ⟨(i + 1, gn ss (vs.take (i + 1))), At2 (rfl) (at_int rfl egn), (by (iterate 18 refine Agr.lk rfl ?_); exact Agr.lk rfl (Agr.hav rfl Agr.rfl')), ?_⟩
          exact ⟨⟨by dsimp only; omega, rfl, hbn, ho3, Below.trans he2 hb3⟩, by dsimp only; omega⟩
      · obtain rfl : i = m := by omega
        rw [List.take_of_length_le (by omega)] at hb
        have hE : gnE n ss vs = 0 := by
          rw [gnE, if_neg (by omega), if_neg]
          rintro ⟨v, hv, hc⟩
          have := hb v hv
          omega
        have hW : gnV n ss vs = gn ss vs := by rw [gnV, if_pos hE]
        rw [List.take_of_length_le (by omega)] at hzz
        rw [hE, hW, ← hzz]
        refine J.exit ?_
        refine J.seq ?_
        refine J.region ?_
        refine L.va rfl (X.move (by conv => lhs; whnf)) ?_
        refine L.va rfl (X.assign (by conv => lhs; whnf)) ?_
        refine L.va rfl (X.assign (by conv => lhs; whnf)) ?_
        refine L.nil ?_
        -- ret
        refine J.ret ?_
        refine fin2 ?_
        exact ⟨rfl, he2⟩
end Go.Proofs.Ytkipdkkpifnboaa
