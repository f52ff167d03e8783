/-
  The law TourneyLeast, walked.
-/
import Derived.Test.YtmnlaekcojblkaaWTouC
namespace Go.Proofs.Ytmnlaekcojblkaa
set_option maxRecDepth 100000
open Go.RowKit H
open Odr Tou HeapK
set_option linter.unusedVariables false
/-- keys that are handed in -/
theorem keys_of {w : World} {B n c : Nat} {A : Option Addr} {xs : List (List (Nm .u8))} (h : LiesSlice w B A n xs) (hm : n ≤ maxLen) : ∃ l : List By, (Bys.mk A n c l).At B w := by
  obtain ⟨l, h1, h2, h3⟩ := h.rows (X := By) (f := By.vs) (g := fun r => r.At B w) (fun _ => rfl) (fun us a hl => by
    obtain ⟨A', n', c', rfl, hn', hc', _, hl'⟩ := hl
    exact ⟨⟨A', n', c', zsOf a⟩, rfl, hl'.reads, Nat.le_trans hn' hc'⟩)
  exact ⟨l, h2, h3, h1, hm⟩
theorem le_maxL {n : Nat} (h : n ≤ 100) : n ≤ maxLen := by unfold maxLen; omega
def ks16 : List (List Int) := [[98], [97], [98], [97, 97]]
theorem first16 : Firsts (ahL ks16) 4 2 [1, 3] := by
  refine ⟨rfl, ?_⟩
  decide
theorem awake16 (w : World) : Calls Try.prog 27 #[] w fun e w' => e = .returned (.bool true) ∧ Ext w w' := by
  refine enter Try.func27 rfl (by kernel_rfl) ?_
  refine J.seq ?_
  refine J.region ?_
  refine L.va rfl (X.assign (by conv => lhs; whnf)) ?_
  refine L.nil ?_
  refine J.seq ?_
  refine J.region ?_
  -- buildSlice
  refine L.bslice (vs := [_]) rfl (Evs.cons (by conv => lhs; whnf) Evs.nil) rfl rfl rfl rfl Try.underlying33 sz_5 zr_5 (by decide) ?_
  intro b1 w1 hb1 hs1 hk1 he1
  -- mark
  refine L.mark rfl rfl (hk1) rfl Try.underlying33 Try.underlying5 ?_
  intro v1 hr1 hg1
  have hx1 : Ext w v1 := he1.grw hg1 (by intro g hg; injection hg with hg; omega)
  have hz1 : b1 + 1 ≤ v1.heap.size := by have := hg1.size; omega
  -- buildSlice
  refine L.bslice (vs := [_]) rfl (Evs.cons (by conv => lhs; whnf) Evs.nil) rfl rfl rfl rfl Try.underlying33 sz_5 zr_5 (by decide) ?_
  intro b2 w2 hb2 hs2 hk2 he2
  -- mark
  refine L.mark rfl rfl (hk2) rfl Try.underlying33 Try.underlying5 ?_
  intro v2 hr2 hg2
  have hx2 : Ext v1 v2 := he2.grw hg2 (by intro g hg; injection hg with hg; omega)
  have hz2 : b2 + 1 ≤ v2.heap.size := by have := hg2.size; omega
  -- buildSlice
  refine L.bslice (vs := [_]) rfl (Evs.cons (by conv => lhs; whnf) Evs.nil) rfl rfl rfl rfl Try.underlying33 sz_5 zr_5 (by decide) ?_
  intro b3 w3 hb3 hs3 hk3 he3
  -- mark
  refine L.mark rfl rfl (hk3) rfl Try.underlying33 Try.underlying5 ?_
  intro v3 hr3 hg3
  have hx3 : Ext v2 v3 := he3.grw hg3 (by intro g hg; injection hg with hg; omega)
  have hz3 : b3 + 1 ≤ v3.heap.size := by have := hg3.size; omega
  -- buildSlice
  refine L.bslice (vs := [_, _]) rfl (Evs.cons (by conv => lhs; whnf) (Evs.cons (by conv => lhs; whnf) Evs.nil)) rfl rfl rfl rfl Try.underlying33 sz_5 zr_5 (by decide) ?_
  intro b4 w4 hb4 hs4 hk4 he4
  -- mark
  refine L.mark rfl rfl (hk4) rfl Try.underlying33 Try.underlying5 ?_
  intro v4 hr4 hg4
  have hx4 : Ext v3 v4 := he4.grw hg4 (by intro g hg; injection hg with hg; omega)
  have hz4 : b4 + 1 ≤ v4.heap.size := by have := hg4.size; omega
  -- buildSlice
  refine L.bslice (vs := [_, _, _, _]) rfl (Evs.cons (by conv => lhs; whnf) (Evs.cons (by conv => lhs; whnf) (Evs.cons (by conv => lhs; whnf) (Evs.cons (by conv => lhs; whnf) Evs.nil)))) rfl rfl rfl rfl Try.underlying38 sz_33 zr_33 (by decide) ?_
  intro b5 w5 hb5 hs5 hk5 he5
  have hx3' := hx4.trans he5
  have hx2' := hx3.trans hx3'
  have hx1' := hx2.trans hx2'
  have hr1' := (hr1.ext hx1').more (Nat.le_trans hz1 hx1'.le)
  have hr2' := (hr2.ext hx2').more (Nat.le_trans hz2 hx2'.le)
  have hr3' := (hr3.ext hx3').more (Nat.le_trans hz3 hx3'.le)
  have hr4' := (hr4.ext he5).more (Nat.le_trans hz4 he5.le)
  have he05 := hx1.trans hx1'
  obtain ⟨s, hs⟩ : ∃ s : Bys, s = ⟨some ⟨b5, 0, none⟩, 4, 4, [⟨some ⟨b1, 0, none⟩, 1, 1, [98]⟩, ⟨some ⟨b2, 0, none⟩, 1, 1, [97]⟩, ⟨some ⟨b3, 0, none⟩, 1, 1, [98]⟩, ⟨some ⟨b4, 0, none⟩, 2, 2, [97, 97]⟩]⟩ := ⟨_, rfl⟩
  have hA : s.At w5.heap.size w5 := by
    rw [hs]
    refine ⟨?_, ?_, rfl, le_maxL (n := 4) (by decide)⟩
    · exact blk_readsN (sz := 1) (q := 4) hk5 hk5.lt rfl
    · intro x hx
      simp only [List.mem_cons, List.not_mem_nil, or_false] at hx
      rcases hx with rfl | rfl | rfl | rfl
      · exact ⟨hr1', le_maxL (n := 1) (by decide)⟩
      · exact ⟨hr2', le_maxL (n := 1) (by decide)⟩
      · exact ⟨hr3', le_maxL (n := 1) (by decide)⟩
      · exact ⟨hr4', le_maxL (n := 2) (by decide)⟩
  have c1 := tleast s 2 w5 hA (by rw [hs]; show 4 ≤ 900000; decide)
  rw [show s.ks = ks16 by rw [hs]; rfl, show s.n = 4 by rw [hs]] at c1
  rw [show s.val = .slice (some ⟨b5, 0, none⟩) 4 4 by rw [hs]] at c1
  -- callfn bushel/tourney.Least
  refine L.call rfl en_29 rfl (c1) ?_
  rintro e w6 ⟨A6, m6, c6, o6, rfl, ho6, hf6, hm6, he6⟩
  refine ⟨_, rfl, ?_⟩
  obtain rfl : m6 = 2 := hm6
  obtain rfl : o6 = [1, 3] := hf6.unique (ahL_ord _) first16
  -- buildSlice
  refine L.bslice (vs := [_, _]) rfl (Evs.cons (by conv => lhs; whnf) (Evs.cons (by conv => lhs; whnf) Evs.nil)) rfl rfl rfl rfl Try.underlying29 sz_3 zr_3 (by decide) ?_
  intro b7 w7 hb7 hs7 hk7 he7
  have ho7 := ho6.ext he7
  -- callfn bushel/bushelref16.Ints
  refine L.call rfl en_28 rfl (ints16 _ _ _ _ _ _ _ [1, 3] w7 (Reads.of_own ho7) (blk_readsN (sz := 1) (q := 2) (l := nums .i64 [1, 3]) hk7 hk7.lt rfl) (by unfold maxLen; omega) (by unfold maxLen; omega)) ?_
  rintro e w8 ⟨rfl, he8⟩
  refine ⟨_, rfl, ?_⟩
  rw [eqI_self]
  refine L.va rfl (X.assign (by conv => lhs; whnf)) ?_
  refine L.nil ?_
  -- ret
  refine J.ret ?_
  refine fin1 ?_
  exact ⟨rfl, ((he05.trans he6).trans he7).trans he8⟩
theorem law_TourneyLeast (w : World) (A0 : Option Addr) (n0 c0 : Nat) (xs0 : List (List (Nm .u8))) (hn0 : n0 ≤ c0) (hc0 : c0 ≤ maxLen) (hA0 : A0 = none → c0 = 0) (hl0 : LiesSlice w w.heap.size A0 n0 xs0) (x1 : Nm .i64) :
    Calls Try.prog 5 #[.slice A0 n0 c0, .int .i64 x1.z] w fun e w' => e = .returned (.bool true) ∧ Below w.heap.size w w' := by
  obtain ⟨l, Ha⟩ := keys_of (c := c0) hl0 (Nat.le_trans hn0 hc0)
  have la : l.length = n0 := Ha.l
  have har : Reads w w.heap.size 1 A0 n0 (l.flatMap By.vs) := Ha.r
  have hR := ahL_ord (Bys.mk A0 n0 c0 l).ks
  refine enter Try.func5 rfl (by kernel_rfl) ?_
  refine J.seq ?_
  refine J.region ?_
  refine L.va rfl (X.assign (by conv => lhs; whnf)) ?_
  refine L.nil ?_
  refine J.seq ?_
  refine J.seq ?_
  refine J.region ?_
  refine L.va rfl (X.move (by conv => lhs; whnf)) ?_
  refine L.va rfl (X.len rfl Try.underlying38) ?_
  refine L.va rfl (X.gtr rfl rfl) ?_
  refine L.nil ?_
  -- cond
  refine J.dec rfl (fun h1 => ?_) (fun h1 => ?_)
  · refine J.seq ?_
    refine J.region ?_
    -- callfn bushel/bushellaw16.awake
    refine L.call rfl en_27 rfl (awake16 w) ?_
    rintro e w1 ⟨rfl, he1⟩
    refine ⟨_, rfl, ?_⟩
    refine L.va rfl (X.assign (by conv => lhs; whnf)) ?_
    refine L.nil ?_
    -- ret
    refine J.ret ?_
    refine thn_ret <| ?_
    refine fin1 ?_
    exact ⟨rfl, he1⟩
  · refine J.skip ?_
    refine J.seq ?_
    refine J.seq ?_
    refine J.region ?_
    refine L.va rfl (X.assign (by conv => lhs; whnf)) ?_
    refine L.nil ?_
    refine J.block ?_
    -- loop
    refine J.loop (X := Nat) [4, 5, 10, 11, 12, 13, 14, 15, 16, 17, 18, 19, 20, 21, 22] (fun i => [(5, .int .i64 (i : Int))]) (fun i w' => i ≤ n0 ∧ Ext w w') (fun i => n0 - i) (0) (At1 (by first | rfl | exact at_int rfl (by omega) | exact at_slice rfl (by omega) | exact at_int rfl (by simp))) ?_ ?_
    · exact ⟨Nat.zero_le _, Ext.refl _⟩
    · rintro i g w2 ⟨hi, he2⟩
      refine J.seq ?_
      refine J.seq ?_
      refine J.region ?_
      refine L.va rfl (X.move (by conv => lhs; whnf)) ?_
      refine L.va rfl (X.move (by conv => lhs; whnf)) ?_
      refine L.va rfl (X.len rfl Try.underlying38) ?_
      refine L.va rfl (X.lss rfl rfl) ?_
      refine L.nil ?_
      -- cond
      refine J.dec rfl (fun hlt => ?_) (fun hlt => ?_)
      · have hil : i < l.length := by omega
        have hA := (har.ext he2).some_ (by omega)
        have hx := Ld.flat2 by_len (har.ext he2) (gtBy hil) (r := 0) rfl
        rw [Nat.mul_one] at hx
        refine J.skip ?_
        refine J.seq ?_
        refine J.block ?_
        refine J.seq ?_
        refine J.region ?_
        refine L.va rfl (X.move (by conv => lhs; whnf)) ?_
        refine L.va rfl (X.move (by conv => lhs; whnf)) ?_
        refine L.va rfl ((by first | exact X.index1n rfl rfl Try.underlying38 sz_33 (by first | exact Option.some_ne_none _ | exact hA | exact hx) (by omega) | exact X.index1 rfl rfl Try.underlying38 sz_33 (by first | exact Option.some_ne_none _ | exact hA | exact hx) (by omega))) ?_
        refine L.va rfl (X.load rfl sc_33 (by first | exact hA | exact hx)) ?_
        refine L.va rfl (X.len rfl Try.underlying33) ?_
        refine L.va rfl (X.gtr rfl rfl) ?_
        refine L.nil ?_
        -- cond
        refine J.dec rfl (fun h2 => ?_) (fun h2 => ?_)
        · refine J.seq ?_
          refine J.region ?_
          -- callfn bushel/bushellaw16.awake
          refine L.call rfl en_27 rfl (awake16 w2) ?_
          rintro e w3 ⟨rfl, he3⟩
          refine ⟨_, rfl, ?_⟩
          refine L.va rfl (X.assign (by conv => lhs; whnf)) ?_
          refine L.nil ?_
          -- ret
          refine J.ret ?_
          refine inB_ret <|  thn_ret <|  thn_ret <|  inB_ret <|  thn_ret <| ?_
          refine fin1 ?_
          exact ⟨rfl, he2.trans he3⟩
        · refine J.skip ?_
          refine J.region ?_
          refine L.va rfl (X.move (by conv => lhs; whnf)) ?_
          refine L.va rfl (X.add rfl rfl (by omega)) ?_
          refine L.va rfl (X.assign (by conv => lhs; whnf)) ?_
          refine L.nil ?_
          -- loopend
          refine ⟨i + 1, At1 (by first | rfl | exact at_int rfl (by omega) | exact at_slice rfl (by omega) | exact at_int rfl (by simp)), (by (iterate 13 refine Agr.lk rfl ?_); exact Agr.lk rfl (Agr.hav rfl Agr.rfl')), ?_⟩
          exact ⟨⟨by omega, he2⟩, by omega⟩
      · have z2 := he2.le
        have c1 := tleast (Bys.mk A0 n0 c0 l) x1.z w2 ((Ha.ext he2).more z2) (by show n0 ≤ 900000; omega)
        refine J.exit ?_
        refine J.seq ?_
        refine J.region ?_
        refine L.va rfl (X.move (by conv => lhs; whnf)) ?_
        refine L.va rfl (X.move (by conv => lhs; whnf)) ?_
        -- callfn bushel/tourney.Least
        refine L.call rfl en_29 rfl (c1) ?_
        rintro e w3 ⟨A3, m3, c3, o3, rfl, ho3, hf3, hm3, he3⟩
        refine ⟨_, rfl, ?_⟩
        have he03 := he2.trans he3
        have c2 := rleast (Bys.mk A0 n0 c0 l) x1.z w3 ((Ha.ext he03).more he03.le) (by show n0 ≤ 900000; omega)
        refine L.va rfl (X.move (by conv => lhs; whnf)) ?_
        refine L.va rfl (X.move (by conv => lhs; whnf)) ?_
        -- callfn bushel/bushelref16.Least
        refine L.call rfl en_30 rfl (c2) ?_
        rintro e w4 ⟨A4, m4, c4, o4, rfl, ho4, ol4, hp4, hm4, he4⟩
        refine ⟨_, rfl, ?_⟩
        have he04 := he03.trans he4
        obtain rfl : m3 = m4 := by rw [hm3, hm4]
        obtain rfl : o3 = o4 := hf3.ref ol4 hp4
        have hmx : m3 ≤ maxLen := by
          have : m3 ≤ n0 := by rw [hm3]; exact Nat.min_le_left _ _
          unfold maxLen; omega
        have k3 := ho3.ext he4
        -- callfn bushel/bushelref16.Ints
        refine L.call rfl en_28 rfl (ints16 _ _ _ _ _ _ _ _ w4 (Reads.of_own k3) (Reads.of_own ho4) hmx hmx) ?_
        rintro e w5 ⟨rfl, he5⟩
        refine ⟨_, rfl, ?_⟩
        rw [eqI_self]
        have he05 := he04.trans he5
        refine L.va rfl (X.move (by conv => lhs; whnf)) ?_
        -- case t30
        refine L.caseBT (k := 30) rfl (by rfl) ?_
        have c3 := tsort (Bys.mk A0 n0 c0 l) w5 ((Ha.ext he05).more he05.le) (by show n0 ≤ 900000; omega)
        refine L.va rfl (X.move (by conv => lhs; whnf)) ?_
        -- callfn bushel/tourney.Sort
        refine L.call rfl en_31 rfl (c3) ?_
        rintro e w6 ⟨A6, m6, c6, o6, rfl, ho6, hf6, hm6, he6⟩
        refine ⟨_, rfl, ?_⟩
        have he06 := he05.trans he6
        have c4 := rleast (Bys.mk A0 n0 c0 l) (n0 : Int) w6 ((Ha.ext he06).more he06.le) (by show n0 ≤ 900000; omega)
        refine L.va rfl (X.move (by conv => lhs; whnf)) ?_
        refine L.va rfl (X.move (by conv => lhs; whnf)) ?_
        refine L.va rfl (X.len rfl Try.underlying38) ?_
        -- callfn bushel/bushelref16.Least
        refine L.call rfl en_30 rfl (c4) ?_
        rintro e w7 ⟨A7, m7, c7, o7, rfl, ho7, ol7, hp7, hm7, he7⟩
        refine ⟨_, rfl, ?_⟩
        have he07 := he06.trans he7
        obtain rfl : m6 = m7 := by rw [hm6, hm7]; show n0 = min n0 (n0 : Int).toNat; omega
        obtain rfl : o6 = o7 := hf6.ref ol7 hp7
        have hmx6 : m6 ≤ maxLen := by
          have : m6 = n0 := hm6
          unfold maxLen; omega
        have k6 := ho6.ext he7
        -- callfn bushel/bushelref16.Ints
        refine L.call rfl en_28 rfl (ints16 _ _ _ _ _ _ _ _ w7 (Reads.of_own k6) (Reads.of_own ho7) hmx6 hmx6) ?_
        rintro e w8 ⟨rfl, he8⟩
        refine ⟨_, rfl, ?_⟩
        rw [eqI_self]
        have he08 := he07.trans he8
        refine L.va rfl (X.pickT rfl (by conv => lhs; whnf)) ?_
        refine L.va rfl (X.move (by conv => lhs; whnf)) ?_
        -- case t39
        refine L.caseBT (k := 39) rfl (by rfl) ?_
        -- callfn bushel/bushellaw16.awake
        refine L.call rfl en_27 rfl (awake16 w8) ?_
        rintro e w9 ⟨rfl, he9⟩
        refine ⟨_, rfl, ?_⟩
        refine L.va rfl (X.pickT rfl (by conv => lhs; whnf)) ?_
        refine L.va rfl (X.assign (by conv => lhs; whnf)) ?_
        refine L.nil ?_
        -- ret
        refine J.ret ?_
        refine fin1 ?_
        exact ⟨rfl, he08.trans he9⟩
end Go.Proofs.Ytmnlaekcojblkaa
