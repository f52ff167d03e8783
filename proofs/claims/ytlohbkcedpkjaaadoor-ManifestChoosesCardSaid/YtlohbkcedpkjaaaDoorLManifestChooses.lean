/-
  The law ManifestChooses, walked.
-/
import Derived.Test.YtlohbkcedpkjaaaDoorWManH
namespace Go.Proofs.YtlohbkcedpkjaaaDoor
set_option maxRecDepth 100000
open Go.RowKit H
open Byts Cod Seal
open Man
set_option linter.unusedVariables false
abbrev ManT := (Nm .u64) × (Nm .u64) × (Nm .u64) × (Nm .i64) × (List ((Nm .i64) × (Nm .i64)))
theorem man5v {w : World} {B : Nat} {vs : List Value} {x : Vec 2 ManT} (h : Lay.lies w B vs x) :
    ∃ m A c m' A' c', vs = Man.vs m A c ++ Man.vs m' A' c' ∧ (In m ∧ Reads w B 2 A m.r.length (m.r.flatMap rV)) ∧ (In m' ∧ Reads w B 2 A' m'.r.length (m'.r.flatMap rV)) := by
  have h1 : vs.length = 10 := And.left h
  have h2 : ∀ i y, x.l[i]? = some y → Lay.lies w B ((vs.drop (i * 5)).take 5) y := And.right h
  clear h
  have hx : ∃ x0 x1, x.l[0]? = some x0 ∧ x.l[1]? = some x1 := ⟨_, _, List.getElem?_eq_getElem (by rw [x.len]; decide), List.getElem?_eq_getElem (by rw [x.len]; decide)⟩
  obtain ⟨x0, x1, e0, e1⟩ := hx
  obtain ⟨m, A, c, e, a1, a2, a3⟩ := man5 (h2 0 x0 e0)
  obtain ⟨m', A', c', e', a1', a2', a3'⟩ := man5 (h2 1 x1 e1)
  refine ⟨m, A, c, m', A', c', ?_, ⟨a1, a3⟩, ⟨a1', a3'⟩⟩
  rw [← e, ← e']
  have e2 : (vs.drop (1 * 5)).take 5 = vs.drop 5 := by rw [Nat.one_mul, List.take_of_length_le (by rw [List.length_drop]; omega)]
  rw [e2, Nat.zero_mul, List.drop_zero, List.take_append_drop]
theorem range_mid {w : World} {b t : Nat} {l l1 l2 l3 : List Value} (h : Blk w b t l.toArray) (e : l = l1 ++ (l2 ++ l3)) : w.rangeAt b l1.length l2 := by
  intro j v hv
  have hj : j < l2.length := (List.getElem?_eq_some_iff.1 hv).1
  have := range_l h (l1.length + j) v (by rw [e, List.getElem?_append_right (by omega), show l1.length + j - l1.length = j by omega, List.getElem?_append_left hj]; exact hv)
  rwa [Nat.zero_add] at this
/-- bytes that lie somewhere -/
structure By where
  A : Option Addr
  n : Nat
  c : Nat
  z : List Int
abbrev By.v (x : By) : Value := .slice x.A x.n x.c
structure By.At (x : By) (w : World) : Prop where
  r : Reads w w.heap.size 1 x.A x.n (nums .u8 x.z)
  z : ∀ z ∈ x.z, 0 ≤ z ∧ z < 256
  nc : x.n ≤ x.c
  c0 : x.c ≤ 9223372036854775807
theorem By.At.ext {x : By} {w w' : World} (h : x.At w) (he : Ext w w') : x.At w' := ⟨(h.r.ext he).here (by decide), h.z, h.nc, h.c0⟩
theorem law_ManifestChooses (w : World) (ht : Tab w) (A0 : Option Addr) (n0 c0 : Nat) (xs0 : List (Nm .u8)) (hn0 : n0 ≤ c0) (hc0 : c0 ≤ maxLen) (hA0 : A0 = none → c0 = 0) (hl0 : LiesSlice w w.heap.size A0 n0 xs0) (A1 : Option Addr) (n1 c1 : Nat) (xs1 : List (Nm .u8)) (hn1 : n1 ≤ c1) (hc1 : c1 ≤ maxLen) (hA1 : A1 = none → c1 = 0) (hl1 : LiesSlice w w.heap.size A1 n1 xs1) (vs2 : List Value) (a2 : Vec 2 ((Nm .u64) × (Nm .u64) × (Nm .u64) × (Nm .i64) × (List ((Nm .i64) × (Nm .i64))))) (hl2 : Lay.lies w w.heap.size vs2 a2) :
    Calls Tryd.prog 4 #[.slice A0 n0 c0, .slice A1 n1 c1, .agg vs2.toArray] w fun e w' => e = .returned (.bool true) ∧ Below w.heap.size w w' := by
  obtain ⟨m, B0, d0, m', B1, d1, rfl, ⟨hi, hr⟩, hi', hr'⟩ := man5v hl2
  have ra := hl0.reads
  have za := zsOf_u8 xs0
  have rb := hl1.reads
  have zb := zsOf_u8 xs1
  unfold maxLen at hc0 hc1
  refine enter Tryd.func4 rfl (by kernel_rfl) ?_
  refine J.seq ?_
  refine J.region ?_
  -- box
  refine L.boxA (l := [_, _, _, _, _, _, _, _, _, _]) rfl rfl ?_
  intro b5 w1 hb5 hs5 hk5 he5
  have hk5 : Blk w1 b5 38 (vs m B0 d0 ++ vs m' B1 d1).toArray := hk5
  have z1 := he5.le
  have H0 : (By.mk A0 n0 c0 (zsOf xs0)).At w1 := ⟨(ra.ext he5).here (by decide), za, hn0, by show c0 ≤ _; omega⟩
  have H1 : (By.mk A1 n1 c1 (zsOf xs1)).At w1 := ⟨(rb.ext he5).here (by decide), zb, hn1, by show c1 ≤ _; omega⟩
  have r1 := hr.ext he5
  have r1' := hr'.ext he5
  refine L.va rfl (X.assign (by conv => lhs; whnf)) ?_
  refine L.nil ?_
  refine J.seq ?_
  refine J.seq ?_
  refine J.region ?_
  refine L.va rfl (X.move (by conv => lhs; whnf)) ?_
  refine L.va rfl (X.len rfl Tryd.underlying23) ?_
  refine L.va rfl (X.gtr rfl rfl) ?_
  refine L.va rfl (X.move (by conv => lhs; whnf)) ?_
  -- case t17
  refine L.caseDec (k := 17) rfl (fun h1 => ?_) (fun h1 => ?_)
  · refine L.no rfl ?_
    refine L.no rfl ?_
    refine L.no rfl ?_
    refine L.va rfl (X.pickT rfl (by conv => lhs; whnf)) ?_
    refine L.va rfl (X.move (by conv => lhs; whnf)) ?_
    refine L.no rfl ?_
    refine L.no rfl ?_
    refine L.no rfl ?_
    refine L.no rfl ?_
    refine L.no rfl ?_
    refine L.va rfl (X.pickT rfl (by conv => lhs; whnf)) ?_
    refine L.va rfl (X.move (by conv => lhs; whnf)) ?_
    refine L.no rfl ?_
    refine L.no rfl ?_
    refine L.no rfl ?_
    refine L.no rfl ?_
    refine L.no rfl ?_
    refine L.va rfl (X.pickT rfl (by conv => lhs; whnf)) ?_
    refine L.nil ?_
    -- cond
    refine J.iteT rfl ?_
    refine J.seq ?_
    refine J.region ?_
    -- callfn bushel/bushellaw23.awake
    refine L.call rfl en_8 rfl (awake23 w1 (tab_ext ht he5)) ?_
    rintro e w3 ⟨rfl, he3⟩
    refine ⟨_, rfl, ?_⟩
    refine L.va rfl (X.assign (by conv => lhs; whnf)) ?_
    refine L.nil ?_
    -- ret
    refine J.ret ?_
    refine thn_ret <| ?_
    refine fin1 ?_
    exact ⟨rfl, he5.trans he3⟩
  refine L.va rfl (X.move (by conv => lhs; whnf)) ?_
  refine L.va rfl (X.len rfl Tryd.underlying23) ?_
  refine L.va rfl (X.gtr rfl rfl) ?_
  refine L.va rfl (X.pickF rfl (by conv => lhs; whnf)) ?_
  refine L.va rfl (X.move (by conv => lhs; whnf)) ?_
  -- case t22
  refine L.caseDec (k := 22) rfl (fun h2 => ?_) (fun h2 => ?_)
  · refine L.no rfl ?_
    refine L.no rfl ?_
    refine L.no rfl ?_
    refine L.no rfl ?_
    refine L.no rfl ?_
    refine L.va rfl (X.pickT rfl (by conv => lhs; whnf)) ?_
    refine L.va rfl (X.move (by conv => lhs; whnf)) ?_
    refine L.no rfl ?_
    refine L.no rfl ?_
    refine L.no rfl ?_
    refine L.no rfl ?_
    refine L.no rfl ?_
    refine L.va rfl (X.pickT rfl (by conv => lhs; whnf)) ?_
    refine L.nil ?_
    -- cond
    refine J.iteT rfl ?_
    refine J.seq ?_
    refine J.region ?_
    -- callfn bushel/bushellaw23.awake
    refine L.call rfl en_8 rfl (awake23 w1 (tab_ext ht he5)) ?_
    rintro e w3 ⟨rfl, he3⟩
    refine ⟨_, rfl, ?_⟩
    refine L.va rfl (X.assign (by conv => lhs; whnf)) ?_
    refine L.nil ?_
    -- ret
    refine J.ret ?_
    refine thn_ret <| ?_
    refine fin1 ?_
    exact ⟨rfl, he5.trans he3⟩
  refine L.va rfl (X.indexArrn (j := 0) rfl rfl Tryd.underlying38 sz_30 (by omega)) ?_
  refine L.va rfl (X.fieldP rfl Tryd.underlying30 rfl sz_28 (by decide) (by first | exact Option.some_ne_none _ )) ?_
  refine L.va rfl (X.load rfl sc_28 (by first | exact Ld.blk hk5 rfl)) ?_
  refine L.va rfl (X.len rfl Tryd.underlying28) ?_
  refine L.va rfl (X.gtr rfl rfl) ?_
  refine L.va rfl (X.pickF rfl (by conv => lhs; whnf)) ?_
  refine L.va rfl (X.move (by conv => lhs; whnf)) ?_
  -- case t29
  refine L.caseDec (k := 29) rfl (fun h3 => ?_) (fun h3 => ?_)
  · refine L.no rfl ?_
    refine L.no rfl ?_
    refine L.no rfl ?_
    refine L.no rfl ?_
    refine L.no rfl ?_
    refine L.va rfl (X.pickT rfl (by conv => lhs; whnf)) ?_
    refine L.nil ?_
    -- cond
    refine J.iteT rfl ?_
    refine J.seq ?_
    refine J.region ?_
    -- callfn bushel/bushellaw23.awake
    refine L.call rfl en_8 rfl (awake23 w1 (tab_ext ht he5)) ?_
    rintro e w3 ⟨rfl, he3⟩
    refine ⟨_, rfl, ?_⟩
    refine L.va rfl (X.assign (by conv => lhs; whnf)) ?_
    refine L.nil ?_
    -- ret
    refine J.ret ?_
    refine thn_ret <| ?_
    refine fin1 ?_
    exact ⟨rfl, he5.trans he3⟩
  refine L.va rfl (X.indexArrn (j := 1) rfl rfl Tryd.underlying38 sz_30 (by omega)) ?_
  refine L.va rfl (X.fieldP rfl Tryd.underlying30 rfl sz_28 (by decide) (by first | exact Option.some_ne_none _ )) ?_
  refine L.va rfl (X.load rfl sc_28 (by first | exact Ld.blk hk5 rfl)) ?_
  refine L.va rfl (X.len rfl Tryd.underlying28) ?_
  refine L.va rfl (X.gtr rfl rfl) ?_
  refine L.va rfl (X.pickF rfl (by conv => lhs; whnf)) ?_
  refine L.nil ?_
  -- cond
  refine J.dec rfl (fun h4 => ?_) (fun h4 => ?_)
  · refine J.seq ?_
    refine J.region ?_
    -- callfn bushel/bushellaw23.awake
    refine L.call rfl en_8 rfl (awake23 w1 (tab_ext ht he5)) ?_
    rintro e w3 ⟨rfl, he3⟩
    refine ⟨_, rfl, ?_⟩
    refine L.va rfl (X.assign (by conv => lhs; whnf)) ?_
    refine L.nil ?_
    -- ret
    refine J.ret ?_
    refine thn_ret <| ?_
    refine fin1 ?_
    exact ⟨rfl, he5.trans he3⟩
  have hml : m.r.length ≤ 16 := by omega
  have hml' : m'.r.length ≤ 16 := by omega
  refine J.skip ?_
  refine J.seq ?_
  refine J.seq ?_
  refine J.region ?_
  refine L.va rfl (X.assign (by conv => lhs; whnf)) ?_
  refine L.nil ?_
  refine J.block ?_
  -- loop
  refine J.loop (X := Nat × By × By) [0, 1, 6, 7, 8, 9, 10, 11, 12, 13, 37, 38, 39, 40, 41, 42, 43, 44, 45, 46, 47, 48, 49, 50, 51, 52, 53, 54, 55, 56, 57, 58, 59, 60, 61, 62, 63, 64, 65, 66, 67, 68, 69, 70, 71, 72, 73, 74, 75, 76, 77, 78, 79, 80, 81, 82, 83, 84, 85, 86, 87, 88] (fun s => [(7, .int .i64 (s.1 : Int)), (0, s.2.1.v), (1, s.2.2.v)]) (fun s w' => s.1 ≤ 2 ∧ s.2.1.At w' ∧ s.2.2.At w' ∧ Ext w1 w') (fun s => 2 - s.1) ((0, ⟨A0, n0, c0, zsOf xs0⟩, ⟨A1, n1, c1, zsOf xs1⟩)) (At3 (by first | rfl | exact at_int rfl (by omega) | exact at_slice rfl (by omega) | exact at_int rfl (by simp)) (by first | rfl | exact at_int rfl (by omega) | exact at_slice rfl (by omega) | exact at_int rfl (by simp)) (by first | rfl | exact at_int rfl (by omega) | exact at_slice rfl (by omega) | exact at_int rfl (by simp))) ?_ ?_
  · exact ⟨Nat.zero_le _, H0, H1, Ext.refl _⟩
  · rintro ⟨k, a, b⟩ g w2 ⟨hk, Ha, Hb, he2⟩
    dsimp only at hk Ha Hb
    have hk52 := hk5.ext he2
    refine J.seq ?_
    refine J.seq ?_
    refine J.region ?_
    refine L.va rfl (X.move (by conv => lhs; whnf)) ?_
    refine L.va rfl (X.lss rfl rfl) ?_
    refine L.nil ?_
    -- cond
    refine J.dec rfl (fun hlt => ?_) (fun hlt => ?_)
    · have hlt' : k < 2 := by dsimp only at hlt; omega
      refine J.skip ?_
      refine J.seq ?_
      refine J.block ?_
      -- until
      refine J.cut (X := By) [0, 41, 42, 43, 44, 45, 46, 47, 48, 49, 50] (fun s => [(0, s.v)]) (fun s w' => s.At w' ∧ Ext w2 w') ?_ ?_
      · refine J.seq ?_
        refine J.region ?_
        refine L.va rfl (X.move (by conv => lhs; whnf)) ?_
        refine L.va rfl (X.eql rfl rfl) ?_
        refine L.va rfl (X.move (by conv => lhs; whnf)) ?_
        -- case t43
        -- t45
        refine L.caseDec (k := 43) rfl (fun hk1 => ?_) (fun hk1 => ?_)
        · refine L.va rfl (X.indexArrn (j := 0) rfl rfl Tryd.underlying38 sz_30 (by omega)) ?_
          refine L.va rfl (X.loadAgg rfl (range_mid (l1 := []) (l2 := vs m B0 d0) (l3 := vs m' B1 d1) hk52 rfl) Tryd.underlying30 rfl (by kernel_rfl)) ?_
          -- callfn bushel/bushelref23.May
          refine L.call rfl en_13 rfl (rmay_ m B0 d0 (r1.ext he2) (Nat.le_trans z1 he2.le) hi.1 (by omega)) ?_
          rintro e w3 ⟨rfl, he3⟩
          refine ⟨_, rfl, ?_⟩
          have hk53 := hk52.ext he3
          refine L.va rfl (X.pickT rfl (by conv => lhs; whnf)) ?_
          refine L.nil ?_
          -- cond
          by_cases hm : may m
          · rw [decide_eq_true hm]
            refine J.iteT rfl ?_
            -- t49
            refine J.region ?_
            refine L.va rfl (X.indexArrn (j := 0) rfl rfl Tryd.underlying38 sz_30 (by omega)) ?_
            refine L.va rfl (X.loadAgg rfl (range_mid (l1 := []) (l2 := vs m B0 d0) (l3 := vs m' B1 d1) hk53 rfl) Tryd.underlying30 rfl (by kernel_rfl)) ?_
            -- callfn bushel/bushelref23.Put
            refine L.call rfl en_14 rfl (rput_ m B0 d0 (r1.ext (he2.trans he3)) (Nat.le_trans z1 (he2.trans he3).le) hi hm) ?_
            rintro e w4 ⟨A4, c4, rfl, ho4, he4⟩
            refine ⟨_, rfl, ?_⟩
            have hcc := own_bd ho4
            unfold maxLen at hcc
            refine L.va rfl (X.assign (by conv => lhs; whnf)) ?_
            refine L.nil ?_
            -- cutend
            refine ⟨⟨A4, 1024, c4, sc smZ m⟩, At1 (by first | rfl | exact at_int rfl (by omega) | exact at_slice rfl (by omega) | exact at_int rfl (by simp)), (by (iterate 12 refine Agr.lk rfl ?_); exact Agr.rfl'), ?_⟩
            exact ⟨⟨Reads.of_own ho4, sc_bytes hm hi, hcc.1, by show c4 ≤ _; omega⟩, he3.trans he4⟩
          · rw [decide_eq_false hm]
            refine J.iteF rfl ?_
            refine J.skip ?_
            -- cutend
            refine ⟨a, At1 (by first | rfl | exact at_int rfl (by omega) | exact at_slice rfl (by omega) | exact at_int rfl (by simp)), (by (iterate 8 refine Agr.lk rfl ?_); exact Agr.rfl'), ?_⟩
            exact ⟨Ha.ext he3, he3⟩
        · refine L.no rfl ?_
          refine L.no rfl ?_
          refine L.no rfl ?_
          refine L.va rfl (X.pickF rfl (by conv => lhs; whnf)) ?_
          refine L.nil ?_
          -- cond
          refine J.iteF rfl ?_
          refine J.skip ?_
          -- cutend
          refine ⟨a, At1 (by first | rfl | exact at_int rfl (by omega) | exact at_slice rfl (by omega) | exact at_int rfl (by simp)), (by (iterate 8 refine Agr.lk rfl ?_); exact Agr.rfl'), ?_⟩
          exact ⟨Ha, Ext.refl _⟩
      · rintro a' g w3 ⟨Ha', he3⟩
        have he13 := he2.trans he3
        have hk53 := hk52.ext he3
        -- until
        refine J.cut (X := By) [1, 51, 52, 53, 54, 55, 56, 57, 58, 59, 60] (fun s => [(1, s.v)]) (fun s w' => s.At w' ∧ Ext w3 w') ?_ ?_
        · refine J.seq ?_
          refine J.region ?_
          refine L.va rfl (X.move (by conv => lhs; whnf)) ?_
          refine L.va rfl (X.eql rfl rfl) ?_
          refine L.va rfl (X.move (by conv => lhs; whnf)) ?_
          -- case t53
          -- t55
          refine L.caseDec (k := 53) rfl (fun hk1 => ?_) (fun hk1 => ?_)
          · refine L.va rfl (X.indexArrn (j := 1) rfl rfl Tryd.underlying38 sz_30 (by omega)) ?_
            refine L.va rfl (X.loadAgg rfl (range_mid (l1 := vs m B0 d0) (l2 := vs m' B1 d1) (l3 := []) hk53 rfl) Tryd.underlying30 rfl (by kernel_rfl)) ?_
            -- callfn bushel/bushelref23.May
            refine L.call rfl en_13 rfl (rmay_ m' B1 d1 (r1'.ext he13) (Nat.le_trans z1 he13.le) hi'.1 (by omega)) ?_
            rintro e w4 ⟨rfl, he4⟩
            refine ⟨_, rfl, ?_⟩
            have hk54 := hk53.ext he4
            refine L.va rfl (X.pickT rfl (by conv => lhs; whnf)) ?_
            refine L.nil ?_
            -- cond
            by_cases hm : may m'
            · rw [decide_eq_true hm]
              refine J.iteT rfl ?_
              -- t59
              refine J.region ?_
              refine L.va rfl (X.indexArrn (j := 1) rfl rfl Tryd.underlying38 sz_30 (by omega)) ?_
              refine L.va rfl (X.loadAgg rfl (range_mid (l1 := vs m B0 d0) (l2 := vs m' B1 d1) (l3 := []) hk54 rfl) Tryd.underlying30 rfl (by kernel_rfl)) ?_
              -- callfn bushel/bushelref23.Put
              refine L.call rfl en_14 rfl (rput_ m' B1 d1 (r1'.ext (he13.trans he4)) (Nat.le_trans z1 (he13.trans he4).le) hi' hm) ?_
              rintro e w5 ⟨A5, c5, rfl, ho5, he5'⟩
              refine ⟨_, rfl, ?_⟩
              have hcc := own_bd ho5
              unfold maxLen at hcc
              refine L.va rfl (X.assign (by conv => lhs; whnf)) ?_
              refine L.nil ?_
              -- cutend
              refine ⟨⟨A5, 1024, c5, sc smZ m'⟩, At1 (by first | rfl | exact at_int rfl (by omega) | exact at_slice rfl (by omega) | exact at_int rfl (by simp)), (by (iterate 12 refine Agr.lk rfl ?_); exact Agr.rfl'), ?_⟩
              exact ⟨⟨Reads.of_own ho5, sc_bytes hm hi', hcc.1, by show c5 ≤ _; omega⟩, he4.trans he5'⟩
            · rw [decide_eq_false hm]
              refine J.iteF rfl ?_
              refine J.skip ?_
              -- cutend
              refine ⟨b, At1 (by first | rfl | exact at_int rfl (by omega) | exact at_slice rfl (by omega) | exact at_int rfl (by simp)), (by (iterate 8 refine Agr.lk rfl ?_); exact Agr.rfl'), ?_⟩
              exact ⟨(Hb.ext he3).ext he4, he4⟩
          · refine L.no rfl ?_
            refine L.no rfl ?_
            refine L.no rfl ?_
            refine L.va rfl (X.pickF rfl (by conv => lhs; whnf)) ?_
            refine L.nil ?_
            -- cond
            refine J.iteF rfl ?_
            refine J.skip ?_
            -- cutend
            refine ⟨b, At1 (by first | rfl | exact at_int rfl (by omega) | exact at_slice rfl (by omega) | exact at_int rfl (by simp)), (by (iterate 8 refine Agr.lk rfl ?_); exact Agr.rfl'), ?_⟩
            exact ⟨Hb.ext he3, Ext.refl _⟩
        · rintro b' g w4 ⟨Hb', he4⟩
          have he14 := he13.trans he4
          have ha := Ha'.ext he4
          have h04 := he5.trans he14
          refine J.seq ?_
          refine J.region ?_
          refine L.va rfl (X.move (by conv => lhs; whnf)) ?_
          refine L.va rfl (X.move (by conv => lhs; whnf)) ?_
          -- callfn bushel/manifest.Choose
          refine L.call rfl en_15 rfl (choose_ a'.A a'.n a'.c a'.z b'.A b'.n b'.c b'.z w4 (tab_ext ht h04) ha.r ha.z ha.nc ha.c0 Hb'.r Hb'.z Hb'.nc Hb'.c0) ?_
          rintro e w5 ⟨AC, cC, rfl, hoC, heC⟩
          refine ⟨_, rfl, ?_⟩
          have z5 := heC.le
          refine L.va rfl (X.move (by conv => lhs; whnf)) ?_
          refine L.va rfl (X.extract rfl rfl) ?_
          refine L.va rfl (X.extract rfl rfl) ?_
          refine L.va rfl (X.extract rfl rfl) ?_
          -- alloc
          refine L.alloc rfl zr_30 ?_
          intro b9 w6 hb9 hs9 hk9 he9
          refine L.va rfl (X.assign (by conv => lhs; whnf)) ?_
          -- store
          refine L.storeAgg (vs := [_, _, _, _, _]) rfl rfl rfl rfl sz_30 (hk9) rfl ?_
          intro w7 hk9 hg9 hs9'
          have he57 : Ext w5 w7 := he9.grw hg9 (by intro g hg; injection hg with hg; omega)
          have hk9 : Blk w7 b9 30 (vs (mc smZ a'.z b'.z).2.1 AC cC).toArray := hk9
          have he47 := heC.trans he57
          have ha7 := ha.ext he47
          have Hb7 := Hb'.ext he47
          have hoC7 := hoC.ext he57
          refine L.va rfl (X.assign (by conv => lhs; whnf)) ?_
          refine L.nil ?_
          refine J.seq ?_
          refine J.region ?_
          refine L.va rfl (X.move (by conv => lhs; whnf)) ?_
          refine L.va rfl (X.move (by conv => lhs; whnf)) ?_
          -- callfn bushel/bushelref23.Choose
          refine L.call rfl en_16 rfl (rchoose_ a'.A a'.n a'.c a'.z b'.A b'.n b'.c b'.z w7 ha7.r ha7.z ha7.nc ha7.c0 Hb7.r Hb7.z Hb7.nc Hb7.c0) ?_
          rintro e w8 ⟨AD, cD, rfl, hoD, heD⟩
          refine ⟨_, rfl, ?_⟩
          have z8 := heD.le
          have hk98 := hk9.ext heD
          refine L.va rfl (X.move (by conv => lhs; whnf)) ?_
          refine L.va rfl (X.extract rfl rfl) ?_
          refine L.va rfl (X.extract rfl rfl) ?_
          refine L.va rfl (X.extract rfl rfl) ?_
          -- alloc
          refine L.alloc rfl zr_30 ?_
          intro b12 wa hb12 hs12 hk12 he12
          refine L.va rfl (X.assign (by conv => lhs; whnf)) ?_
          -- store
          refine L.storeAgg (vs := [_, _, _, _, _]) rfl rfl rfl rfl sz_30 (hk12) rfl ?_
          intro wb hk12 hg12 hs12'
          have he8b : Ext w8 wb := he12.grw hg12 (by intro g hg; injection hg with hg; omega)
          have hk12 : Blk wb b12 30 (vs (mc smZ a'.z b'.z).2.1 AD cD).toArray := hk12
          have hk9b := hk98.ext he8b
          have he7b := heD.trans he8b
          have he4b := he47.trans he7b
          have hoCb := hoC7.ext he7b
          have hoDb := hoD.ext he8b
          have hcl := mc_len ha.z Hb'.z
          refine L.va rfl (X.assign (by conv => lhs; whnf)) ?_
          refine L.nil ?_
          refine J.seq ?_
          refine J.region ?_
          refine L.va rfl (X.move (by conv => lhs; whnf)) ?_
          refine L.va rfl (X.move (by conv => lhs; whnf)) ?_
          refine L.va rfl (X.neq rfl rfl) ?_
          refine L.va rfl (X.move (by conv => lhs; whnf)) ?_
          -- case t78
          refine L.caseNdecF (k := 78) rfl (by exact rfl) ?_
          refine L.va rfl (X.move (by conv => lhs; whnf)) ?_
          refine L.va rfl (X.move (by conv => lhs; whnf)) ?_
          refine L.va rfl (X.neq rfl rfl) ?_
          refine L.va rfl (X.pickF rfl (by conv => lhs; whnf)) ?_
          refine L.va rfl (X.move (by conv => lhs; whnf)) ?_
          -- case t83
          refine L.caseNdecF (k := 83) rfl (by exact rfl) ?_
          refine L.va rfl ((by first | exact X.loadAgg rfl (range_l hk9b) Tryd.underlying30 rfl (by kernel_rfl) | exact X.loadAgg rfl (range_blk hk9b) Tryd.underlying30 rfl (by kernel_rfl) | exact X.loadAgg rfl (range_l hk12) Tryd.underlying30 rfl (by kernel_rfl) | exact X.loadAgg rfl (range_blk hk12) Tryd.underlying30 rfl (by kernel_rfl))) ?_
          refine L.va rfl ((by first | exact X.loadAgg rfl (range_l hk9b) Tryd.underlying30 rfl (by kernel_rfl) | exact X.loadAgg rfl (range_blk hk9b) Tryd.underlying30 rfl (by kernel_rfl) | exact X.loadAgg rfl (range_l hk12) Tryd.underlying30 rfl (by kernel_rfl) | exact X.loadAgg rfl (range_blk hk12) Tryd.underlying30 rfl (by kernel_rfl))) ?_
          -- callfn bushel/bushelref23.Same
          refine L.call rfl en_12 rfl (rsame_ (Nat.le_refl _) (mc smZ a'.z b'.z).2.1 (mc smZ a'.z b'.z).2.1 AC cC AD cD (Reads.of_own hoCb) (Reads.of_own hoDb) hcl hcl) ?_
          rintro e wc ⟨rfl, hec⟩
          refine ⟨_, rfl, ?_⟩
          rw [eqm_self]
          refine L.va rfl (X.not rfl) ?_
          refine L.va rfl (X.pickF rfl (by conv => lhs; whnf)) ?_
          refine L.nil ?_
          -- cond
          refine J.iteF rfl ?_
          have he4c := he4b.trans hec
          refine J.skip ?_
          refine J.region ?_
          refine L.va rfl (X.move (by conv => lhs; whnf)) ?_
          refine L.va rfl (X.add rfl rfl (by omega)) ?_
          refine L.va rfl (X.assign (by conv => lhs; whnf)) ?_
          refine L.nil ?_
          -- loopend
          refine ⟨(k + 1, a', b'), At3 (by first | rfl | exact at_int rfl (by omega) | exact at_slice rfl (by omega) | exact at_int rfl (by simp)) (by first | rfl | exact at_int rfl (by omega) | exact at_slice rfl (by omega) | exact at_int rfl (by simp)) (by first | rfl | exact at_int rfl (by omega) | exact at_slice rfl (by omega) | exact at_int rfl (by simp)), (by (iterate 39 refine Agr.lk rfl ?_); refine Agr.lk rfl ?_; refine Agr.hav rfl ?_; refine Agr.lk rfl ?_; refine Agr.hav rfl ?_; (iterate 2 refine Agr.lk rfl ?_); exact Agr.lk rfl (Agr.hav rfl Agr.rfl')), ?_⟩
          exact ⟨⟨by dsimp only; omega, ha.ext he4c, Hb'.ext he4c, he14.trans he4c⟩, by dsimp only; omega⟩
    · refine J.exit ?_
      refine J.seq ?_
      refine J.region ?_
      -- callfn bushel/bushellaw23.awake
      refine L.call rfl en_8 rfl (awake23 w2 (tab_ext ht (he5.trans he2))) ?_
      rintro e w3 ⟨rfl, he3⟩
      refine ⟨_, rfl, ?_⟩
      refine L.va rfl (X.assign (by conv => lhs; whnf)) ?_
      refine L.nil ?_
      -- ret
      refine J.ret ?_
      refine fin1 ?_
      exact ⟨rfl, (he5.trans he2).trans he3⟩
end Go.Proofs.YtlohbkcedpkjaaaDoor
