/-
  The disk's laws: is, Light, plays.
-/
import Derived.Test.YtdmfikedojgjbaaWDiskI
import Derived.Test.YtdmfikedojgjbaaLat
namespace Go.Proofs.Ytdmfikedojgjbaa
set_option maxRecDepth 100000
open Go.RowKit H
set_option linter.unusedVariables false
namespace H
theorem Ld.flat {X : Type} {f : X → List Value} {sz B n : Nat} {A : Option Addr} {w : World} {l : List X} (hf : ∀ x, (f x).length = sz) (h : Reads w B sz A n (l.flatMap f)) {i : Nat} {x : X} (hi : l[i]? = some x) {r : Nat} {u : Value} (hu : (f x)[r]? = some u) : Ld w (pA A (i * sz + r)) u := by
  have h2 := flat_row hf hi r u hu
  have hj : i * sz + r < n * sz := by rw [← h.1]; exact (List.getElem?_eq_some_iff.1 h2).1
  have h1 := Ld.rd h hj
  rw [List.getD, h2] at h1
  exact h1
end H
/-- deeds in memory -/
structure DmsAt (xs : List Dm) (A : Option Addr) (n N : Nat) (w : World) : Prop where
  hr : Reads w N 5 A n (xs.flatMap Dm.vals)
  hx : ∀ x ∈ xs, x.At N w
  hn : xs.length = n
theorem DmsAt.low {xs : List Dm} {A : Option Addr} {n N : Nat} {w w' : World} (h : DmsAt xs A n N w) (hb : Below N w w') : DmsAt xs A n N w' := ⟨h.hr.low hb (Nat.le_refl _), fun x hx => (h.hx x hx).low hb, h.hn⟩
theorem DmsAt.row {xs : List Dm} {A : Option Addr} {n N : Nat} {w : World} (h : DmsAt xs A n N w) {i : Nat} (hi : i < n) : ∃ x, xs[i]? = some x ∧ x ∈ xs ∧ x.At N w := by
  have hlt : i < xs.length := by rw [h.hn]; exact hi
  exact ⟨xs[i], List.getElem?_eq_getElem hlt, List.getElem_mem hlt, h.hx _ (List.getElem_mem hlt)⟩
theorem dm_len (x : Dm) : x.vals.length = 5 := rfl
def lightD (xs : List Dm) : Bool := decide (xs.length ≤ 60) && xs.all fun x => decide (x.dn ≤ 1200) && decide (x.kn ≤ 100)
theorem light_ {xs : List Dm} {A : Option Addr} {n c N : Nat} {w : World} (h : DmsAt xs A n N w) (hn : n ≤ maxLen) : Calls Try.prog 15 #[.slice A n c] w fun e w' => e = .returned (.bool (lightD xs)) ∧ w = w' := by
  unfold maxLen at hn
  have hlen := h.hn
  have hR := h.hr
  refine enter Try.func15 rfl (by kernel_rfl) ?_
  refine J.seq ?_
  refine J.region ?_
  refine L.va rfl (X.assign (by conv => lhs; whnf)) ?_
  refine L.nil ?_
  refine J.seq ?_
  refine J.seq ?_
  refine J.region ?_
  refine L.va rfl (X.move (by conv => lhs; whnf)) ?_
  refine L.va rfl (X.len rfl Try.underlying22) ?_
  refine L.va rfl (X.gtr rfl rfl) ?_
  refine L.nil ?_
  -- cond
  refine J.dec rfl (fun h60 => ?_) (fun h60 => ?_)
  · have e : lightD xs = false := by unfold lightD; rw [decide_eq_false (by omega)]; rfl
    rw [e]
    refine J.seq ?_
    refine J.region ?_
    refine L.va rfl (X.assign (by conv => lhs; whnf)) ?_
    refine L.nil ?_
    -- ret
    refine J.ret ?_
    refine thn_ret <| ?_
    refine fin1 ?_
    exact ⟨rfl, rfl⟩
  · refine J.skip ?_
    refine J.seq ?_
    refine J.seq ?_
    refine J.region ?_
    refine L.va rfl (X.assign (by conv => lhs; whnf)) ?_
    refine L.nil ?_
    refine J.block ?_
    -- loop
    refine J.loop (X := Nat) [2, 3, 7, 8, 9, 10, 11, 12, 13, 14, 15, 16, 17, 18, 19, 20, 21, 22, 23, 24, 25, 26, 27, 28] (fun i => [(3, .int .i64 (i : Int))]) (fun i w' => w' = w ∧ i ≤ n ∧ ∀ j x, j < i → xs[j]? = some x → x.dn ≤ 1200 ∧ x.kn ≤ 100) (fun i => n - i) (0) (At1 (by first | rfl | exact at_int rfl (by omega) | exact at_slice rfl (by omega) | exact at_int rfl (by simp))) ?_ ?_
    · exact ⟨rfl, Nat.zero_le _, fun j x hj => absurd hj (Nat.not_lt_zero _)⟩
    · rintro i g w2 ⟨rfl, hi, hall⟩
      refine J.seq ?_
      refine J.seq ?_
      refine J.region ?_
      refine L.va rfl (X.move (by conv => lhs; whnf)) ?_
      refine L.va rfl (X.move (by conv => lhs; whnf)) ?_
      refine L.va rfl (X.len rfl Try.underlying22) ?_
      refine L.va rfl (X.lss rfl rfl) ?_
      refine L.nil ?_
      -- cond
      refine J.dec rfl (fun hlt => ?_) (fun hlt => ?_)
      · obtain ⟨x, hxi, hxm, hxA⟩ := h.row (show i < n by omega)
        have hl := hxA.hl
        unfold maxLen at hl
        -- t17
        -- t25
        refine J.skip ?_
        refine J.seq ?_
        refine J.block ?_
        refine J.seq ?_
        refine J.region ?_
        refine L.va rfl (X.move (by conv => lhs; whnf)) ?_
        refine L.va rfl (X.move (by conv => lhs; whnf)) ?_
        refine L.va rfl ((by first | exact X.indexAddrn rfl rfl Try.underlying22 sz_34 (by first | exact Option.some_ne_none _ | exact hR.some_ (by omega)) (by omega) | exact X.indexAddr rfl rfl Try.underlying22 sz_34 (by first | exact Option.some_ne_none _ | exact hR.some_ (by omega)) (by omega))) ?_
        refine L.va rfl (X.fieldP rfl Try.underlying34 rfl sz_30 (by decide) (by first | exact Option.some_ne_none _ | exact hR.some_ (by omega))) ?_
        refine L.va rfl (X.load rfl sc_30 (Ld.flat dm_len hR hxi (r := 2) rfl)) ?_
        refine L.va rfl (X.len rfl Try.underlying30) ?_
        refine L.va rfl (X.gtr rfl rfl) ?_
        refine L.va rfl (X.move (by conv => lhs; whnf)) ?_
        -- case t20
        refine L.caseDec (k := 20) rfl (fun h12 => ?_) (fun h12 => ?_)
        · have e : lightD xs = false := by
            unfold lightD
            rw [Bool.and_eq_false_iff]
            refine .inr ?_
            rw [List.all_eq_false]
            exact ⟨x, hxm, by simp; omega⟩
          rw [e]
          refine L.no rfl ?_
          refine L.no rfl ?_
          refine L.no rfl ?_
          refine L.no rfl ?_
          refine L.no rfl ?_
          refine L.no rfl ?_
          refine L.no rfl ?_
          refine L.va rfl (X.pickT rfl (by conv => lhs; whnf)) ?_
          refine L.nil ?_
          -- cond
          refine J.iteT rfl ?_
          refine J.seq ?_
          refine J.region ?_
          refine L.va rfl (X.assign (by conv => lhs; whnf)) ?_
          refine L.nil ?_
          -- ret
          refine J.ret ?_
          refine inB_ret <|  thn_ret <|  thn_ret <|  inB_ret <|  thn_ret <| ?_
          refine fin1 ?_
          exact ⟨rfl, rfl⟩
        · refine L.va rfl (X.move (by conv => lhs; whnf)) ?_
          refine L.va rfl (X.move (by conv => lhs; whnf)) ?_
          refine L.va rfl ((by first | exact X.indexAddrn rfl rfl Try.underlying22 sz_34 (by first | exact Option.some_ne_none _ | exact hR.some_ (by omega)) (by omega) | exact X.indexAddr rfl rfl Try.underlying22 sz_34 (by first | exact Option.some_ne_none _ | exact hR.some_ (by omega)) (by omega))) ?_
          refine L.va rfl (X.fieldP rfl Try.underlying34 rfl sz_23 (by decide) (by first | exact Option.some_ne_none _ | exact hR.some_ (by omega))) ?_
          refine L.va rfl (X.load rfl sc_23 (Ld.flat dm_len hR hxi (r := 4) rfl)) ?_
          refine L.va rfl (X.len rfl Try.underlying23) ?_
          refine L.va rfl (X.gtr rfl rfl) ?_
          refine L.va rfl (X.pickF rfl (by conv => lhs; whnf)) ?_
          refine L.nil ?_
          -- cond
          refine J.dec rfl (fun h10 => ?_) (fun h10 => ?_)
          · have e : lightD xs = false := by
              unfold lightD
              rw [Bool.and_eq_false_iff]
              refine .inr ?_
              rw [List.all_eq_false]
              exact ⟨x, hxm, by simp; omega⟩
            rw [e]
            refine J.seq ?_
            refine J.region ?_
            refine L.va rfl (X.assign (by conv => lhs; whnf)) ?_
            refine L.nil ?_
            -- ret
            refine J.ret ?_
            refine inB_ret <|  thn_ret <|  thn_ret <|  inB_ret <|  thn_ret <| ?_
            refine fin1 ?_
            exact ⟨rfl, rfl⟩
          · refine J.skip ?_
            refine J.region ?_
            refine L.va rfl (X.move (by conv => lhs; whnf)) ?_
            refine L.va rfl (X.add rfl rfl (by omega)) ?_
            refine L.va rfl (X.assign (by conv => lhs; whnf)) ?_
            refine L.nil ?_
            -- loopend
            refine ⟨i + 1, At1 (by first | rfl | exact at_int rfl (by omega) | exact at_slice rfl (by omega) | exact at_int rfl (by simp)), (by (iterate 24 refine Agr.lk rfl ?_); exact Agr.lk rfl (Agr.hav rfl Agr.rfl')), ?_⟩
            refine ⟨⟨rfl, by omega, fun j y hj hy => ?_⟩, by omega⟩
            rcases Nat.lt_or_ge j i with hj2 | hj2
            · exact hall j y hj2 hy
            · obtain rfl : j = i := by omega
              rw [hxi] at hy
              injection hy with hy
              subst hy
              omega
      · have e : lightD xs = true := by
          unfold lightD
          rw [Bool.and_eq_true]
          refine ⟨decide_eq_true (by omega), ?_⟩
          rw [List.all_eq_true]
          intro x hx
          obtain ⟨j, hj, rfl⟩ := List.getElem_of_mem hx
          have := hall j _ (by omega) (List.getElem?_eq_getElem hj)
          simp
          omega
        rw [e]
        refine J.exit ?_
        refine J.seq ?_
        refine J.region ?_
        refine L.va rfl (X.assign (by conv => lhs; whnf)) ?_
        refine L.nil ?_
        -- ret
        refine J.ret ?_
        refine fin1 ?_
        exact ⟨rfl, rfl⟩
theorem light_of {xs : List Dm} (h : lightD xs = true) : xs.length ≤ 60 ∧ ∀ x ∈ xs, x.dn ≤ 1200 ∧ x.kn ≤ 100 := by
  unfold lightD at h
  rw [Bool.and_eq_true, List.all_eq_true] at h
  refine ⟨of_decide_eq_true h.1, fun x hx => ?_⟩
  have := h.2 x hx
  simpa using this
namespace Dk
variable {v : Dk} {N N0 : Nat} {C : Nat → Prop} {w w' : World} {r : Rk}
theorem At.lawis (h : v.At N C w) (hr : r.At N0 w) (hab : v.abs = r.abs) : Calls Try.prog 71 #[v.ptr, r.v] w fun e w' => e = .returned (.bool true) ∧ Ext w w' := by
  have a1 : v.kp.map (·.2) = r.kp.map (·.2) := congrArg Ds.kept hab
  have a2 : v.off = r.off := congrArg Ds.off hab
  have a3 : v.pp.map (fun p => (p.1, p.2.2)) = r.pp.map (fun p => (p.1, p.2.2)) := congrArg Ds.pend hab
  have a4 : v.rd = r.rd := congrArg Ds.rd hab
  have a5 : v.wr = r.wr := congrArg Ds.wr hab
  have a6 : v.fl = r.fl := congrArg Ds.fl hab
  have l1 : v.kp.length = r.kp.length := by have := congrArg List.length a1; simpa using this
  have l2 : v.pp.length = r.pp.length := by have := congrArg List.length a3; simpa using this
  refine enter Try.func71 rfl (by kernel_rfl) ?_
  refine J.seq ?_
  refine J.region ?_
  -- box
  refine L.boxA (l := [_, _, _, _, _, _, _]) rfl rfl ?_
  intro b1 w1 hb1 hs1 hk1 he1
  refine L.va rfl (X.assign (by conv => lhs; whnf)) ?_
  refine L.nil ?_
  refine J.seq ?_
  refine J.region ?_
  refine L.va rfl (X.move (by conv => lhs; whnf)) ?_
  -- callfn (*bushel/disk.Disk).Counts
  refine L.call rfl en_30 rfl ((h.ext he1).counts_) ?_
  rintro e w2 ⟨rfl, he2⟩
  refine ⟨_, rfl, ?_⟩
  have he2 : Ext w1 w2 := he2
  replace hk1 := hk1.ext he2
  have H2 := (h.ext he1).ext he2
  have R2 := (hr.ext he1).ext he2
  refine L.va rfl (X.move (by conv => lhs; whnf)) ?_
  refine L.va rfl (X.extract rfl rfl) ?_
  refine L.va rfl (X.extract rfl rfl) ?_
  refine L.va rfl (X.extract rfl rfl) ?_
  refine L.va rfl (X.assign (by conv => lhs; whnf)) ?_
  refine L.va rfl (X.assign (by conv => lhs; whnf)) ?_
  refine L.va rfl (X.assign (by conv => lhs; whnf)) ?_
  refine L.nil ?_
  refine J.seq ?_
  -- draw
  refine J.draw (ℓ := 1000000) (S := Ext w2) mixed (fun w3 hS hS_h => ?_)
  refine D.va 0 rfl (by kernel_rfl) (fun _ _ _ h => h) rfl (fun w' hw => X.move (by conv => lhs; whnf)) hS ?_
  refine D.va 2 rfl (by kernel_rfl) (fun _ _ _ h => h) rfl (fun w' hw => X.fieldAddr rfl Try.underlying44 rfl sz_41 (by decide)) hS ?_
  refine D.va 3 rfl (by kernel_rfl) (fun _ _ _ h => h) rfl (fun w' hw => X.load rfl sc_41 (by first | exact Ld.blk (hk1.ext hw) rfl)) hS ?_
  refine D.va 4 rfl (by kernel_rfl) (fun _ _ _ h => h) rfl (fun w' hw => X.len rfl Try.underlying41) hS ?_
  -- callfn (*bushel/disk.Disk).Len
  refine D.call 1 rfl (by kernel_rfl) (fun _ _ _ h => h) rfl en_31 rfl (fun w' hw => ((H2.ext hw).len_)) hS ?_
  refine D.va 5 rfl (by kernel_rfl) (fun _ _ _ h => h) rfl (fun w' hw => X.eql rfl rfl) hS ?_
  refine D.va 6 rfl (by kernel_rfl) (fun _ _ _ h => h) rfl (fun w' hw => X.move (by conv => lhs; whnf)) hS ?_
  -- case t20
  refine D.caseDecT (k := 20) rfl (by rw [l1]) ?_
  refine D.va 7 rfl (by kernel_rfl) (fun _ _ _ h => h) rfl (fun w' hw => X.move (by conv => lhs; whnf)) hS ?_
  refine D.va 9 rfl (by kernel_rfl) (fun _ _ _ h => h) rfl (fun w' hw => X.fieldAddr rfl Try.underlying44 rfl sz_4 (by decide)) hS ?_
  refine D.va 10 rfl (by kernel_rfl) (fun _ _ _ h => h) rfl (fun w' hw => X.load rfl sc_4 (by first | exact Ld.blk (hk1.ext hw) rfl)) hS ?_
  -- callfn (*bushel/disk.Disk).Off
  refine D.call 8 rfl (by kernel_rfl) (fun _ _ _ h => h) rfl en_22 rfl (fun w' hw => ((H2.ext hw).off_)) hS ?_
  refine D.va 11 rfl (by kernel_rfl) (fun _ _ _ h => h) rfl (fun w' hw => X.eqlB rfl rfl Try.underlying4) hS ?_
  refine D.va 12 rfl (by kernel_rfl) (fun _ _ _ h => h) rfl (fun w' hw => X.pickT rfl (by conv => lhs; whnf)) hS ?_
  refine D.va 13 rfl (by kernel_rfl) (fun _ _ _ h => h) rfl (fun w' hw => X.move (by conv => lhs; whnf)) hS ?_
  -- case t27
  refine D.caseBT (k := 27) rfl (by simp [a2]) ?_
  refine D.va 14 rfl (by kernel_rfl) (fun _ _ _ h => h) rfl (fun w' hw => X.move (by conv => lhs; whnf)) hS ?_
  refine D.va 16 rfl (by kernel_rfl) (fun _ _ _ h => h) rfl (fun w' hw => X.fieldAddr rfl Try.underlying44 rfl sz_42 (by decide)) hS ?_
  refine D.va 17 rfl (by kernel_rfl) (fun _ _ _ h => h) rfl (fun w' hw => X.load rfl sc_42 (by first | exact Ld.blk (hk1.ext hw) rfl)) hS ?_
  refine D.va 18 rfl (by kernel_rfl) (fun _ _ _ h => h) rfl (fun w' hw => X.len rfl Try.underlying42) hS ?_
  -- callfn (*bushel/disk.Disk).Pending
  refine D.call 15 rfl (by kernel_rfl) (fun _ _ _ h => h) rfl en_23 rfl (fun w' hw => ((H2.ext hw).pending_)) hS ?_
  refine D.va 19 rfl (by kernel_rfl) (fun _ _ _ h => h) rfl (fun w' hw => X.eql rfl rfl) hS ?_
  refine D.va 20 rfl (by kernel_rfl) (fun _ _ _ h => h) rfl (fun w' hw => X.pickT rfl (by conv => lhs; whnf)) hS ?_
  refine D.va 21 rfl (by kernel_rfl) (fun _ _ _ h => h) rfl (fun w' hw => X.move (by conv => lhs; whnf)) hS ?_
  -- case t35
  refine D.caseDecT (k := 35) rfl (by rw [l2]) ?_
  refine D.va 22 rfl (by kernel_rfl) (fun _ _ _ h => h) rfl (fun w' hw => X.move (by conv => lhs; whnf)) hS ?_
  refine D.va 23 rfl (by kernel_rfl) (fun _ _ _ h => h) rfl (fun w' hw => X.fieldAddr rfl Try.underlying44 rfl sz_3 (by decide)) hS ?_
  refine D.va 24 rfl (by kernel_rfl) (fun _ _ _ h => h) rfl (fun w' hw => X.load rfl sc_3 (by first | exact Ld.blk (hk1.ext hw) rfl)) hS ?_
  refine D.va 25 rfl (by kernel_rfl) (fun _ _ _ h => h) rfl (fun w' hw => X.eql rfl rfl) hS ?_
  refine D.va 26 rfl (by kernel_rfl) (fun _ _ _ h => h) rfl (fun w' hw => X.pickT rfl (by conv => lhs; whnf)) hS ?_
  refine D.va 27 rfl (by kernel_rfl) (fun _ _ _ h => h) rfl (fun w' hw => X.move (by conv => lhs; whnf)) hS ?_
  -- case t41
  refine D.caseDecT (k := 41) rfl (by exact a4) ?_
  refine D.va 28 rfl (by kernel_rfl) (fun _ _ _ h => h) rfl (fun w' hw => X.move (by conv => lhs; whnf)) hS ?_
  refine D.va 29 rfl (by kernel_rfl) (fun _ _ _ h => h) rfl (fun w' hw => X.fieldAddr rfl Try.underlying44 rfl sz_3 (by decide)) hS ?_
  refine D.va 30 rfl (by kernel_rfl) (fun _ _ _ h => h) rfl (fun w' hw => X.load rfl sc_3 (by first | exact Ld.blk (hk1.ext hw) rfl)) hS ?_
  refine D.va 31 rfl (by kernel_rfl) (fun _ _ _ h => h) rfl (fun w' hw => X.eql rfl rfl) hS ?_
  refine D.va 32 rfl (by kernel_rfl) (fun _ _ _ h => h) rfl (fun w' hw => X.pickT rfl (by conv => lhs; whnf)) hS ?_
  refine D.va 33 rfl (by kernel_rfl) (fun _ _ _ h => h) rfl (fun w' hw => X.move (by conv => lhs; whnf)) hS ?_
  -- case t47
  refine D.caseDecT (k := 47) rfl (by exact a5) ?_
  refine D.va 34 rfl (by kernel_rfl) (fun _ _ _ h => h) rfl (fun w' hw => X.move (by conv => lhs; whnf)) hS ?_
  refine D.va 35 rfl (by kernel_rfl) (fun _ _ _ h => h) rfl (fun w' hw => X.fieldAddr rfl Try.underlying44 rfl sz_3 (by decide)) hS ?_
  refine D.va 36 rfl (by kernel_rfl) (fun _ _ _ h => h) rfl (fun w' hw => X.load rfl sc_3 (by first | exact Ld.blk (hk1.ext hw) rfl)) hS ?_
  refine D.va 37 rfl (by kernel_rfl) (fun _ _ _ h => h) rfl (fun w' hw => X.eql rfl rfl) hS ?_
  refine D.va 38 rfl (by kernel_rfl) (fun _ _ _ h => h) rfl (fun w' hw => X.pickT rfl (by conv => lhs; whnf)) hS ?_
  refine D.va 39 rfl (by kernel_rfl) (fun _ _ _ h => h) rfl (fun w' hw => X.move (by conv => lhs; whnf)) hS ?_
  -- case t53
  refine D.caseDecT (k := 53) rfl (by exact a6) ?_
  refine D.va 40 rfl (by kernel_rfl) (fun _ _ _ h => h) rfl (fun w' hw => X.move (by conv => lhs; whnf)) hS ?_
  refine D.va 43 rfl (by kernel_rfl) (fun _ _ _ h => h) rfl (fun w' hw => (by first | exact X.loadAgg rfl (range_l (hk1.ext hw)) Try.underlying44 rfl (by kernel_rfl) | exact X.loadAgg rfl (range_blk (hk1.ext hw)) Try.underlying44 rfl (by kernel_rfl))) hS ?_
  refine D.one 41 (by kernel_rfl) rfl ?_
  refine L.call rfl en_20 rfl ((H2.ext hS).image_) ?_
  rintro e wA ⟨A5, c5, rfl, ho5, heA⟩
  refine ⟨_, rfl, ?_⟩
  have hS1 := (hS).trans heA
  refine L.nil ?_
  refine ⟨fun _ => hS1, ?_⟩
  have hR5 := Reads.of_own ho5
  have heA : Ext _ wA := heA
  try replace hR8 := hR8.ext heA
  refine D.two 42 44 (by kernel_rfl) rfl rfl ?_ ?_
  · refine L.va rfl (X.conv rfl (hR5.conv (c := c5) Try.underlying30 Try.underlying5 Try.underlying9)) ?_
    refine L.nil ?_
    refine ⟨fun _ => hS1, ?_⟩
    refine D.one 44 (by kernel_rfl) rfl ?_
    refine L.call rfl en_104 rfl ((R2.ext hS1).image_) ?_
    rintro e wB ⟨A8, c8, rfl, ho8, heB⟩
    refine ⟨_, rfl, ?_⟩
    have hS2 := (hS1).trans heB
    refine L.nil ?_
    refine ⟨fun _ => hS2, ?_⟩
    have hR8 := Reads.of_own ho8
    have heB : Ext _ wB := heB
    try replace hR5 := hR5.ext heB
    refine D.one 45 (by kernel_rfl) rfl ?_
    refine L.va rfl (X.conv rfl (hR8.conv (c := c8) Try.underlying30 Try.underlying5 Try.underlying9)) ?_
    refine L.nil ?_
    refine ⟨fun _ => hS2, ?_⟩
    refine D.va 46 rfl (by kernel_rfl) (fun _ _ _ h => h) rfl (fun w' hw => X.eqlS rfl rfl) hS2 ?_
    refine D.va 47 rfl (by kernel_rfl) (fun _ _ _ h => h) rfl (fun w' hw => X.pickT rfl (by conv => lhs; whnf)) hS2 ?_
    refine D.va 48 rfl (by kernel_rfl) (fun _ _ _ h => h) rfl (fun w' hw => X.assign (by conv => lhs; whnf)) hS2 ?_
    refine D.done (by kernel_rfl) ?_
    replace hk1 := hk1.ext hS2
    refine J.ret ?_
    refine fin1 ?_
    refine ⟨?_, (he1.trans he2).trans hS2⟩
    have e : strOfNums v.dat.flatten = strOfNums (r.kp.map (·.2)).flatten := by unfold Dk.dat; rw [a1]
    show Ending.returned (.bool (decide (strOfNums v.dat.flatten = strOfNums (r.kp.map (·.2)).flatten))) = _
    rw [decide_eq_true e]
  · refine L.call rfl en_104 rfl ((R2.ext hS1).image_) ?_
    rintro e wB ⟨A8, c8, rfl, ho8, heB⟩
    refine ⟨_, rfl, ?_⟩
    have hS2 := (hS1).trans heB
    refine L.nil ?_
    refine ⟨fun _ => hS2, ?_⟩
    have hR8 := Reads.of_own ho8
    have heB : Ext _ wB := heB
    try replace hR5 := hR5.ext heB
    refine D.two 42 45 (by kernel_rfl) rfl rfl ?_ ?_
    · refine L.va rfl (X.conv rfl (hR5.conv (c := c5) Try.underlying30 Try.underlying5 Try.underlying9)) ?_
      refine L.nil ?_
      refine ⟨fun _ => hS2, ?_⟩
      refine D.one 45 (by kernel_rfl) rfl ?_
      refine L.va rfl (X.conv rfl (hR8.conv (c := c8) Try.underlying30 Try.underlying5 Try.underlying9)) ?_
      refine L.nil ?_
      refine ⟨fun _ => hS2, ?_⟩
      refine D.va 46 rfl (by kernel_rfl) (fun _ _ _ h => h) rfl (fun w' hw => X.eqlS rfl rfl) hS2 ?_
      refine D.va 47 rfl (by kernel_rfl) (fun _ _ _ h => h) rfl (fun w' hw => X.pickT rfl (by conv => lhs; whnf)) hS2 ?_
      refine D.va 48 rfl (by kernel_rfl) (fun _ _ _ h => h) rfl (fun w' hw => X.assign (by conv => lhs; whnf)) hS2 ?_
      refine D.done (by kernel_rfl) ?_
      replace hk1 := hk1.ext hS2
      refine J.ret ?_
      refine fin1 ?_
      refine ⟨?_, (he1.trans he2).trans hS2⟩
      have e : strOfNums v.dat.flatten = strOfNums (r.kp.map (·.2)).flatten := by unfold Dk.dat; rw [a1]
      show Ending.returned (.bool (decide (strOfNums v.dat.flatten = strOfNums (r.kp.map (·.2)).flatten))) = _
      rw [decide_eq_true e]
    · refine L.va rfl (X.conv rfl (hR8.conv (c := c8) Try.underlying30 Try.underlying5 Try.underlying9)) ?_
      refine L.nil ?_
      refine ⟨fun _ => hS2, ?_⟩
      refine D.one 42 (by kernel_rfl) rfl ?_
      refine L.va rfl (X.conv rfl (hR5.conv (c := c5) Try.underlying30 Try.underlying5 Try.underlying9)) ?_
      refine L.nil ?_
      refine ⟨fun _ => hS2, ?_⟩
      refine D.va 46 rfl (by kernel_rfl) (fun _ _ _ h => h) rfl (fun w' hw => X.eqlS rfl rfl) hS2 ?_
      refine D.va 47 rfl (by kernel_rfl) (fun _ _ _ h => h) rfl (fun w' hw => X.pickT rfl (by conv => lhs; whnf)) hS2 ?_
      refine D.va 48 rfl (by kernel_rfl) (fun _ _ _ h => h) rfl (fun w' hw => X.assign (by conv => lhs; whnf)) hS2 ?_
      refine D.done (by kernel_rfl) ?_
      replace hk1 := hk1.ext hS2
      refine J.ret ?_
      refine fin1 ?_
      refine ⟨?_, (he1.trans he2).trans hS2⟩
      have e : strOfNums v.dat.flatten = strOfNums (r.kp.map (·.2)).flatten := by unfold Dk.dat; rw [a1]
      show Ending.returned (.bool (decide (strOfNums v.dat.flatten = strOfNums (r.kp.map (·.2)).flatten))) = _
      rw [decide_eq_true e]
end Dk
end Go.Proofs.Ytdmfikedojgjbaa
