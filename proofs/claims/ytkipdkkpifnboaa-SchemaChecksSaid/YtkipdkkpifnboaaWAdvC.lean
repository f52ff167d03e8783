/-
  Package advise: laying a view, what it is worth, Gain, Cost and Choose.
-/
import Derived.Test.YtkipdkkpifnboaaWAdvB
namespace Go.Proofs.Ytkipdkkpifnboaa
open Go.RowKit H
open Mk Ad
set_option linter.unusedVariables false
theorem own_later {w w' : World} {b1 e1 s1 n1 e2 s2 n2 : Nat} {v1 v2 : Value} {x1 x2 : List Value} (h1 : w.ownsRow b1 e1 s1 v1 n1 x1) (h2 : w'.ownsRow w.heap.size e2 s2 v2 n2 x2) : v2.ownBlock = none ∨ v2.ownBlock ≠ v1.ownBlock := by
  cases hv : v2.ownBlock with
  | none => exact .inl rfl
  | some g =>
    refine .inr fun he => ?_
    have k1 := (h2.lt g hv).1
    have k2 := (h1.lt g he.symm).2
    omega
theorem grb_trans {a b c : World} {r : Option Nat} (h : a.grownBy b r) (k : b.grownBy c r) : a.grownBy c r :=
  ⟨k.os.trans h.os, k.tape.trans h.tape, k.output.trans h.output, Nat.le_trans h.size k.size, fun i hi hne => (k.block i (Nat.lt_of_lt_of_le hi h.size) hne).trans (h.block i hi hne)⟩
theorem own_nilN (w : World) (base : Nat) (e : TypeId) (k : IntKind) : w.ownsRow base e 1 (.slice none 0 0) 0 (nums k []) := own_nil w base e 1
theorem grown_ext {a b : World} {r : Option Nat} (h : Ext a b) : a.grownBy b r := ⟨Below.os h, Below.tape h, Below.output h, Ext.le h, fun i hi _ => Below.block h i hi⟩
/-! ### the rounds of a laying -/
def pl (ss : List Int) (v : Nat) (out : List Int) (i : Nat) : List Int × Int := ((subs v).take i).foldl (stp (ss.getD v 0)) (out, 0)
theorem pl_facts {ss out : List Int} {v : Nat} (hs : Ok ss) (ho : Ok out) (hl : out.length = ss.length) (hv : v < ss.length) (i : Nat) :
    (pl ss v out i).1.length = out.length ∧ 0 ≤ (pl ss v out i).2 ∧ (pl ss v out i).2 ≤ out.length * 1099511627776 ∧ Ok (pl ss v out i).1 := by
  obtain ⟨i1, i2, i3, i4, _⟩ := fold_stp (ss.getD v 0) (hs.at_ hv) ((subs v).take i) (out, 0) (fun w hw => by have := sb_le (mem_subs.1 (List.mem_of_mem_take hw)); simp only; omega) ho
  have h1 := i4.sum
  have h2 := ho.sum
  unfold pl
  simp only at i1 i2 i3
  exact ⟨i1, i3, by omega, i4⟩
theorem pl_next {ss out : List Int} {v i : Nat} (h : i < (subs v).length) : pl ss v out (i + 1) = stp (ss.getD v 0) (pl ss v out i) ((subs v).getD i 0) := by
  unfold pl
  rw [List.take_add_one, List.getElem?_eq_getElem h, List.foldl_append]
  simp [List.getD, h]
theorem pl_all (ss out : List Int) (v : Nat) : pl ss v out (subs v).length = ly ss v out := by
  unfold pl ly; rw [List.take_of_length_le (Nat.le_refl _)]
theorem subs_at {v i : Nat} (h : i < (subs v).length) : (subs v).getD i 0 ≤ v := by
  have : (subs v).getD i 0 = (subs v)[i] := by simp [List.getD, h]
  rw [this]
  exact sb_le (mem_subs.1 (List.getElem_mem h))
theorem subs_len (v : Nat) : (subs v).length ≤ v + 1 := by
  unfold subs upto
  exact Nat.le_trans (List.length_filter_le _ _) (by rw [List.length_range]; exact Nat.le_refl _)
theorem advlay_any (base : Nat) (A : Option Addr) (q c : Nat) (B : Option Addr) (cB : Nat) (out ss : List Int) (v : Nat) (w : World) (ho : w.ownsRow base 2 1 (.slice A q c) q (nums .i64 out)) (hbase : base ≤ w.heap.size)
    (hr : Reads w base 1 B q (nums .i64 ss)) (hq : q ≤ 64) (hv : v < q) (hO : Ok out) (hS : Ok ss) :
    Calls Try.prog 66 #[.slice A q c, .slice B q cB, .int .u32 (v : Int)] w fun e w' => e = .returned (.int .i64 (ly ss v out).2) ∧ w'.ownsRow base 2 1 (.slice A q c) q (nums .i64 (ly ss v out).1) ∧ w.grownBy w' (Value.slice A q c).ownBlock ∧ Below base w w' := by
  have hl : ss.length = q := by have := hr.1; simpa [nums] using this
  have hol : out.length = q := by have := ho.1; simpa [nums] using this
  have hsl := subs_len v
  have hsv := hS.at_ (i := v) (by omega)
  refine enter Try.func66 rfl (by kernel_rfl) ?_
  refine J.seq ?_
  refine J.region ?_
  refine L.va rfl (X.assign (by conv => lhs; whnf)) ?_
  refine L.nil ?_
  refine J.seq ?_
  refine J.region ?_
  refine L.va rfl (X.assign (by conv => lhs; whnf)) ?_
  refine L.nil ?_
  refine J.seq ?_
  refine J.region ?_
  refine L.va rfl (X.move (by conv => lhs; whnf)) ?_
  -- callfn bushel/lattice.Between
  refine L.call rfl en_96 rfl (lbetween_any v _ (by omega)) ?_
  rintro e w1 ⟨A1, c1, rfl, hL, he⟩
  refine ⟨_, rfl, ?_⟩
  have he : Ext w w1 := he
  have hz1 := he.le
  refine L.va rfl (X.move (by conv => lhs; whnf)) ?_
  refine L.va rfl (X.extract rfl rfl) ?_
  refine L.va rfl (X.extract rfl rfl) ?_
  refine L.va rfl (X.assign (by conv => lhs; whnf)) ?_
  refine L.va rfl (X.assign (by conv => lhs; whnf)) ?_
  refine L.nil ?_
  -- until
  refine J.seq ?_
  refine J.seq ?_
  refine J.region ?_
  refine L.va rfl (X.move (by conv => lhs; whnf)) ?_
  refine L.va rfl (X.len rfl Try.underlying23) ?_
  refine L.va rfl (X.move (by conv => lhs; whnf)) ?_
  refine L.nil ?_
  refine J.block ?_
  -- loop
  refine J.loop (X := Nat × Int × List Int) [7, 11, 12, 20, 21, 22, 23, 24, 25, 26, 27, 28, 29, 30, 31, 32, 33, 34, 35, 36, 37, 38, 39, 40, 41, 42, 43, 44, 45] (fun x => [(20, .int .i64 (x.1 : Int)), (7, .int .i64 x.2.1)]) (fun x w' => x.1 ≤ (subs v).length ∧ pl ss v out x.1 = (x.2.2, x.2.1) ∧ w'.ownsRow base 2 1 (.slice A q c) q (nums .i64 x.2.2) ∧ w'.ownsRow w.heap.size 29 1 (.slice A1 (subs v).length c1) (subs v).length (nums .u32 (zl (subs v))) ∧ w.grownBy w' (Value.slice A q c).ownBlock) (fun x => (subs v).length - x.1) ((0, 0, out)) (At2 (by first | rfl | exact at_int rfl (by omega) | exact at_slice rfl (by omega) | exact at_int rfl (by simp)) (by first | rfl | exact at_int rfl (by omega) | exact at_slice rfl (by omega) | exact at_int rfl (by simp))) ?_ ?_
  · exact ⟨by dsimp only; omega, rfl, ho.ext he, hL, grown_ext he⟩
  · rintro ⟨i, z, p⟩ g w2 ⟨h1, h2, h3, h4, h5⟩
    dsimp only at h1 h2 h3 h4 h5
    have hb2 := below_grown ho h5 hbase
    have hz2 := hb2.size
    have hr2 : Reads w2 w2.heap.size 1 B q (nums .i64 ss) := (hr.low hb2 (Nat.le_refl _)).here (by decide)
    obtain ⟨f1, f2, f3, f4⟩ := pl_facts hS hO (by omega) (by omega : v < ss.length) i
    rw [h2, hol] at f1
    rw [h2] at f2 f3 f4
    rw [hol] at f3
    dsimp only at f1 f2 f3 f4
    refine J.seq ?_
    refine J.region ?_
    refine L.va rfl (X.lss rfl rfl) ?_
    refine L.nil ?_
    refine J.seq ?_
    -- cond
    refine J.dec rfl (fun hlt => ?_) (fun hlt => ?_)
    · have hn := pl_next (ss := ss) (out := out) (v := v) (i := i) (by omega)
      have hm := subs_at (v := v) (i := i) (by omega)
      have hz := zl_getD (subs v) i
      obtain ⟨m, hme⟩ : ∃ m, (subs v).getD i 0 = m := ⟨_, rfl⟩
      rw [hme] at hn hm hz
      have hp := f4.at_ (i := m) (by omega)
      refine J.skip ?_
      refine J.seq ?_
      refine J.block ?_
      refine J.seq ?_
      refine J.region ?_
      refine L.va rfl ((by first | exact X.index1n rfl rfl Try.underlying23 sz_29 (by first | exact Option.some_ne_none _ | exact hr2.some_ (by omega) | exact own_ne h3 (by omega) | exact own_ne h4 (by omega)) (by omega) | exact X.index1 rfl rfl Try.underlying23 sz_29 (by first | exact Option.some_ne_none _ | exact hr2.some_ (by omega) | exact own_ne h3 (by omega) | exact own_ne h4 (by omega)) (by omega))) ?_
      refine L.va rfl (X.load rfl sc_29 (by first | exact Ld.num hr2 (by omega) | exact Ld.own h3 (by omega) | exact Ld.own h4 (by omega))) ?_
      refine L.va rfl (X.assign (by conv => lhs; whnf)) ?_
      refine L.nil ?_
      -- until
      rw [hz]
      refine J.seq ?_
      -- draw
      refine J.quiet mixed (by kernel_rfl) ?_
      refine Qt.va rfl (fun w' hw => X.move (by conv => lhs; whnf)) ?_
      refine Qt.va rfl (fun w' hw => X.move (by conv => lhs; whnf)) ?_
      refine Qt.va rfl (fun w' hw => (by first | exact X.index1n rfl rfl Try.underlying22 sz_2 (by first | exact Option.some_ne_none _ | exact hr2.some_ (by omega) | exact own_ne h3 (by omega) | exact own_ne h4 (by omega)) (by omega) | exact X.index1 rfl rfl Try.underlying22 sz_2 (by first | exact Option.some_ne_none _ | exact hr2.some_ (by omega) | exact own_ne h3 (by omega) | exact own_ne h4 (by omega)) (by omega))) ?_
      refine Qt.va rfl (fun w' hw => X.load rfl sc_2 (by first | exact Ld.num (hr2.ext hw) (by omega) | exact Ld.own (h3.ext hw) (by omega) | exact Ld.own (h4.ext hw) (by omega))) ?_
      refine Qt.va rfl (fun w' hw => X.move (by conv => lhs; whnf)) ?_
      refine Qt.va rfl (fun w' hw => X.move (by conv => lhs; whnf)) ?_
      refine Qt.va rfl (fun w' hw => (by first | exact X.index1n rfl rfl Try.underlying22 sz_2 (by first | exact Option.some_ne_none _ | exact hr2.some_ (by omega) | exact own_ne h3 (by omega) | exact own_ne h4 (by omega)) (by omega) | exact X.index1 rfl rfl Try.underlying22 sz_2 (by first | exact Option.some_ne_none _ | exact hr2.some_ (by omega) | exact own_ne h3 (by omega) | exact own_ne h4 (by omega)) (by omega))) ?_
      refine Qt.va rfl (fun w' hw => X.load rfl sc_2 (by first | exact Ld.num (hr2.ext hw) (by omega) | exact Ld.own (h3.ext hw) (by omega) | exact Ld.own (h4.ext hw) (by omega))) ?_
      refine Qt.va rfl (fun w' hw => X.sub rfl rfl (by omega)) ?_
      refine Qt.va rfl (fun w' hw => X.assign (by conv => lhs; whnf)) ?_
      refine Qt.nil (fun w3 hq => ?_)
      replace hr2 := hr2.ext hq
      replace h3 := h3.ext hq
      replace h4 := h4.ext hq
      refine J.seq ?_
      refine J.region ?_
      refine L.va rfl (X.move (by conv => lhs; whnf)) ?_
      refine L.va rfl (X.gtr rfl rfl) ?_
      refine L.nil ?_
      -- cond
      replace h5 := grb_trans h5 (grown_ext hq)
      refine J.dec rfl (fun hgt => ?_) (fun hgt => ?_)
      · have hzz : ((i, z, p) : Nat × Int × List Int).2.1 = z := rfl
        rw [h2, stp, if_pos hgt] at hn
        dsimp only at hn
        refine J.seq ?_
        refine J.region ?_
        refine L.va rfl (X.move (by conv => lhs; whnf)) ?_
        refine L.va rfl (X.move (by conv => lhs; whnf)) ?_
        refine L.va rfl (X.add rfl rfl (by omega)) ?_
        refine L.va rfl (X.assign (by conv => lhs; whnf)) ?_
        refine L.nil ?_
        refine J.region ?_
        refine L.va rfl (X.move (by conv => lhs; whnf)) ?_
        refine L.va rfl (X.move (by conv => lhs; whnf)) ?_
        refine L.va rfl (X.move (by conv => lhs; whnf)) ?_
        refine L.va rfl (X.move (by conv => lhs; whnf)) ?_
        refine L.va rfl ((by first | exact X.index1n rfl rfl Try.underlying22 sz_2 (by first | exact Option.some_ne_none _ | exact hr2.some_ (by omega) | exact own_ne h3 (by omega) | exact own_ne h4 (by omega)) (by omega) | exact X.index1 rfl rfl Try.underlying22 sz_2 (by first | exact Option.some_ne_none _ | exact hr2.some_ (by omega) | exact own_ne h3 (by omega) | exact own_ne h4 (by omega)) (by omega))) ?_
        refine L.va rfl (X.load rfl sc_2 (by first | exact Ld.num hr2 (by omega) | exact Ld.own h3 (by omega) | exact Ld.own h4 (by omega))) ?_
        refine L.va rfl ((by first | exact X.index1n rfl rfl Try.underlying22 sz_2 (by first | exact Option.some_ne_none _ | exact hr2.some_ (by omega) | exact own_ne h3 (by omega) | exact own_ne h4 (by omega)) (by omega) | exact X.index1 rfl rfl Try.underlying22 sz_2 (by first | exact Option.some_ne_none _ | exact hr2.some_ (by omega) | exact own_ne h3 (by omega) | exact own_ne h4 (by omega)) (by omega))) ?_
        -- store
        -- store
        refine L.storeON rfl rfl (by conv => lhs; whnf) sz_2 (h3) (by omega) ?_
        intro w3 ho3 hg3 hb3 hs3
        have h4' := h4.kept hg3 (own_later ho h4)
        have h5' := grb_trans h5 hg3
        refine L.nil ?_
        refine J.region ?_
        refine L.va rfl (X.add rfl rfl (by omega)) ?_
        refine L.va rfl (X.move (by conv => lhs; whnf)) ?_
        refine L.nil ?_
        -- loopend
        refine ⟨(i + 1, z + (p.getD m 0 - ss.getD v 0), p.set m (ss.getD v 0)), At2 (by first | rfl | exact at_int rfl (by omega) | exact at_slice rfl (by omega) | exact at_int rfl (by simp)) (by first | rfl | exact at_int rfl (by omega) | exact at_slice rfl (by omega) | exact at_int rfl (by simp)), (by (iterate 29 refine Agr.lk rfl ?_); exact Agr.lk rfl (Agr.hav rfl Agr.rfl')), ?_⟩
        exact ⟨⟨by dsimp only; omega, hn, ho3, h4', h5'⟩, by dsimp only; omega⟩
      · rw [h2, stp, if_neg hgt] at hn
        refine J.skip ?_
        refine J.region ?_
        refine L.va rfl (X.add rfl rfl (by omega)) ?_
        refine L.va rfl (X.move (by conv => lhs; whnf)) ?_
        refine L.nil ?_
        -- loopend
        refine ⟨(i + 1, z, p), At2 (by first | rfl | exact at_int rfl (by omega) | exact at_slice rfl (by omega) | exact at_int rfl (by simp)) (by first | rfl | exact at_int rfl (by omega) | exact at_slice rfl (by omega) | exact at_int rfl (by simp)), (by (iterate 18 refine Agr.lk rfl ?_); exact Agr.lk rfl (Agr.hav rfl Agr.rfl')), ?_⟩
        exact ⟨⟨by dsimp only; omega, hn, h3, h4, h5⟩, by dsimp only; omega⟩
    · obtain rfl : i = (subs v).length := by omega
      rw [pl_all] at h2
      refine J.exit ?_
      refine J.seq ?_
      refine J.region ?_
      refine L.va rfl (X.move (by conv => lhs; whnf)) ?_
      refine L.va rfl (X.assign (by conv => lhs; whnf)) ?_
      refine L.nil ?_
      -- ret
      refine J.ret ?_
      refine fin1 ?_
      rw [h2]
      exact ⟨rfl, h3, h5, hb2⟩
theorem advworth_any (A : Option Addr) (q c : Nat) (B : Option Addr) (cB : Nat) (out ss : List Int) (v : Nat) (w : World) (ho : Reads w w.heap.size 1 A q (nums .i64 out))
    (hr : Reads w w.heap.size 1 B q (nums .i64 ss)) (hq : q ≤ 64) (hv : v < q) (hO : Ok out) (hS : Ok ss) :
    Calls Try.prog 68 #[.slice A q c, .slice B q cB, .int .u32 (v : Int)] w fun e w' => e = .returned (.int .i64 (wth ss out v)) ∧ Ext w w' := by
  refine enter Try.func68 rfl (by kernel_rfl) ?_
  refine J.seq ?_
  refine J.region ?_
  refine L.va rfl (X.assign (by conv => lhs; whnf)) ?_
  refine L.nil ?_
  refine J.seq ?_
  refine J.region ?_
  refine L.va rfl (X.move (by conv => lhs; whnf)) ?_
  -- append
  refine L.appendQ (q := q) (ys := out) rfl rfl rfl Try.underlying22 el_2 (own_nilN _ w.heap.size _ _) (ho) (by omega) (by simp) (by unfold maxLen; omega) (by omega) ?_
  intro A1 c1 w1 ho1 hg1 hb1 hor1
  have hz1 := hb1.size
  refine L.va rfl (X.move (by conv => lhs; whnf)) ?_
  refine L.va rfl (X.move (by conv => lhs; whnf)) ?_
  -- callfn bushel/advise.lay
  refine L.call rfl en_66 rfl (advlay_any w.heap.size A1 q c1 B cB out ss v _ ho1 (by omega) (hr.low hb1 (Nat.le_refl _)) hq hv hO hS) ?_
  rintro e w2 ⟨rfl, ho2, hg2, hb2⟩
  refine ⟨_, rfl, ?_⟩
  refine L.va rfl (X.assign (by conv => lhs; whnf)) ?_
  refine L.nil ?_
  -- ret
  refine J.ret ?_
  refine fin1 ?_
  exact ⟨rfl, Below.trans hb1 hb2⟩
end Go.Proofs.Ytkipdkkpifnboaa
