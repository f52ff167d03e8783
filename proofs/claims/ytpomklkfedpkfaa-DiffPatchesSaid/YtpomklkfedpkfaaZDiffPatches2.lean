import Derived.Test.YtpomklkfedpkfaaZDiffPatches1
/-
  What the law leans on, part 2: WCelF, WDiffA, WDiffB, WCelB, WCelK, DifPlain, WCelG, WCelL, WCelJ, PatPlain, WPatA, WCelI, CelIn, WPatB.
-/
namespace Go.Proofs.Ytpomklkfedpkfaa
set_option maxRecDepth 100000
open Go.RowKit H
set_option linter.unusedVariables false
structure Ce.Lt (x : Ce) : Prop where
  i : x.ni ≤ 10
  r : x.nr ≤ 10
  li : ∀ y ∈ x.is, y.n ≤ 20
  lr : ∀ y ∈ x.rs, y.n ≤ 300
theorem rlight14 {x : Ce} {w : World} {N : Nat} (hx : x.At N w) (hN : N ≤ w.heap.size) : Calls Try.prog 19 #[x.val] w fun e w' => Ext w w' ∧ ∃ z : Bool, e = .returned (.bool z) ∧ (z = true → x.Lt) := by
  have lxi := hx.li
  have lxr := hx.lr
  have mi := hx.mi
  have mr := hx.mr
  unfold maxLen at mi mr
  refine enter Try.func19 rfl (by kernel_rfl) ?_
  refine J.seq ?_
  refine J.region ?_
  refine L.boxA (l := [_, _, _, _]) rfl rfl ?_
  intro b1 w1 hb1 hs1 hk1 he1
  have hra := hx.i.ext he1
  have hrb := hx.r.ext he1
  refine L.va rfl (X.assign (by conv => lhs; whnf)) ?_
  refine L.nil ?_
  refine J.seq ?_
  refine J.seq ?_
  refine J.region ?_
  refine L.va rfl (X.fieldAddr rfl Try.underlying61 rfl sz_58 (by decide)) ?_
  refine L.va rfl (X.load rfl sc_58 (by first | exact Ld.blk hk1 rfl)) ?_
  refine L.va rfl (X.len rfl Try.underlying58) ?_
  refine L.va rfl (X.gtr rfl rfl) ?_
  refine L.va rfl (X.move (by conv => lhs; whnf)) ?_
  refine L.caseDec (k := 9) rfl (fun h1 => ?_) (fun h1 => ?_)
  · refine L.no rfl ?_
    refine L.no rfl ?_
    refine L.no rfl ?_
    refine L.no rfl ?_
    refine L.va rfl (X.pickT rfl (by conv => lhs; whnf)) ?_
    refine L.nil ?_
    refine J.iteT rfl ?_
    refine J.seq ?_
    refine J.region ?_
    refine L.va rfl (X.assign (by conv => lhs; whnf)) ?_
    refine L.nil ?_
    refine J.ret ?_
    refine thn_ret <| ?_
    refine fin1 ?_
    exact ⟨he1, _, rfl, fun h => by cases h⟩
  · refine L.va rfl (X.fieldAddr rfl Try.underlying61 rfl sz_59 (by decide)) ?_
    refine L.va rfl (X.load rfl sc_59 (by first | exact Ld.blk hk1 rfl)) ?_
    refine L.va rfl (X.len rfl Try.underlying59) ?_
    refine L.va rfl (X.gtr rfl rfl) ?_
    refine L.va rfl (X.pickF rfl (by conv => lhs; whnf)) ?_
    refine L.nil ?_
    refine J.dec rfl (fun h2 => ?_) (fun h2 => ?_)
    · refine J.seq ?_
      refine J.region ?_
      refine L.va rfl (X.assign (by conv => lhs; whnf)) ?_
      refine L.nil ?_
      refine J.ret ?_
      refine thn_ret <| ?_
      refine fin1 ?_
      exact ⟨he1, _, rfl, fun h => by cases h⟩
    · refine J.skip ?_
      refine J.cut (X := Unit) [2, 3, 15, 16, 17, 18, 19, 20, 21, 22, 23, 24, 25, 26, 27, 28, 29] (fun _ => []) (fun _ w' => (∀ y ∈ x.is, y.n ≤ 20) ∧ w1 = w') ?_ ?_
      · refine J.seq ?_
        refine J.region ?_
        refine L.va rfl (X.assign (by conv => lhs; whnf)) ?_
        refine L.nil ?_
        refine J.block ?_
        refine J.loop (X := Nat) [2, 3, 15, 16, 17, 18, 19, 20, 21, 22, 23, 24, 25, 26, 27, 28, 29] (fun i => [(3, .int .i64 (i : Int))]) (fun i w' => i ≤ x.ni ∧ (∀ j, j < i → (x.is.getD j wh0).n ≤ 20) ∧ w1 = w') (fun i => x.ni - i) (0) (At1 (by first | rfl | exact at_int rfl (by omega) | exact at_slice rfl (by omega) | exact at_int rfl (by simp))) ?_ ?_
        · exact ⟨Nat.zero_le _, fun j hj => absurd hj (by omega), rfl⟩
        · rintro i g w2 ⟨hi, hP, rfl⟩
          refine J.seq ?_
          refine J.seq ?_
          refine J.region ?_
          refine L.va rfl (X.move (by conv => lhs; whnf)) ?_
          refine L.va rfl (X.fieldAddr rfl Try.underlying61 rfl sz_58 (by decide)) ?_
          refine L.va rfl (X.load rfl sc_58 (by first | exact Ld.blk hk1 rfl)) ?_
          refine L.va rfl (X.len rfl Try.underlying58) ?_
          refine L.va rfl (X.lss rfl rfl) ?_
          refine L.nil ?_
          refine J.dec rfl (fun hlt => ?_) (fun hlt => ?_)
          · have hA := hra.some_ (by omega)
            have gx := gtW (l := x.is) (i := i) (by omega)
            refine J.skip ?_
            refine J.seq ?_
            refine J.block ?_
            refine J.seq ?_
            refine J.region ?_
            refine L.va rfl (X.fieldAddr rfl Try.underlying61 rfl sz_58 (by decide)) ?_
            refine L.va rfl (X.load rfl sc_58 (by first | exact Ld.blk hk1 rfl | exact hA | exact Ld.flat2 wh_len hra gx (r := 2) rfl)) ?_
            refine L.va rfl (X.move (by conv => lhs; whnf)) ?_
            refine L.va rfl ((by first | exact X.indexAddrn rfl rfl Try.underlying58 sz_90 (by first | exact Option.some_ne_none _ | exact hA) (by omega) | exact X.indexAddr rfl rfl Try.underlying58 sz_90 (by first | exact Option.some_ne_none _ | exact hA) (by omega))) ?_
            refine L.va rfl (X.fieldP rfl Try.underlying90 rfl sz_45 (by decide) (by first | exact Option.some_ne_none _ | exact hA)) ?_
            refine L.va rfl (X.load rfl sc_45 (by first | exact Ld.blk hk1 rfl | exact hA | exact Ld.flat2 wh_len hra gx (r := 2) rfl)) ?_
            refine L.va rfl (X.len rfl Try.underlying45) ?_
            refine L.va rfl (X.gtr rfl rfl) ?_
            refine L.nil ?_
            refine J.dec rfl (fun h3 => ?_) (fun h3 => ?_)
            · refine J.seq ?_
              refine J.region ?_
              refine L.va rfl (X.assign (by conv => lhs; whnf)) ?_
              refine L.nil ?_
              refine J.ret ?_
              refine inB_ret <|  thn_ret <|  thn_ret <|  inB_ret <|  thn_ret <| ?_
              refine fin1 ?_
              exact ⟨he1, _, rfl, fun h => by cases h⟩
            · refine J.skip ?_
              refine J.region ?_
              refine L.va rfl (X.move (by conv => lhs; whnf)) ?_
              refine L.va rfl (X.add rfl rfl (by omega)) ?_
              refine L.va rfl (X.assign (by conv => lhs; whnf)) ?_
              refine L.nil ?_
              refine ⟨i + 1, At1 (by first | rfl | exact at_int rfl (by omega) | exact at_slice rfl (by omega) | exact at_int rfl (by simp)), (by (iterate 16 refine Agr.lk rfl ?_); exact Agr.lk rfl (Agr.hav rfl Agr.rfl')), ?_⟩
              refine ⟨⟨by omega, fun j hj => ?_, rfl⟩, by omega⟩
              rcases Nat.lt_or_ge j i with h | h
              · exact hP j h
              · obtain rfl : j = i := by omega
                omega
          · refine J.exit ?_
            refine ⟨(), At0 , (by (iterate 5 refine Agr.lk rfl ?_); refine Agr.lk rfl ?_; refine Agr.hav rfl ?_; (iterate 1 refine Agr.lk rfl ?_); exact Agr.rfl'), ?_⟩
            refine ⟨fun y hy => ?_, rfl⟩
            obtain ⟨j, hj, rfl⟩ := List.getElem_of_mem hy
            have := hP j (by omega)
            rwa [List.getD, List.getElem?_eq_getElem hj] at this
      · rintro _ g w2 ⟨hI, rfl⟩
        refine J.seq ?_
        refine J.seq ?_
        refine J.region ?_
        refine L.va rfl (X.assign (by conv => lhs; whnf)) ?_
        refine L.nil ?_
        refine J.block ?_
        refine J.loop (X := Nat) [2, 4, 30, 31, 32, 33, 34, 35, 36, 37, 38, 39, 40, 41, 42, 43, 44] (fun i => [(4, .int .i64 (i : Int))]) (fun i w' => i ≤ x.nr ∧ (∀ j, j < i → (x.rs.getD j re0).n ≤ 300) ∧ w1 = w') (fun i => x.nr - i) (0) (At1 (by first | rfl | exact at_int rfl (by omega) | exact at_slice rfl (by omega) | exact at_int rfl (by simp))) ?_ ?_
        · exact ⟨Nat.zero_le _, fun j hj => absurd hj (by omega), rfl⟩
        · rintro i g w2 ⟨hi, hP, rfl⟩
          refine J.seq ?_
          refine J.seq ?_
          refine J.region ?_
          refine L.va rfl (X.move (by conv => lhs; whnf)) ?_
          refine L.va rfl (X.fieldAddr rfl Try.underlying61 rfl sz_59 (by decide)) ?_
          refine L.va rfl (X.load rfl sc_59 (by first | exact Ld.blk hk1 rfl)) ?_
          refine L.va rfl (X.len rfl Try.underlying59) ?_
          refine L.va rfl (X.lss rfl rfl) ?_
          refine L.nil ?_
          refine J.dec rfl (fun hlt => ?_) (fun hlt => ?_)
          · have hA := hrb.some_ (by omega)
            have gx := gtR (l := x.rs) (i := i) (by omega)
            have h0 := Ld.flat2 re_len hrb gx (r := 0) rfl
            rw [Nat.add_zero] at h0
            refine J.skip ?_
            refine J.seq ?_
            refine J.block ?_
            refine J.seq ?_
            refine J.region ?_
            refine L.va rfl (X.fieldAddr rfl Try.underlying61 rfl sz_59 (by decide)) ?_
            refine L.va rfl (X.load rfl sc_59 (by first | exact Ld.blk hk1 rfl | exact hA | exact h0 | exact Ld.flat2 re_len hrb gx (r := 0) rfl)) ?_
            refine L.va rfl (X.move (by conv => lhs; whnf)) ?_
            refine L.va rfl ((by first | exact X.indexAddrn rfl rfl Try.underlying59 sz_94 (by first | exact Option.some_ne_none _ | exact hA | exact h0) (by omega) | exact X.indexAddr rfl rfl Try.underlying59 sz_94 (by first | exact Option.some_ne_none _ | exact hA | exact h0) (by omega))) ?_
            refine L.va rfl (X.fieldP rfl Try.underlying94 rfl sz_91 (by decide) (by first | exact Option.some_ne_none _ | exact hA | exact h0)) ?_
            refine L.va rfl (X.load rfl sc_91 (by first | exact Ld.blk hk1 rfl | exact hA | exact h0 | exact Ld.flat2 re_len hrb gx (r := 0) rfl)) ?_
            refine L.va rfl (X.len rfl Try.underlying91) ?_
            refine L.va rfl (X.gtr rfl rfl) ?_
            refine L.nil ?_
            refine J.dec rfl (fun h3 => ?_) (fun h3 => ?_)
            · refine J.seq ?_
              refine J.region ?_
              refine L.va rfl (X.assign (by conv => lhs; whnf)) ?_
              refine L.nil ?_
              refine J.ret ?_
              refine inB_ret <|  thn_ret <|  thn_ret <|  inB_ret <|  thn_ret <| ?_
              refine fin1 ?_
              exact ⟨he1, _, rfl, fun h => by cases h⟩
            · refine J.skip ?_
              refine J.region ?_
              refine L.va rfl (X.move (by conv => lhs; whnf)) ?_
              refine L.va rfl (X.add rfl rfl (by omega)) ?_
              refine L.va rfl (X.assign (by conv => lhs; whnf)) ?_
              refine L.nil ?_
              refine ⟨i + 1, At1 (by first | rfl | exact at_int rfl (by omega) | exact at_slice rfl (by omega) | exact at_int rfl (by simp)), (by (iterate 16 refine Agr.lk rfl ?_); exact Agr.lk rfl (Agr.hav rfl Agr.rfl')), ?_⟩
              refine ⟨⟨by omega, fun j hj => ?_, rfl⟩, by omega⟩
              rcases Nat.lt_or_ge j i with h | h
              · exact hP j h
              · obtain rfl : j = i := by omega
                omega
          · refine J.exit ?_
            refine J.seq ?_
            refine J.region ?_
            refine L.va rfl (X.assign (by conv => lhs; whnf)) ?_
            refine L.nil ?_
            refine J.ret ?_
            refine fin1 ?_
            refine ⟨he1, _, rfl, fun _ => ⟨by omega, by omega, hI, fun y hy => ?_⟩⟩
            obtain ⟨j, hj, rfl⟩ := List.getElem_of_mem hy
            have := hP j (by omega)
            rwa [List.getD, List.getElem?_eq_getElem hj] at this
theorem rlight15 {s : Ces} {w : World} {N : Nat} (hs : s.At N w) (hN : N ≤ w.heap.size) : Calls Try.prog 6 #[s.val] w fun e w' => Ext w w' ∧ ∃ z : Bool, e = .returned (.bool z) ∧ (z = true → s.n ≤ 60 ∧ ∀ x ∈ s.l, x.Lt) := by
  have ls := hs.l
  have ms := hs.m
  unfold maxLen at ms
  refine enter Try.func6 rfl (by kernel_rfl) ?_
  refine J.seq ?_
  refine J.region ?_
  refine L.va rfl (X.assign (by conv => lhs; whnf)) ?_
  refine L.nil ?_
  refine J.seq ?_
  refine J.seq ?_
  refine J.region ?_
  refine L.va rfl (X.move (by conv => lhs; whnf)) ?_
  refine L.va rfl (X.len rfl Try.underlying22) ?_
  refine L.va rfl (X.gtr rfl rfl) ?_
  refine L.nil ?_
  refine J.dec rfl (fun h1 => ?_) (fun h1 => ?_)
  · refine J.seq ?_
    refine J.region ?_
    refine L.va rfl (X.assign (by conv => lhs; whnf)) ?_
    refine L.nil ?_
    refine J.ret ?_
    refine thn_ret <| ?_
    refine fin1 ?_
    exact ⟨Ext.refl _, _, rfl, fun h => by cases h⟩
  · refine J.skip ?_
    refine J.seq ?_
    refine J.seq ?_
    refine J.region ?_
    refine L.va rfl (X.assign (by conv => lhs; whnf)) ?_
    refine L.nil ?_
    refine J.block ?_
    refine J.loop (X := Nat) [2, 3, 7, 8, 9, 10, 11, 12, 13, 14, 15, 16, 17, 18] (fun i => [(3, .int .i64 (i : Int))]) (fun i w' => i ≤ s.n ∧ (∀ j, j < i → (s.l.getD j ce0).Lt) ∧ Ext w w') (fun i => s.n - i) (0) (At1 (by first | rfl | exact at_int rfl (by omega) | exact at_slice rfl (by omega) | exact at_int rfl (by simp))) ?_ ?_
    · exact ⟨Nat.zero_le _, fun j hj => absurd hj (by omega), Ext.refl _⟩
    · rintro i g w2 ⟨hi, hP, he⟩
      have z := he.le
      have hr2 := hs.r.ext he
      refine J.seq ?_
      refine J.seq ?_
      refine J.region ?_
      refine L.va rfl (X.move (by conv => lhs; whnf)) ?_
      refine L.va rfl (X.move (by conv => lhs; whnf)) ?_
      refine L.va rfl (X.len rfl Try.underlying22) ?_
      refine L.va rfl (X.lss rfl rfl) ?_
      refine L.nil ?_
      refine J.dec rfl (fun hlt => ?_) (fun hlt => ?_)
      · have hA := hr2.some_ (by omega)
        have gi := gtX (l := s.l) (i := i) (by omega)
        have hX := (hs.one (i := i) (by omega)).ext he
        generalize ex : s.l.getD i ce0 = p at gi hX
        refine J.skip ?_
        refine J.seq ?_
        refine J.block ?_
        refine J.seq ?_
        refine J.region ?_
        refine L.va rfl (X.move (by conv => lhs; whnf)) ?_
        refine L.va rfl (X.move (by conv => lhs; whnf)) ?_
        refine L.va rfl ((by first | exact X.indexAddrn rfl rfl Try.underlying22 sz_61 (by first | exact Option.some_ne_none _ | exact hA) (by omega) | exact X.indexAddr rfl rfl Try.underlying22 sz_61 (by first | exact Option.some_ne_none _ | exact hA) (by omega))) ?_
        refine L.va rfl (X.loadRow (cs := p.vs) rfl hr2 (fun r u hu => flat_row ce_len gi r u hu) (Nat.zero_lt_succ _) Try.underlying61 rfl (by kernel_rfl)) ?_
        refine L.call rfl en_19 rfl (rlight14 hX (by omega)) ?_
        rintro e w3 ⟨he3, z, rfl, hz⟩
        refine ⟨_, rfl, ?_⟩
        have he03 := he.trans he3
        refine L.va rfl (X.not rfl) ?_
        refine L.nil ?_
        cases z
        · refine J.iteT rfl ?_
          refine J.seq ?_
          refine J.region ?_
          refine L.va rfl (X.assign (by conv => lhs; whnf)) ?_
          refine L.nil ?_
          refine J.ret ?_
          refine inB_ret <|  thn_ret <|  thn_ret <|  inB_ret <|  thn_ret <| ?_
          refine fin1 ?_
          exact ⟨he03, _, rfl, fun h => by cases h⟩
        · refine J.iteF rfl ?_
          refine J.skip ?_
          refine J.region ?_
          refine L.va rfl (X.move (by conv => lhs; whnf)) ?_
          refine L.va rfl (X.add rfl rfl (by omega)) ?_
          refine L.va rfl (X.assign (by conv => lhs; whnf)) ?_
          refine L.nil ?_
          refine ⟨i + 1, At1 (by first | rfl | exact at_int rfl (by omega) | exact at_slice rfl (by omega) | exact at_int rfl (by simp)), (by (iterate 13 refine Agr.lk rfl ?_); exact Agr.lk rfl (Agr.hav rfl Agr.rfl')), ?_⟩
          refine ⟨⟨by omega, fun j hj => ?_, he03⟩, by omega⟩
          rcases Nat.lt_or_ge j i with h | h
          · exact hP j h
          · obtain rfl : j = i := by omega
            rw [ex]
            exact hz rfl
      · refine J.exit ?_
        refine J.seq ?_
        refine J.region ?_
        refine L.va rfl (X.assign (by conv => lhs; whnf)) ?_
        refine L.nil ?_
        refine J.ret ?_
        refine fin1 ?_
        refine ⟨he, _, rfl, fun _ => ⟨by omega, fun x hx => ?_⟩⟩
        obtain ⟨j, hj, rfl⟩ := List.getElem_of_mem hx
        have := hP j (by omega)
        rwa [List.getD, List.getElem?_eq_getElem hj] at this
end Go.Proofs.Ytpomklkfedpkfaa
namespace Go.Proofs.Ytpomklkfedpkfaa
set_option maxRecDepth 100000
open Go.RowKit H
set_option linter.unusedVariables false
abbrev Ce.key (x : Ce) : Int := (x.k : Int)
abbrev Ce.vals (x : Ce) : List Value := x.vs
abbrev Ce.v (x : Ce) : Value := x.val
def rise (l : List Ce) : Bool := (List.range (l.length - 1)).all fun i => decide ((l.getD i ce0).key < (l.getD (i + 1) ce0).key)
theorem rise_at {l : List Ce} : rise l = true ↔ ∀ i, i + 1 < l.length → (l.getD i ce0).key < (l.getD (i + 1) ce0).key := by
  unfold rise
  rw [List.all_eq_true]
  constructor
  · intro h i hi
    exact of_decide_eq_true (h i (List.mem_range.2 (by omega)))
  · intro h i hi
    have := List.mem_range.1 hi
    exact decide_eq_true (h i (by omega))
def mergeD (sm : Ce → Ce → Bool) : List Ce → List Ce → List (Int × Int)
  | [], [] => []
  | x :: a, [] => (x.key, 1) :: mergeD sm a []
  | [], y :: b => (y.key, 2) :: mergeD sm [] b
  | x :: a, y :: b => if x.key < y.key then (x.key, 1) :: mergeD sm a (y :: b) else if y.key < x.key then (y.key, 2) :: mergeD sm (x :: a) b else (if sm x y = true then [] else [(x.key, 3)]) ++ mergeD sm a b
  termination_by a b => a.length + b.length
abbrev chV (p : Int × Int) : List Value := [.int .u64 p.1, .int .i64 p.2]
theorem ch_len (p : Int × Int) : (chV p).length = 2 := rfl
theorem ofcell {w : World} (x : Ce) : Calls Try.prog 21 #[x.v] w fun e w' => e = .returned (.int .u64 x.key) ∧ Ext w w' := by
  refine enter Try.func21 rfl (by kernel_rfl) ?_
  refine J.seq ?_
  refine J.region ?_
  refine L.boxA (l := [_, _, _, _]) rfl rfl ?_
  intro b1 w1 hb1 hs1 hk1 he1
  refine L.va rfl (X.assign (by conv => lhs; whnf)) ?_
  refine L.nil ?_
  refine J.seq ?_
  refine J.region ?_
  refine L.va rfl (X.fieldAddr rfl Try.underlying61 rfl sz_36 (by decide)) ?_
  refine L.va rfl (X.load rfl sc_36 (by first | exact Ld.blk hk1 rfl)) ?_
  refine L.va rfl (X.assign (by conv => lhs; whnf)) ?_
  refine L.nil ?_
  refine J.ret ?_
  refine fin1 ?_
  exact ⟨rfl, he1⟩
theorem rising_ {w : World} {N : Nat} (A : Option Addr) (c : Nat) (l : List Ce) (hr : Reads w N 4 A l.length (l.flatMap Ce.vals)) (hN : N ≤ w.heap.size) (hm : l.length ≤ 1000000) : Calls Try.prog 20 #[.slice A l.length c, .func (.func 21) #[] #[]] w fun e w' => e = .returned (.bool (rise l)) ∧ Ext w w' := by
  refine enter Try.func20 rfl (by kernel_rfl) ?_
  refine J.seq ?_
  refine J.region ?_
  refine L.va rfl (X.assign (by conv => lhs; whnf)) ?_
  refine L.nil ?_
  refine J.seq ?_
  refine J.seq ?_
  refine J.region ?_
  refine L.va rfl (X.assign (by conv => lhs; whnf)) ?_
  refine L.nil ?_
  refine J.block ?_
  refine J.loop (X := Nat) [4, 5, 6, 7, 8, 9, 10, 11, 12, 13, 14, 15, 16, 17, 18, 19, 20, 21, 22, 23, 24, 25] (fun i => [(5, .int .i64 (i : Int))]) (fun i w' => 1 ≤ i ∧ (i ≤ l.length ∨ l.length = 0 ∧ i = 1) ∧ Ext w w' ∧ ∀ j, j + 1 < i → (l.getD j ce0).key < (l.getD (j + 1) ce0).key) (fun i => l.length + 1 - i) (1) (At1 (by first | rfl | exact at_int rfl (by omega) | exact at_slice rfl (by omega) | exact at_int rfl (by simp))) ?_ ?_
  · exact ⟨by omega, by omega, Ext.refl _, fun j hj => by omega⟩
  · rintro i g w2 ⟨h1, hi, he, hall⟩
    have hr2 := hr.low (Below.mono he hN) (Nat.le_refl _)
    have z := he.le
    refine J.seq ?_
    refine J.seq ?_
    refine J.region ?_
    refine L.va rfl (X.move (by conv => lhs; whnf)) ?_
    refine L.va rfl (X.move (by conv => lhs; whnf)) ?_
    refine L.va rfl (X.len rfl Try.underlying22) ?_
    refine L.va rfl (X.lss rfl rfl) ?_
    refine L.nil ?_
    refine J.dec rfl (fun hlt => ?_) (fun hlt => ?_)
    · have hil : i < l.length := by omega
      have hA := hr2.some_ (by omega)
      have gi : l[i]? = some (l.getD i ce0) := by simp [List.getD, hil]
      obtain ⟨j, rfl⟩ : ∃ j, i = j + 1 := ⟨i - 1, by omega⟩
      have gj : l[j]? = some (l.getD j ce0) := by simp [List.getD, show j < l.length by omega]
      have hrow1 := fun (w' : World) (hw : Ext w2 w') => hr2.low (Below.mono hw (by omega)) (Nat.le_refl _)
      generalize hx : l.getD (j + 1) ce0 = x at *
      generalize hy : l.getD j ce0 = y at *
      refine J.skip ?_
      refine J.seq ?_
      refine J.block ?_
      refine J.seq ?_
      refine J.quiet mixed (by kernel_rfl) ?_
      refine Qt.va rfl (fun w' hw => X.move (by conv => lhs; whnf)) ?_
      refine Qt.va rfl (fun w' hw => X.move (by conv => lhs; whnf)) ?_
      refine Qt.va rfl (fun w' hw => X.move (by conv => lhs; whnf)) ?_
      refine Qt.va rfl (fun w' hw => (by first | exact X.indexAddrn rfl rfl Try.underlying22 sz_61 (by first | exact Option.some_ne_none _ | exact hA) (by omega) | exact X.indexAddr rfl rfl Try.underlying22 sz_61 (by first | exact Option.some_ne_none _ | exact hA) (by omega))) ?_
      refine Qt.va rfl (fun w' hw => X.loadRow (cs := x.vals) rfl (hrow1 w' hw) (fun r u hu => flat_row ce_len gi r u hu) (Nat.zero_lt_succ _) Try.underlying61 rfl (by kernel_rfl)) ?_
      refine Qt.callV rfl en_21 rfl rfl (fun w' hw => calls_ext hw (ofcell x)) ?_
      refine Qt.va rfl (fun w' hw => X.move (by conv => lhs; whnf)) ?_
      refine Qt.va rfl (fun w' hw => X.move (by conv => lhs; whnf)) ?_
      refine Qt.va rfl (fun w' hw => X.move (by conv => lhs; whnf)) ?_
      refine Qt.va rfl (fun w' hw => X.sub rfl rfl (by omega)) ?_
      refine Qt.va rfl (fun w' hw => X.indexAddrn (j := j) rfl (show Value.int .i64 (((j + 1 : Nat) : Int) - 1) = _ by rw [show (((j + 1 : Nat) : Int) - 1) = (j : Int) by omega]) Try.underlying22 sz_61 hA (by omega)) ?_
      refine Qt.va rfl (fun w' hw => X.loadRow (cs := y.vals) rfl (hrow1 w' hw) (fun r u hu => flat_row ce_len gj r u hu) (Nat.zero_lt_succ _) Try.underlying61 rfl (by kernel_rfl)) ?_
      refine Qt.callV rfl en_21 rfl rfl (fun w' hw => calls_ext hw (ofcell y)) ?_
      refine Qt.va rfl (fun w' hw => X.leq rfl rfl) ?_
      refine Qt.nil (fun w3 hq => ?_)
      have he3 := he.trans hq
      refine J.dec rfl (fun hle => ?_) (fun hle => ?_)
      · have e : rise l = false := by
          rw [← Bool.not_eq_true, rise_at]
          intro h
          have := h j hil
          rw [hx, hy] at this
          omega
        rw [e]
        refine J.seq ?_
        refine J.region ?_
        refine L.va rfl (X.assign (by conv => lhs; whnf)) ?_
        refine L.nil ?_
        refine J.ret ?_
        refine inB_ret <|  thn_ret <|  thn_ret <|  inB_ret <|  thn_ret <| ?_
        refine fin1 ?_
        exact ⟨rfl, he3⟩
      · refine J.skip ?_
        refine J.region ?_
        refine L.va rfl (X.move (by conv => lhs; whnf)) ?_
        refine L.va rfl (X.add rfl rfl (by omega)) ?_
        refine L.va rfl (X.assign (by conv => lhs; whnf)) ?_
        refine L.nil ?_
        refine ⟨(j + 1) + 1, At1 (by first | rfl | exact at_int rfl (by omega) | exact at_slice rfl (by omega) | exact at_int rfl (by simp)), (by (iterate 21 refine Agr.lk rfl ?_); exact Agr.lk rfl (Agr.hav rfl Agr.rfl')), ?_⟩
        refine ⟨⟨by omega, by omega, he3, fun k hk => ?_⟩, by omega⟩
        rcases Nat.lt_or_ge k j with h2 | h2
        · exact hall k (by omega)
        · obtain rfl : k = j := by omega
          rw [hx, hy]
          omega
    · have e : rise l = true := by
        rw [rise_at]
        intro j hj
        exact hall j (by omega)
      rw [e]
      refine J.exit ?_
      refine J.seq ?_
      refine J.region ?_
      refine L.va rfl (X.assign (by conv => lhs; whnf)) ?_
      refine L.nil ?_
      refine J.ret ?_
      refine fin1 ?_
      exact ⟨rfl, he⟩
theorem cells_ {w : World} {N : Nat} (hN : N ≤ w.heap.size) (sm : Ce → Ce → Bool) (A : Option Addr) (c : Nat) (la : List Ce) (hra : Reads w N 4 A la.length (la.flatMap Ce.vals)) (hca : la.length ≤ c) (B : Option Addr) (d : Nat) (lb : List Ce) (hrb : Reads w N 4 B lb.length (lb.flatMap Ce.vals)) (hcb : lb.length ≤ d) (hm : la.length ≤ 1000000 ∧ lb.length ≤ 1000000)
    (hsm : ∀ x ∈ la, ∀ y ∈ lb, ∀ w', Ext w w' → Calls Try.prog 22 #[x.v, y.v] w' fun e w'' => e = .returned (.bool (sm x y)) ∧ Ext w' w'') (hrs : rise la = true ∧ rise lb = true) :
    Calls Try.prog 8 #[.slice A la.length c, .slice B lb.length d] w fun e w' => ∃ oA oc, e = .returned (.tuple #[.slice oA (mergeD sm la lb).length oc, .int .i64 0]) ∧ w'.ownsRow w.heap.size 38 2 (.slice oA (mergeD sm la lb).length oc) (mergeD sm la lb).length ((mergeD sm la lb).flatMap chV) ∧ Ext w w' := by
  refine enter Try.func8 rfl (by kernel_rfl) ?_
  refine J.seq ?_
  refine J.region ?_
  refine L.va rfl (X.assign (by conv => lhs; whnf)) ?_
  refine L.va rfl (X.assign (by conv => lhs; whnf)) ?_
  refine L.nil ?_
  refine J.seq ?_
  refine J.seq ?_
  refine J.region ?_
  refine L.va rfl (X.move (by conv => lhs; whnf)) ?_
  have c1 := rising_ A c la hra hN hm.1
  rw [hrs.1] at c1
  refine L.call rfl en_20 rfl (c1) ?_
  rintro e w1 ⟨rfl, he1⟩
  refine ⟨_, rfl, ?_⟩
  have he1 : Ext w w1 := he1
  have c2 := rising_ (w := w1) B d lb (hrb.low (Below.mono he1 hN) (Nat.le_refl _)) (by have := he1.le; omega) hm.2
  rw [hrs.2] at c2
  refine L.va rfl (X.not rfl) ?_
  refine L.va rfl (X.move (by conv => lhs; whnf)) ?_
  refine L.caseBF (k := 10) rfl (by rfl) ?_
  refine L.va rfl (X.move (by conv => lhs; whnf)) ?_
  refine L.call rfl en_20 rfl (c2) ?_
  rintro e w2 ⟨rfl, he2⟩
  refine ⟨_, rfl, ?_⟩
  have he2 : Ext w1 w2 := he2
  refine L.va rfl (X.not rfl) ?_
  refine L.va rfl (X.pickF rfl (by conv => lhs; whnf)) ?_
  refine L.nil ?_
  refine J.iteF rfl ?_
  refine J.skip ?_
  refine J.seq ?_
  refine J.region ?_
  refine L.va rfl (X.assign (by conv => lhs; whnf)) ?_
  refine L.nil ?_
  refine J.seq ?_
  refine J.block ?_
  refine J.loop (X := (Option Addr × Nat × List Ce) × (Option Addr × Nat × List Ce) × (Option Addr × Nat × List (Int × Int))) [0, 1, 6, 15, 16, 17, 18, 19, 20, 21, 22, 23, 24, 25, 26, 27, 28, 29, 30, 31, 32, 33, 34, 35, 36, 37, 38, 39, 40, 41, 42, 43, 44, 45, 46, 47, 48, 49, 50, 51, 52, 53, 54, 55, 56, 57, 58, 59, 60, 61, 62, 63, 64, 65, 66, 67, 68, 69, 70, 71, 72, 73, 74, 75, 76, 77, 78, 79, 80, 81, 82, 83, 84, 85, 86, 87, 88, 89, 90, 91, 92, 93, 94, 95, 96, 97] (fun x => [(0, .slice x.1.1 x.1.2.2.length x.1.2.1), (1, .slice x.2.1.1 x.2.1.2.2.length x.2.1.2.1), (6, .slice x.2.2.1 x.2.2.2.2.length x.2.2.2.1)]) (fun x w' => Reads w' N 4 x.1.1 x.1.2.2.length (x.1.2.2.flatMap Ce.vals) ∧ x.1.2.2.length ≤ x.1.2.1 ∧ Reads w' N 4 x.2.1.1 x.2.1.2.2.length (x.2.1.2.2.flatMap Ce.vals) ∧ x.2.1.2.2.length ≤ x.2.1.2.1 ∧ (∀ y ∈ x.1.2.2, y ∈ la) ∧ (∀ y ∈ x.2.1.2.2, y ∈ lb) ∧ w'.ownsRow w.heap.size 38 2 (.slice x.2.2.1 x.2.2.2.2.length x.2.2.2.1) x.2.2.2.2.length (x.2.2.2.2.flatMap chV) ∧ Ext w w' ∧ x.2.2.2.2 ++ mergeD sm x.1.2.2 x.2.1.2.2 = mergeD sm la lb ∧ x.2.2.2.2.length + x.1.2.2.length + x.2.1.2.2.length ≤ 2000000) (fun x => x.1.2.2.length + x.2.1.2.2.length) (((A, c, la), (B, d, lb), (none, 0, []))) (At3 (by first | rfl | exact at_int rfl (by omega) | exact at_slice rfl (by omega) | exact at_int rfl (by simp)) (by first | rfl | exact at_int rfl (by omega) | exact at_slice rfl (by omega) | exact at_int rfl (by simp)) (by first | rfl | exact at_int rfl (by omega) | exact at_slice rfl (by omega) | exact at_int rfl (by simp))) ?_ ?_
  · have he := he1.trans he2
    exact ⟨hra.low (Below.mono he hN) (Nat.le_refl _), hca, hrb.low (Below.mono he hN) (Nat.le_refl _), hcb, fun y hy => hy, fun y hy => hy, own_nil _ _ _ _, he, rfl, by simp; omega⟩
  · rintro ⟨⟨A, c, a⟩, ⟨B, d, b⟩, ⟨oA, oc, out⟩⟩ g w3 ⟨hra, hca, hrb, hcb, ma, mb, ho, he, heq, hmx⟩
    dsimp only at hra hca hrb hcb ma mb ho heq hmx
    have z := he.le
    rcases a with _ | ⟨x, a⟩ <;> rcases b with _ | ⟨y, b⟩
    · refine J.seq ?_
      refine J.seq ?_
      refine J.region ?_
      refine L.va rfl (X.move (by conv => lhs; whnf)) ?_
      refine L.va rfl (X.len rfl Try.underlying22) ?_
      refine L.va rfl (X.gtr rfl rfl) ?_
      refine L.va rfl (X.move (by conv => lhs; whnf)) ?_
      refine L.caseDecF (k := 18) rfl (by simp) ?_
      refine L.va rfl (X.move (by conv => lhs; whnf)) ?_
      refine L.va rfl (X.len rfl Try.underlying22) ?_
      refine L.va rfl (X.gtr rfl rfl) ?_
      refine L.va rfl (X.pickF rfl (by conv => lhs; whnf)) ?_
      refine L.nil ?_
      refine J.decF rfl (by simp) ?_
      refine J.exit ?_
      refine J.seq ?_
      refine J.region ?_
      refine L.va rfl (X.move (by conv => lhs; whnf)) ?_
      refine L.va rfl (X.assign (by conv => lhs; whnf)) ?_
      refine L.va rfl (X.assign (by conv => lhs; whnf)) ?_
      refine L.nil ?_
      refine J.ret ?_
      refine fin2 ?_
      have e : out = mergeD sm la lb := by rw [← heq, mergeD, List.append_nil]
      rw [← e]
      exact ⟨oA, oc, rfl, ho, he⟩
    · have hAy := hrb.some_ (by simp)
      have q10 : (((A, c, ([] : List Ce)), (B, d, y :: b), (oA, oc, out)) : (Option Addr × Nat × List Ce) × (Option Addr × Nat × List Ce) × (Option Addr × Nat × List (Int × Int))).1.2.2.length = 0 := rfl
      have q11 : (((A, c, ([] : List Ce)), (B, d, y :: b), (oA, oc, out)) : (Option Addr × Nat × List Ce) × (Option Addr × Nat × List Ce) × (Option Addr × Nat × List (Int × Int))).2.1.2.2.length = b.length + 1 := rfl
      have q12 : (((A, c, ([] : List Ce)), (B, d, y :: b), (oA, oc, out)) : (Option Addr × Nat × List Ce) × (Option Addr × Nat × List Ce) × (Option Addr × Nat × List (Int × Int))).1.2.1 = c := rfl
      have q13 : (((A, c, ([] : List Ce)), (B, d, y :: b), (oA, oc, out)) : (Option Addr × Nat × List Ce) × (Option Addr × Nat × List Ce) × (Option Addr × Nat × List (Int × Int))).2.1.2.1 = d := rfl
      have q14 : (((A, c, ([] : List Ce)), (B, d, y :: b), (oA, oc, out)) : (Option Addr × Nat × List Ce) × (Option Addr × Nat × List Ce) × (Option Addr × Nat × List (Int × Int))).2.2.2.2.length = out.length := rfl
      have hlb : (y :: b).length = b.length + 1 := rfl
      rw [hlb] at hrb hcb hmx
      have em : mergeD sm [] (y :: b) = (y.key, 2) :: mergeD sm [] b := by rw [mergeD]
      rw [em] at heq
      have ry := Ld.flat2 ce_len hrb (i := 0) (x := y) rfl (r := 0) rfl
      have hrt : Reads w3 N 4 (if d = 1 then B else B.map (·.add (1 * 4))) b.length (b.flatMap Ce.vals) := hrb.cut (k := 1) (cap := d) (by omega) hcb
      refine J.seq ?_
      refine J.seq ?_
      refine J.region ?_
      refine L.va rfl (X.move (by conv => lhs; whnf)) ?_
      refine L.va rfl (X.len rfl Try.underlying22) ?_
      refine L.va rfl (X.gtr rfl rfl) ?_
      refine L.va rfl (X.move (by conv => lhs; whnf)) ?_
      refine L.caseDecF (k := 18) rfl (by simp) ?_
      refine L.va rfl (X.move (by conv => lhs; whnf)) ?_
      refine L.va rfl (X.len rfl Try.underlying22) ?_
      refine L.va rfl (X.gtr rfl rfl) ?_
      refine L.va rfl (X.pickF rfl (by conv => lhs; whnf)) ?_
      refine L.nil ?_
      refine J.decT rfl (by omega) ?_
      refine J.skip ?_
      refine J.block ?_
      refine J.block ?_
      refine J.seq ?_
      refine J.draw (ℓ := 1000000) (S := Ext w3) mixed (fun w4 hS hS_h => ?_)
      refine D.va 0 rfl (by kernel_rfl) (fun _ _ _ h => h) rfl (fun w' hw => X.move (by conv => lhs; whnf)) hS ?_
      refine D.va 1 rfl (by kernel_rfl) (fun _ _ _ h => h) rfl (fun w' hw => X.len rfl Try.underlying22) hS ?_
      refine D.va 2 rfl (by kernel_rfl) (fun _ _ _ h => h) rfl (fun w' hw => X.eql rfl rfl) hS ?_
      refine D.va 3 rfl (by kernel_rfl) (fun _ _ _ h => h) rfl (fun w' hw => X.move (by conv => lhs; whnf)) hS ?_
      refine D.caseDecF (k := 47) rfl (by omega) ?_
      refine D.va 4 rfl (by kernel_rfl) (fun _ _ _ h => h) rfl (fun w' hw => X.move (by conv => lhs; whnf)) hS ?_
      refine D.va 5 rfl (by kernel_rfl) (fun _ _ _ h => h) rfl (fun w' hw => X.len rfl Try.underlying22) hS ?_
      refine D.va 6 rfl (by kernel_rfl) (fun _ _ _ h => h) rfl (fun w' hw => X.gtr rfl rfl) hS ?_
      refine D.va 7 rfl (by kernel_rfl) (fun _ _ _ h => h) rfl (fun w' hw => X.move (by conv => lhs; whnf)) hS ?_
      refine D.caseDecF (k := 51) rfl (by simp) ?_
      refine D.no 8 rfl (by kernel_rfl) (fun _ _ _ h => h) rfl hS ?_
      refine D.no 9 rfl (by kernel_rfl) (fun _ _ _ h => h) rfl hS ?_
      refine D.no 10 rfl (by kernel_rfl) (fun _ _ _ h => h) rfl hS ?_
      refine D.no 11 rfl (by kernel_rfl) (fun _ _ _ h => h) rfl hS ?_
      refine D.no 12 rfl (by kernel_rfl) (fun _ _ _ h => h) rfl hS ?_
      refine D.no 13 rfl (by kernel_rfl) (fun _ _ _ h => h) rfl hS ?_
      refine D.no 14 rfl (by kernel_rfl) (fun _ _ _ h => h) rfl hS ?_
      refine D.no 15 rfl (by kernel_rfl) (fun _ _ _ h => h) rfl hS ?_
      refine D.no 16 rfl (by kernel_rfl) (fun _ _ _ h => h) rfl hS ?_
      refine D.va 17 rfl (by kernel_rfl) (fun _ _ _ h => h) rfl (fun w' hw => X.pickF rfl (by conv => lhs; whnf)) hS ?_
      refine D.va 18 rfl (by kernel_rfl) (fun _ _ _ h => h) rfl (fun w' hw => X.pickF rfl (by conv => lhs; whnf)) hS ?_
      refine D.va 19 rfl (by kernel_rfl) (fun _ _ _ h => h) rfl (fun w' hw => X.assign (by conv => lhs; whnf)) hS ?_
      refine D.done (by kernel_rfl) ?_
      refine J.iteF rfl ?_
      refine J.seq ?_
      refine J.draw (ℓ := 1000000) (S := Ext w4) mixed (fun w5 hS2 hS2_h => ?_)
      refine D.va 0 rfl (by kernel_rfl) (fun _ _ _ h => h) rfl (fun w' hw => X.move (by conv => lhs; whnf)) hS2 ?_
      refine D.va 1 rfl (by kernel_rfl) (fun _ _ _ h => h) rfl (fun w' hw => X.len rfl Try.underlying22) hS2 ?_
      refine D.va 2 rfl (by kernel_rfl) (fun _ _ _ h => h) rfl (fun w' hw => X.eql rfl rfl) hS2 ?_
      refine D.va 3 rfl (by kernel_rfl) (fun _ _ _ h => h) rfl (fun w' hw => X.move (by conv => lhs; whnf)) hS2 ?_
      refine D.caseDecT (k := 77) rfl (by rfl) ?_
      refine D.no 4 rfl (by kernel_rfl) (fun _ _ _ h => h) rfl hS2 ?_
      refine D.no 5 rfl (by kernel_rfl) (fun _ _ _ h => h) rfl hS2 ?_
      refine D.no 6 rfl (by kernel_rfl) (fun _ _ _ h => h) rfl hS2 ?_
      refine D.no 7 rfl (by kernel_rfl) (fun _ _ _ h => h) rfl hS2 ?_
      refine D.no 8 rfl (by kernel_rfl) (fun _ _ _ h => h) rfl hS2 ?_
      refine D.no 9 rfl (by kernel_rfl) (fun _ _ _ h => h) rfl hS2 ?_
      refine D.no 10 rfl (by kernel_rfl) (fun _ _ _ h => h) rfl hS2 ?_
      refine D.no 11 rfl (by kernel_rfl) (fun _ _ _ h => h) rfl hS2 ?_
      refine D.no 12 rfl (by kernel_rfl) (fun _ _ _ h => h) rfl hS2 ?_
      refine D.va 13 rfl (by kernel_rfl) (fun _ _ _ h => h) rfl (fun w' hw => X.pickT rfl (by conv => lhs; whnf)) hS2 ?_
      refine D.va 14 rfl (by kernel_rfl) (fun _ _ _ h => h) rfl (fun w' hw => X.assign (by conv => lhs; whnf)) hS2 ?_
      refine D.done (by kernel_rfl) ?_
      refine J.iteT rfl ?_
      have he5 := hS.trans hS2
      have hr5 := hrb.low (Below.mono he5 (by omega)) (Nat.le_refl _)
      have ry5 := Ld.flat2 ce_len hr5 (i := 0) (x := y) rfl (r := 0) rfl
      refine J.seq ?_
      refine J.region ?_
      refine L.va rfl (X.move (by conv => lhs; whnf)) ?_
      refine L.va rfl (X.move (by conv => lhs; whnf)) ?_
      refine L.va rfl (X.indexAddrn (j := 0) rfl rfl Try.underlying22 sz_61 (by first | exact Option.some_ne_none _ | exact hAy) (by omega)) ?_
      refine L.va rfl (X.fieldP rfl Try.underlying61 rfl sz_36 (by decide) (by first | exact Option.some_ne_none _ | exact hAy)) ?_
      refine L.va rfl (X.load rfl sc_36 ry5) ?_
      refine L.va rfl (X.build (l := [_, _]) (Evs.cons (by conv => lhs; whnf) (Evs.cons (by conv => lhs; whnf) Evs.nil)) (bld_run Try.underlying38 (bp_38 Try.underlying38) zr_38 rfl)) ?_
      refine L.bslice1 (l := [_, _]) rfl rfl rfl Try.underlying25 sz_38 zr_38 rfl ?_
      intro b6 w6 hb6 hs6 hk6 he6
      have z6 := (he5.trans he6).le
      refine L.appendV (q := out.length + 1) (ys := (out ++ [(y.key, 2)]).flatMap chV) rfl rfl rfl Try.underlying25 el_38 ((ho.ext he5).ext he6) ((blk_readsN (sz := 2) (q := 1) (l := [.int .u64 y.key, .int .i64 2]) hk6 hk6.lt rfl)) (by first | rfl | exact strs_ones _ | assumption) (by omega) (by simp) (by unfold maxLen; omega) (by omega) ?_
      intro o7 c7 w7 ho7 hg7 hb7 hor7
      refine L.va rfl (X.assign (by conv => lhs; whnf)) ?_
      refine L.nil ?_
      refine J.region ?_
      refine L.va rfl (X.move (by conv => lhs; whnf)) ?_
      refine L.va rfl ((by first | exact X.sliceFromn (i := 1) rfl rfl Try.underlying22 sz_61 (by omega) | exact X.sliceFrom rfl rfl Try.underlying22 sz_61 (by omega))) ?_
      refine L.va rfl (X.assign (by conv => lhs; whnf)) ?_
      refine L.nil ?_
      have he7 : Ext w w7 := Below.trans ((he.trans he5).trans he6) hb7
      have hrt7 := (hrt.low (Below.mono (he5.trans he6) (by omega)) (Nat.le_refl _)).low (Below.mono hb7 hN) (Nat.le_refl _)
      refine ⟨((A, c, []), (if d = 1 then B else B.map (·.add (1 * 4)), d - 1, b), (o7, c7, out ++ [(y.key, 2)])), At3 (rfl) (at_slice rfl (by simp)) (at_slice rfl (by simp)), (by (iterate 59 refine Agr.lk rfl ?_); exact Agr.lk rfl (Agr.hav rfl Agr.rfl')), ?_⟩
      refine ⟨⟨Reads.none_, hca, hrt7, by dsimp only; omega, (fun z hz => by cases hz), fun z hz => mb z (by simp [hz]), by simpa using ho7, he7, by dsimp only; rw [List.append_assoc]; exact heq, by dsimp only; simp; omega⟩, by dsimp only; simp⟩
    · have hAx := hra.some_ (by simp)
      have q10 : (((A, c, x :: a), (B, d, ([] : List Ce)), (oA, oc, out)) : (Option Addr × Nat × List Ce) × (Option Addr × Nat × List Ce) × (Option Addr × Nat × List (Int × Int))).1.2.2.length = a.length + 1 := rfl
      have q11 : (((A, c, x :: a), (B, d, ([] : List Ce)), (oA, oc, out)) : (Option Addr × Nat × List Ce) × (Option Addr × Nat × List Ce) × (Option Addr × Nat × List (Int × Int))).2.1.2.2.length = 0 := rfl
      have q12 : (((A, c, x :: a), (B, d, ([] : List Ce)), (oA, oc, out)) : (Option Addr × Nat × List Ce) × (Option Addr × Nat × List Ce) × (Option Addr × Nat × List (Int × Int))).1.2.1 = c := rfl
      have q13 : (((A, c, x :: a), (B, d, ([] : List Ce)), (oA, oc, out)) : (Option Addr × Nat × List Ce) × (Option Addr × Nat × List Ce) × (Option Addr × Nat × List (Int × Int))).2.1.2.1 = d := rfl
      have q14 : (((A, c, x :: a), (B, d, ([] : List Ce)), (oA, oc, out)) : (Option Addr × Nat × List Ce) × (Option Addr × Nat × List Ce) × (Option Addr × Nat × List (Int × Int))).2.2.2.2.length = out.length := rfl
      have hla : (x :: a).length = a.length + 1 := rfl
      rw [hla] at hra hca hmx
      have em : mergeD sm (x :: a) [] = (x.key, 1) :: mergeD sm a [] := by rw [mergeD]
      rw [em] at heq
      have hrta : Reads w3 N 4 (if c = 1 then A else A.map (·.add (1 * 4))) a.length (a.flatMap Ce.vals) := hra.cut (k := 1) (cap := c) (by omega) hca
      refine J.seq ?_
      refine J.seq ?_
      refine J.region ?_
      refine L.va rfl (X.move (by conv => lhs; whnf)) ?_
      refine L.va rfl (X.len rfl Try.underlying22) ?_
      refine L.va rfl (X.gtr rfl rfl) ?_
      refine L.va rfl (X.move (by conv => lhs; whnf)) ?_
      refine L.caseDecT (k := 18) rfl (by omega) ?_
      refine L.no rfl ?_
      refine L.no rfl ?_
      refine L.no rfl ?_
      refine L.va rfl (X.pickT rfl (by conv => lhs; whnf)) ?_
      refine L.nil ?_
      refine J.iteT rfl ?_
      refine J.skip ?_
      refine J.block ?_
      refine J.block ?_
      refine J.seq ?_
      refine J.draw (ℓ := 1000000) (S := Ext w3) mixed (fun w4 hS hS_h => ?_)
      refine D.va 0 rfl (by kernel_rfl) (fun _ _ _ h => h) rfl (fun w' hw => X.move (by conv => lhs; whnf)) hS ?_
      refine D.va 1 rfl (by kernel_rfl) (fun _ _ _ h => h) rfl (fun w' hw => X.len rfl Try.underlying22) hS ?_
      refine D.va 2 rfl (by kernel_rfl) (fun _ _ _ h => h) rfl (fun w' hw => X.eql rfl rfl) hS ?_
      refine D.va 3 rfl (by kernel_rfl) (fun _ _ _ h => h) rfl (fun w' hw => X.move (by conv => lhs; whnf)) hS ?_
      refine D.caseDecT (k := 47) rfl (by simp) ?_
      refine D.no 4 rfl (by kernel_rfl) (fun _ _ _ h => h) rfl hS ?_
      refine D.no 5 rfl (by kernel_rfl) (fun _ _ _ h => h) rfl hS ?_
      refine D.no 6 rfl (by kernel_rfl) (fun _ _ _ h => h) rfl hS ?_
      refine D.no 7 rfl (by kernel_rfl) (fun _ _ _ h => h) rfl hS ?_
      refine D.no 8 rfl (by kernel_rfl) (fun _ _ _ h => h) rfl hS ?_
      refine D.no 9 rfl (by kernel_rfl) (fun _ _ _ h => h) rfl hS ?_
      refine D.no 10 rfl (by kernel_rfl) (fun _ _ _ h => h) rfl hS ?_
      refine D.no 11 rfl (by kernel_rfl) (fun _ _ _ h => h) rfl hS ?_
      refine D.no 12 rfl (by kernel_rfl) (fun _ _ _ h => h) rfl hS ?_
      refine D.no 13 rfl (by kernel_rfl) (fun _ _ _ h => h) rfl hS ?_
      refine D.no 14 rfl (by kernel_rfl) (fun _ _ _ h => h) rfl hS ?_
      refine D.no 15 rfl (by kernel_rfl) (fun _ _ _ h => h) rfl hS ?_
      refine D.no 16 rfl (by kernel_rfl) (fun _ _ _ h => h) rfl hS ?_
      refine D.no 17 rfl (by kernel_rfl) (fun _ _ _ h => h) rfl hS ?_
      refine D.va 18 rfl (by kernel_rfl) (fun _ _ _ h => h) rfl (fun w' hw => X.pickT rfl (by conv => lhs; whnf)) hS ?_
      refine D.va 19 rfl (by kernel_rfl) (fun _ _ _ h => h) rfl (fun w' hw => X.assign (by conv => lhs; whnf)) hS ?_
      refine D.done (by kernel_rfl) ?_
      refine J.iteT rfl ?_
      have hr4 := hra.low (Below.mono hS (by omega)) (Nat.le_refl _)
      have rx4 := Ld.flat2 ce_len hr4 (i := 0) (x := x) rfl (r := 0) rfl
      refine J.seq ?_
      refine J.region ?_
      refine L.va rfl (X.move (by conv => lhs; whnf)) ?_
      refine L.va rfl (X.move (by conv => lhs; whnf)) ?_
      refine L.va rfl (X.indexAddrn (j := 0) rfl rfl Try.underlying22 sz_61 (by first | exact Option.some_ne_none _ | exact hAx) (by omega)) ?_
      refine L.va rfl (X.fieldP rfl Try.underlying61 rfl sz_36 (by decide) (by first | exact Option.some_ne_none _ | exact hAx)) ?_
      refine L.va rfl (X.load rfl sc_36 rx4) ?_
      refine L.va rfl (X.build (l := [_, _]) (Evs.cons (by conv => lhs; whnf) (Evs.cons (by conv => lhs; whnf) Evs.nil)) (bld_run Try.underlying38 (bp_38 Try.underlying38) zr_38 rfl)) ?_
      refine L.bslice1 (l := [_, _]) rfl rfl rfl Try.underlying25 sz_38 zr_38 rfl ?_
      intro b6 w6 hb6 hs6 hk6 he6
      have z6 := ((hS).trans he6).le
      refine L.appendV (q := out.length + 1) (ys := (out ++ [(x.key, 1)]).flatMap chV) rfl rfl rfl Try.underlying25 el_38 ((ho.ext (hS)).ext he6) ((blk_readsN (sz := 2) (q := 1) (l := [.int .u64 x.key, .int .i64 1]) hk6 hk6.lt rfl)) (by first | rfl | exact strs_ones _ | assumption) (by omega) (by simp) (by unfold maxLen; omega) (by omega) ?_
      intro o7 c7 w7 ho7 hg7 hb7 hor7
      refine L.va rfl (X.assign (by conv => lhs; whnf)) ?_
      refine L.nil ?_
      refine J.region ?_
      refine L.va rfl (X.move (by conv => lhs; whnf)) ?_
      refine L.va rfl ((by first | exact X.sliceFromn (i := 1) rfl rfl Try.underlying22 sz_61 (by omega) | exact X.sliceFrom rfl rfl Try.underlying22 sz_61 (by omega))) ?_
      refine L.va rfl (X.assign (by conv => lhs; whnf)) ?_
      refine L.nil ?_
      have he7 : Ext w w7 := Below.trans ((he.trans hS).trans he6) hb7
      refine ⟨((if c = 1 then A else A.map (·.add (1 * 4)), c - 1, a), (B, d, []), (o7, c7, out ++ [(x.key, 1)])), At3 (at_slice rfl (by simp)) (rfl) (at_slice rfl (by simp)), (by (iterate 42 refine Agr.lk rfl ?_); exact Agr.lk rfl (Agr.hav rfl Agr.rfl')), ?_⟩
      refine ⟨⟨((hrta.low (Below.mono ((hS).trans he6) (by omega)) (Nat.le_refl _)).low (Below.mono hb7 hN) (Nat.le_refl _)), by dsimp only; omega, Reads.none_, hcb, fun z hz => ma z (by simp [hz]), (fun z hz => by cases hz), by simpa using ho7, he7, by dsimp only; rw [List.append_assoc]; exact heq, by dsimp only; simp; omega⟩, by dsimp only; simp⟩
    · have hAx := hra.some_ (by simp)
      have hAy := hrb.some_ (by simp)
      have q10 : (((A, c, x :: a), (B, d, y :: b), (oA, oc, out)) : (Option Addr × Nat × List Ce) × (Option Addr × Nat × List Ce) × (Option Addr × Nat × List (Int × Int))).1.2.2.length = a.length + 1 := rfl
      have q11 : (((A, c, x :: a), (B, d, y :: b), (oA, oc, out)) : (Option Addr × Nat × List Ce) × (Option Addr × Nat × List Ce) × (Option Addr × Nat × List (Int × Int))).2.1.2.2.length = b.length + 1 := rfl
      have q12 : (((A, c, x :: a), (B, d, y :: b), (oA, oc, out)) : (Option Addr × Nat × List Ce) × (Option Addr × Nat × List Ce) × (Option Addr × Nat × List (Int × Int))).1.2.1 = c := rfl
      have q13 : (((A, c, x :: a), (B, d, y :: b), (oA, oc, out)) : (Option Addr × Nat × List Ce) × (Option Addr × Nat × List Ce) × (Option Addr × Nat × List (Int × Int))).2.1.2.1 = d := rfl
      have q14 : (((A, c, x :: a), (B, d, y :: b), (oA, oc, out)) : (Option Addr × Nat × List Ce) × (Option Addr × Nat × List Ce) × (Option Addr × Nat × List (Int × Int))).2.2.2.2.length = out.length := rfl
      have hla : (x :: a).length = a.length + 1 := rfl
      have hlb : (y :: b).length = b.length + 1 := rfl
      rw [hla] at hra hca hmx
      rw [hlb] at hrb hcb hmx
      have em : mergeD sm (x :: a) (y :: b) = if x.key < y.key then (x.key, 1) :: mergeD sm a (y :: b) else if y.key < x.key then (y.key, 2) :: mergeD sm (x :: a) b else (if sm x y = true then [] else [(x.key, 3)]) ++ mergeD sm a b := by rw [mergeD]
      rw [em] at heq
      have hrta : Reads w3 N 4 (if c = 1 then A else A.map (·.add (1 * 4))) a.length (a.flatMap Ce.vals) := hra.cut (k := 1) (cap := c) (by omega) hca
      have hrtb : Reads w3 N 4 (if d = 1 then B else B.map (·.add (1 * 4))) b.length (b.flatMap Ce.vals) := hrb.cut (k := 1) (cap := d) (by omega) hcb
      have rx := fun (w' : World) (hw : Ext w3 w') => Ld.flat2 ce_len (hra.low (Below.mono hw (by omega)) (Nat.le_refl _)) (i := 0) (x := x) rfl (r := 0) rfl
      have ry := fun (w' : World) (hw : Ext w3 w') => Ld.flat2 ce_len (hrb.low (Below.mono hw (by omega)) (Nat.le_refl _)) (i := 0) (x := y) rfl (r := 0) rfl
      refine J.seq ?_
      refine J.seq ?_
      refine J.region ?_
      refine L.va rfl (X.move (by conv => lhs; whnf)) ?_
      refine L.va rfl (X.len rfl Try.underlying22) ?_
      refine L.va rfl (X.gtr rfl rfl) ?_
      refine L.va rfl (X.move (by conv => lhs; whnf)) ?_
      refine L.caseDecT (k := 18) rfl (by omega) ?_
      refine L.no rfl ?_
      refine L.no rfl ?_
      refine L.no rfl ?_
      refine L.va rfl (X.pickT rfl (by conv => lhs; whnf)) ?_
      refine L.nil ?_
      refine J.iteT rfl ?_
      refine J.skip ?_
      refine J.block ?_
      refine J.block ?_
      refine J.seq ?_
      refine J.draw (ℓ := 1000000) (S := Ext w3) mixed (fun w4 hS hS_h => ?_)
      refine D.va 0 rfl (by kernel_rfl) (fun _ _ _ h => h) rfl (fun w' hw => X.move (by conv => lhs; whnf)) hS ?_
      refine D.va 1 rfl (by kernel_rfl) (fun _ _ _ h => h) rfl (fun w' hw => X.len rfl Try.underlying22) hS ?_
      refine D.va 2 rfl (by kernel_rfl) (fun _ _ _ h => h) rfl (fun w' hw => X.eql rfl rfl) hS ?_
      refine D.va 3 rfl (by kernel_rfl) (fun _ _ _ h => h) rfl (fun w' hw => X.move (by conv => lhs; whnf)) hS ?_
      refine D.caseDecF (k := 47) rfl (by omega) ?_
      refine D.va 4 rfl (by kernel_rfl) (fun _ _ _ h => h) rfl (fun w' hw => X.move (by conv => lhs; whnf)) hS ?_
      refine D.va 5 rfl (by kernel_rfl) (fun _ _ _ h => h) rfl (fun w' hw => X.len rfl Try.underlying22) hS ?_
      refine D.va 6 rfl (by kernel_rfl) (fun _ _ _ h => h) rfl (fun w' hw => X.gtr rfl rfl) hS ?_
      refine D.va 7 rfl (by kernel_rfl) (fun _ _ _ h => h) rfl (fun w' hw => X.move (by conv => lhs; whnf)) hS ?_
      refine D.caseDecT (k := 51) rfl (by omega) ?_
      refine D.va 8 rfl (by kernel_rfl) (fun _ _ _ h => h) rfl (fun w' hw => X.move (by conv => lhs; whnf)) hS ?_
      refine D.va 9 rfl (by kernel_rfl) (fun _ _ _ h => h) rfl (fun w' hw => X.indexAddrn (j := 0) rfl rfl Try.underlying22 sz_61 (by first | exact Option.some_ne_none _ | exact hAx | exact hAy) (by omega)) hS ?_
      refine D.va 10 rfl (by kernel_rfl) (fun _ _ _ h => h) rfl (fun w' hw => X.fieldP rfl Try.underlying61 rfl sz_36 (by decide) (by first | exact Option.some_ne_none _ | exact hAx | exact hAy)) hS ?_
      refine D.va 11 rfl (by kernel_rfl) (fun _ _ _ h => h) rfl (fun w' hw => X.load rfl sc_36 (rx w' hw)) hS ?_
      refine D.va 12 rfl (by kernel_rfl) (fun _ _ _ h => h) rfl (fun w' hw => X.move (by conv => lhs; whnf)) hS ?_
      refine D.va 13 rfl (by kernel_rfl) (fun _ _ _ h => h) rfl (fun w' hw => X.indexAddrn (j := 0) rfl rfl Try.underlying22 sz_61 (by first | exact Option.some_ne_none _ | exact hAx | exact hAy) (by omega)) hS ?_
      refine D.va 14 rfl (by kernel_rfl) (fun _ _ _ h => h) rfl (fun w' hw => X.fieldP rfl Try.underlying61 rfl sz_36 (by decide) (by first | exact Option.some_ne_none _ | exact hAx | exact hAy)) hS ?_
      refine D.va 15 rfl (by kernel_rfl) (fun _ _ _ h => h) rfl (fun w' hw => X.load rfl sc_36 (ry w' hw)) hS ?_
      refine D.va 16 rfl (by kernel_rfl) (fun _ _ _ h => h) rfl (fun w' hw => X.lss rfl rfl) hS ?_
      refine D.va 17 rfl (by kernel_rfl) (fun _ _ _ h => h) rfl (fun w' hw => X.pickT rfl (by conv => lhs; whnf)) hS ?_
      refine D.va 18 rfl (by kernel_rfl) (fun _ _ _ h => h) rfl (fun w' hw => X.pickF rfl (by conv => lhs; whnf)) hS ?_
      refine D.va 19 rfl (by kernel_rfl) (fun _ _ _ h => h) rfl (fun w' hw => X.assign (by conv => lhs; whnf)) hS ?_
      refine D.done (by kernel_rfl) ?_
      refine J.dec rfl (fun h1 => ?_) (fun h1 => ?_)
      · rw [if_pos h1] at heq
        refine J.seq ?_
        refine J.region ?_
        refine L.va rfl (X.move (by conv => lhs; whnf)) ?_
        refine L.va rfl (X.move (by conv => lhs; whnf)) ?_
        refine L.va rfl (X.indexAddrn (j := 0) rfl rfl Try.underlying22 sz_61 (by first | exact Option.some_ne_none _ | exact hAx | exact hAy) (by omega)) ?_
        refine L.va rfl (X.fieldP rfl Try.underlying61 rfl sz_36 (by decide) (by first | exact Option.some_ne_none _ | exact hAx | exact hAy)) ?_
        refine L.va rfl (X.load rfl sc_36 (rx _ hS)) ?_
        refine L.va rfl (X.build (l := [_, _]) (Evs.cons (by conv => lhs; whnf) (Evs.cons (by conv => lhs; whnf) Evs.nil)) (bld_run Try.underlying38 (bp_38 Try.underlying38) zr_38 rfl)) ?_
        refine L.bslice1 (l := [_, _]) rfl rfl rfl Try.underlying25 sz_38 zr_38 rfl ?_
        intro b6 w6 hb6 hs6 hk6 he6
        have z6 := ((hS).trans he6).le
        refine L.appendV (q := out.length + 1) (ys := (out ++ [(x.key, 1)]).flatMap chV) rfl rfl rfl Try.underlying25 el_38 ((ho.ext (hS)).ext he6) ((blk_readsN (sz := 2) (q := 1) (l := [.int .u64 x.key, .int .i64 1]) hk6 hk6.lt rfl)) (by first | rfl | exact strs_ones _ | assumption) (by omega) (by simp) (by unfold maxLen; omega) (by omega) ?_
        intro o7 c7 w7 ho7 hg7 hb7 hor7
        refine L.va rfl (X.assign (by conv => lhs; whnf)) ?_
        refine L.nil ?_
        refine J.region ?_
        refine L.va rfl (X.move (by conv => lhs; whnf)) ?_
        refine L.va rfl ((by first | exact X.sliceFromn (i := 1) rfl rfl Try.underlying22 sz_61 (by omega) | exact X.sliceFrom rfl rfl Try.underlying22 sz_61 (by omega))) ?_
        refine L.va rfl (X.assign (by conv => lhs; whnf)) ?_
        refine L.nil ?_
        have he7 : Ext w w7 := Below.trans ((he.trans hS).trans he6) hb7
        have hrb7 := ((hrb.low (Below.mono ((hS).trans he6) (by omega)) (Nat.le_refl _)).low (Below.mono hb7 hN) (Nat.le_refl _))
        refine ⟨((if c = 1 then A else A.map (·.add (1 * 4)), c - 1, a), (B, d, y :: b), (o7, c7, out ++ [(x.key, 1)])), At3 (at_slice rfl (by simp)) (rfl) (at_slice rfl (by simp)), (by (iterate 43 refine Agr.lk rfl ?_); exact Agr.lk rfl (Agr.hav rfl Agr.rfl')), ?_⟩
        refine ⟨⟨((hrta.low (Below.mono ((hS).trans he6) (by omega)) (Nat.le_refl _)).low (Below.mono hb7 hN) (Nat.le_refl _)), by dsimp only; omega, hrb7, hcb, fun z hz => ma z (by simp [hz]), mb, by simpa using ho7, he7, by dsimp only; rw [List.append_assoc]; exact heq, by dsimp only; simp; omega⟩, by dsimp only; simp⟩
      · rw [if_neg h1] at heq
        refine J.seq ?_
        refine J.draw (ℓ := 1000000) (S := Ext w4) mixed (fun w5 hS2 hS2_h => ?_)
        have he5 := hS.trans hS2
        refine D.va 0 rfl (by kernel_rfl) (fun _ _ _ h => h) rfl (fun w' hw => X.move (by conv => lhs; whnf)) hS2 ?_
        refine D.va 1 rfl (by kernel_rfl) (fun _ _ _ h => h) rfl (fun w' hw => X.len rfl Try.underlying22) hS2 ?_
        refine D.va 2 rfl (by kernel_rfl) (fun _ _ _ h => h) rfl (fun w' hw => X.eql rfl rfl) hS2 ?_
        refine D.va 3 rfl (by kernel_rfl) (fun _ _ _ h => h) rfl (fun w' hw => X.move (by conv => lhs; whnf)) hS2 ?_
        refine D.caseDecF (k := 77) rfl (by omega) ?_
        refine D.va 4 rfl (by kernel_rfl) (fun _ _ _ h => h) rfl (fun w' hw => X.move (by conv => lhs; whnf)) hS2 ?_
        refine D.va 5 rfl (by kernel_rfl) (fun _ _ _ h => h) rfl (fun w' hw => X.indexAddrn (j := 0) rfl rfl Try.underlying22 sz_61 (by first | exact Option.some_ne_none _ | exact hAx | exact hAy) (by omega)) hS2 ?_
        refine D.va 6 rfl (by kernel_rfl) (fun _ _ _ h => h) rfl (fun w' hw => X.fieldP rfl Try.underlying61 rfl sz_36 (by decide) (by first | exact Option.some_ne_none _ | exact hAx | exact hAy)) hS2 ?_
        refine D.va 7 rfl (by kernel_rfl) (fun _ _ _ h => h) rfl (fun w' hw => X.load rfl sc_36 (ry w' (hS.trans hw))) hS2 ?_
        refine D.va 8 rfl (by kernel_rfl) (fun _ _ _ h => h) rfl (fun w' hw => X.move (by conv => lhs; whnf)) hS2 ?_
        refine D.va 9 rfl (by kernel_rfl) (fun _ _ _ h => h) rfl (fun w' hw => X.indexAddrn (j := 0) rfl rfl Try.underlying22 sz_61 (by first | exact Option.some_ne_none _ | exact hAx | exact hAy) (by omega)) hS2 ?_
        refine D.va 10 rfl (by kernel_rfl) (fun _ _ _ h => h) rfl (fun w' hw => X.fieldP rfl Try.underlying61 rfl sz_36 (by decide) (by first | exact Option.some_ne_none _ | exact hAx | exact hAy)) hS2 ?_
        refine D.va 11 rfl (by kernel_rfl) (fun _ _ _ h => h) rfl (fun w' hw => X.load rfl sc_36 (rx w' (hS.trans hw))) hS2 ?_
        refine D.va 12 rfl (by kernel_rfl) (fun _ _ _ h => h) rfl (fun w' hw => X.lss rfl rfl) hS2 ?_
        refine D.va 13 rfl (by kernel_rfl) (fun _ _ _ h => h) rfl (fun w' hw => X.pickF rfl (by conv => lhs; whnf)) hS2 ?_
        refine D.va 14 rfl (by kernel_rfl) (fun _ _ _ h => h) rfl (fun w' hw => X.assign (by conv => lhs; whnf)) hS2 ?_
        refine D.done (by kernel_rfl) ?_
        refine J.dec rfl (fun h2 => ?_) (fun h2 => ?_)
        · rw [if_pos h2] at heq
          refine J.seq ?_
          refine J.region ?_
          refine L.va rfl (X.move (by conv => lhs; whnf)) ?_
          refine L.va rfl (X.move (by conv => lhs; whnf)) ?_
          refine L.va rfl (X.indexAddrn (j := 0) rfl rfl Try.underlying22 sz_61 (by first | exact Option.some_ne_none _ | exact hAx | exact hAy) (by omega)) ?_
          refine L.va rfl (X.fieldP rfl Try.underlying61 rfl sz_36 (by decide) (by first | exact Option.some_ne_none _ | exact hAx | exact hAy)) ?_
          refine L.va rfl (X.load rfl sc_36 (ry _ he5)) ?_
          refine L.va rfl (X.build (l := [_, _]) (Evs.cons (by conv => lhs; whnf) (Evs.cons (by conv => lhs; whnf) Evs.nil)) (bld_run Try.underlying38 (bp_38 Try.underlying38) zr_38 rfl)) ?_
          refine L.bslice1 (l := [_, _]) rfl rfl rfl Try.underlying25 sz_38 zr_38 rfl ?_
          intro b6 w6 hb6 hs6 hk6 he6
          have z6 := ((he5).trans he6).le
          refine L.appendV (q := out.length + 1) (ys := (out ++ [(y.key, 2)]).flatMap chV) rfl rfl rfl Try.underlying25 el_38 ((ho.ext (he5)).ext he6) ((blk_readsN (sz := 2) (q := 1) (l := [.int .u64 y.key, .int .i64 2]) hk6 hk6.lt rfl)) (by first | rfl | exact strs_ones _ | assumption) (by omega) (by simp) (by unfold maxLen; omega) (by omega) ?_
          intro o7 c7 w7 ho7 hg7 hb7 hor7
          refine L.va rfl (X.assign (by conv => lhs; whnf)) ?_
          refine L.nil ?_
          refine J.region ?_
          refine L.va rfl (X.move (by conv => lhs; whnf)) ?_
          refine L.va rfl ((by first | exact X.sliceFromn (i := 1) rfl rfl Try.underlying22 sz_61 (by omega) | exact X.sliceFrom rfl rfl Try.underlying22 sz_61 (by omega))) ?_
          refine L.va rfl (X.assign (by conv => lhs; whnf)) ?_
          refine L.nil ?_
          have he7 : Ext w w7 := Below.trans ((he.trans he5).trans he6) hb7
          have hra7 := ((hra.low (Below.mono ((he5).trans he6) (by omega)) (Nat.le_refl _)).low (Below.mono hb7 hN) (Nat.le_refl _))
          refine ⟨((A, c, x :: a), (if d = 1 then B else B.map (·.add (1 * 4)), d - 1, b), (o7, c7, out ++ [(y.key, 2)])), At3 (rfl) (at_slice rfl (by simp)) (at_slice rfl (by simp)), (by (iterate 59 refine Agr.lk rfl ?_); exact Agr.lk rfl (Agr.hav rfl Agr.rfl')), ?_⟩
          refine ⟨⟨hra7, hca, ((hrtb.low (Below.mono ((he5).trans he6) (by omega)) (Nat.le_refl _)).low (Below.mono hb7 hN) (Nat.le_refl _)), by dsimp only; omega, ma, fun z hz => mb z (by simp [hz]), by simpa using ho7, he7, by dsimp only; rw [List.append_assoc]; exact heq, by dsimp only; simp; omega⟩, by dsimp only; simp⟩
        · rw [if_neg h2] at heq
          refine J.cut (X := Option Addr × Nat × List (Int × Int)) [6, 23, 24, 25, 26, 27, 28, 29, 30, 31, 32, 33, 34, 35, 36, 37, 38] (fun z => [(6, .slice z.1 z.2.2.length z.2.1)]) (fun z w' => w'.ownsRow w.heap.size 38 2 (.slice z.1 z.2.2.length z.2.1) z.2.2.length (z.2.2.flatMap chV) ∧ Below w.heap.size w5 w' ∧ z.2.2 = out ++ (if sm x y = true then [] else [(x.key, 3)])) ?_ ?_
          · refine J.seq ?_
            refine J.quiet mixed (by kernel_rfl) ?_
            refine Qt.va rfl (fun w' hw => X.move (by conv => lhs; whnf)) ?_
            refine Qt.va rfl (fun w' hw => X.indexAddrn (j := 0) rfl rfl Try.underlying22 sz_61 (by first | exact Option.some_ne_none _ | exact hAx | exact hAy) (by omega)) ?_
            refine Qt.va rfl (fun w' hw => X.loadRow (cs := x.vals) rfl (hra.low (Below.mono (he5.trans hw) (by omega)) (Nat.le_refl _)) (fun r u hu => flat_row (i := 0) (l := x :: a) ce_len rfl r u hu) (Nat.zero_lt_succ _) Try.underlying61 rfl (by kernel_rfl)) ?_
            refine Qt.va rfl (fun w' hw => X.move (by conv => lhs; whnf)) ?_
            refine Qt.va rfl (fun w' hw => X.indexAddrn (j := 0) rfl rfl Try.underlying22 sz_61 (by first | exact Option.some_ne_none _ | exact hAx | exact hAy) (by omega)) ?_
            refine Qt.va rfl (fun w' hw => X.loadRow (cs := y.vals) rfl (hrb.low (Below.mono (he5.trans hw) (by omega)) (Nat.le_refl _)) (fun r u hu => flat_row (i := 0) (l := y :: b) ce_len rfl r u hu) (Nat.zero_lt_succ _) Try.underlying61 rfl (by kernel_rfl)) ?_
            refine Qt.call rfl en_22 rfl (fun w' hw => calls_ext hw (hsm x (ma x (by simp)) y (mb y (by simp)) w' ((he.trans he5).trans hw))) ?_
            refine Qt.va rfl (fun w' hw => X.not rfl) ?_
            refine Qt.nil (fun w6 hq => ?_)
            have hE := he5.trans hq
            cases hs : sm x y
            · refine J.iteT rfl ?_
              have hB6 : Below w.heap.size w5 w6 := Below.mono hq (by have := he5.le; omega)
              refine J.region ?_
              refine L.va rfl (X.move (by conv => lhs; whnf)) ?_
              refine L.va rfl (X.move (by conv => lhs; whnf)) ?_
              refine L.va rfl (X.indexAddrn (j := 0) rfl rfl Try.underlying22 sz_61 (by first | exact Option.some_ne_none _ | exact hAx | exact hAy) (by omega)) ?_
              refine L.va rfl (X.fieldP rfl Try.underlying61 rfl sz_36 (by decide) (by first | exact Option.some_ne_none _ | exact hAx | exact hAy)) ?_
              refine L.va rfl (X.load rfl sc_36 (rx _ hE)) ?_
              refine L.va rfl (X.build (l := [_, _]) (Evs.cons (by conv => lhs; whnf) (Evs.cons (by conv => lhs; whnf) Evs.nil)) (bld_run Try.underlying38 (bp_38 Try.underlying38) zr_38 rfl)) ?_
              refine L.bslice1 (l := [_, _]) rfl rfl rfl Try.underlying25 sz_38 zr_38 rfl ?_
              intro b8 w8 hb8 hs8 hk8 he8
              have z8 := (hE.trans he8).le
              refine L.appendV (q := out.length + 1) (ys := (out ++ [(x.key, 3)]).flatMap chV) rfl rfl rfl Try.underlying25 el_38 ((ho.ext hE).ext he8) ((blk_readsN (sz := 2) (q := 1) (l := [.int .u64 x.key, .int .i64 3]) hk8 hk8.lt rfl)) (by first | rfl | exact strs_ones _ | assumption) (by omega) (by simp) (by unfold maxLen; omega) (by omega) ?_
              intro o9 c9 w9 ho9 hg9 hb9 hor9
              refine L.va rfl (X.assign (by conv => lhs; whnf)) ?_
              refine L.nil ?_
              refine ⟨(o9, c9, out ++ [(x.key, 3)]), At1 (at_slice rfl (by simp)), (by (iterate 17 refine Agr.lk rfl ?_); exact Agr.rfl'), ?_⟩
              refine ⟨by simpa using ho9, (hB6.trans (Below.mono he8 (by have := hE.le; omega))).trans hb9, by rw [if_neg (by decide)]⟩
            · refine J.iteF rfl ?_
              refine J.skip ?_
              refine ⟨(oA, oc, out), At1 (by first | rfl | exact at_int rfl (by omega) | exact at_slice rfl (by omega) | exact at_int rfl (by simp)), (by (iterate 8 refine Agr.lk rfl ?_); exact Agr.rfl'), ?_⟩
              exact ⟨ho.ext hE, Below.mono hq (by have := he5.le; omega), by rw [if_pos rfl, List.append_nil]⟩
          · rintro ⟨o9, c9, out9⟩ g w9 ⟨ho9, hB9, hout⟩
            dsimp only at ho9 hout
            subst hout
            have z9 := hB9.size
            refine J.quiet mixed (by kernel_rfl) ?_
            refine Qt.va rfl (fun w' hw => X.move (by conv => lhs; whnf)) ?_
            refine Qt.va rfl (fun w' hw => (by first | exact X.sliceFromn (i := 1) rfl rfl Try.underlying22 sz_61 (by omega) | exact X.sliceFrom rfl rfl Try.underlying22 sz_61 (by omega))) ?_
            refine Qt.va rfl (fun w' hw => X.move (by conv => lhs; whnf)) ?_
            refine Qt.va rfl (fun w' hw => (by first | exact X.sliceFromn (i := 1) rfl rfl Try.underlying22 sz_61 (by omega) | exact X.sliceFrom rfl rfl Try.underlying22 sz_61 (by omega))) ?_
            refine Qt.va rfl (fun w' hw => X.assign (by conv => lhs; whnf)) ?_
            refine Qt.va rfl (fun w' hw => X.assign (by conv => lhs; whnf)) ?_
            refine Qt.nil (fun w10 hq => ?_)
            refine ⟨((if c = 1 then A else A.map (·.add (1 * 4)), c - 1, a), (if d = 1 then B else B.map (·.add (1 * 4)), d - 1, b), (o9, c9, out ++ (if sm x y = true then [] else [(x.key, 3)]))), At3 (at_slice rfl (by simp)) (at_slice rfl (by simp)) (rfl), (by (iterate 6 refine Agr.lk rfl ?_); refine Agr.lk rfl ?_; refine Agr.hav rfl ?_; (iterate 47 refine Agr.lk rfl ?_); exact Agr.lk rfl (Agr.hav rfl Agr.rfl')), ?_⟩
            have hLow : ∀ {A' : Option Addr} {n' : Nat} {xs : List Value}, Reads w3 N 4 A' n' xs → Reads w10 N 4 A' n' xs := fun h => ((h.low (Below.mono he5 (by omega)) (Nat.le_refl _)).low (Below.mono hB9 hN) (Nat.le_refl _)).low (Below.mono hq (by have := he5.le; omega)) (Nat.le_refl _)
            have he10 : Ext w w10 := (Below.trans (he.trans he5) hB9).trans (Below.mono hq (by have := he5.le; omega))
            have hll : (out ++ (if sm x y = true then [] else [(x.key, (3 : Int))])).length ≤ out.length + 1 := by split <;> simp
            refine ⟨⟨hLow hrta, by dsimp only; omega, hLow hrtb, by dsimp only; omega, fun z hz => ma z (by simp [hz]), fun z hz => mb z (by simp [hz]), ho9.ext hq, he10, by dsimp only; rw [List.append_assoc]; exact heq, by dsimp only; omega⟩, by dsimp only; simp; omega⟩
end Go.Proofs.Ytpomklkfedpkfaa
namespace Go.Proofs.Ytpomklkfedpkfaa
set_option maxRecDepth 100000
open Go.RowKit H
set_option linter.unusedVariables false
theorem eqf_whole0 {w : World} (f : Value) : Calls Try.prog 41 #[.slice none 0 0, .slice none 0 0, f] w fun e w' => e = .returned (.bool true) ∧ Ext w w' := by
  refine enter Try.func41 rfl (by kernel_rfl) ?_
  refine J.seq ?_
  refine J.region ?_
  refine L.va rfl (X.assign (by conv => lhs; whnf)) ?_
  refine L.nil ?_
  refine J.seq ?_
  refine J.seq ?_
  refine J.region ?_
  refine L.va rfl (X.move (by conv => lhs; whnf)) ?_
  refine L.va rfl (X.len rfl Try.underlying58) ?_
  refine L.va rfl (X.move (by conv => lhs; whnf)) ?_
  refine L.va rfl (X.len rfl Try.underlying58) ?_
  refine L.va rfl (X.neq rfl rfl) ?_
  refine L.nil ?_
  refine J.ndecF rfl (by exact rfl) ?_
  refine J.skip ?_
  refine J.seq ?_
  refine J.seq ?_
  refine J.region ?_
  refine L.va rfl (X.move (by conv => lhs; whnf)) ?_
  refine L.va rfl (X.len rfl Try.underlying58) ?_
  refine L.va rfl (X.move (by conv => lhs; whnf)) ?_
  refine L.nil ?_
  refine J.block ?_
  refine J.loop (X := Unit) [6, 7, 8, 9, 17, 18, 19, 20, 21, 22, 23, 24, 25, 26, 27, 28, 29, 30, 31] (fun _ => [(17, .int .i64 0)]) (fun _ w' => w = w') (fun _ => 0) (()) (At1 (by first | rfl | exact at_int rfl (by omega) | exact at_slice rfl (by omega) | exact at_int rfl (by simp))) ?_ ?_
  · rfl
  · rintro ⟨⟩ g w2 rfl
    refine J.seq ?_
    refine J.region ?_
    refine L.va rfl (X.lss rfl rfl) ?_
    refine L.nil ?_
    refine J.seq ?_
    refine J.iteF rfl ?_
    refine J.exit ?_
    refine J.seq ?_
    refine J.region ?_
    refine L.va rfl (X.assign (by conv => lhs; whnf)) ?_
    refine L.nil ?_
    refine J.ret ?_
    refine fin1 ?_
    exact ⟨rfl, Ext.refl _⟩
theorem eqf_real0 {w : World} (f : Value) : Calls Try.prog 44 #[.slice none 0 0, .slice none 0 0, f] w fun e w' => e = .returned (.bool true) ∧ Ext w w' := by
  refine enter Try.func44 rfl (by kernel_rfl) ?_
  refine J.seq ?_
  refine J.region ?_
  refine L.va rfl (X.assign (by conv => lhs; whnf)) ?_
  refine L.nil ?_
  refine J.seq ?_
  refine J.seq ?_
  refine J.region ?_
  refine L.va rfl (X.move (by conv => lhs; whnf)) ?_
  refine L.va rfl (X.len rfl Try.underlying59) ?_
  refine L.va rfl (X.move (by conv => lhs; whnf)) ?_
  refine L.va rfl (X.len rfl Try.underlying59) ?_
  refine L.va rfl (X.neq rfl rfl) ?_
  refine L.nil ?_
  refine J.ndecF rfl (by exact rfl) ?_
  refine J.skip ?_
  refine J.seq ?_
  refine J.seq ?_
  refine J.region ?_
  refine L.va rfl (X.move (by conv => lhs; whnf)) ?_
  refine L.va rfl (X.len rfl Try.underlying59) ?_
  refine L.va rfl (X.move (by conv => lhs; whnf)) ?_
  refine L.nil ?_
  refine J.block ?_
  refine J.loop (X := Unit) [6, 7, 8, 9, 17, 18, 19, 20, 21, 22, 23, 24, 25, 26, 27, 28, 29, 30, 31] (fun _ => [(17, .int .i64 0)]) (fun _ w' => w = w') (fun _ => 0) (()) (At1 (by first | rfl | exact at_int rfl (by omega) | exact at_slice rfl (by omega) | exact at_int rfl (by simp))) ?_ ?_
  · rfl
  · rintro ⟨⟩ g w2 rfl
    refine J.seq ?_
    refine J.region ?_
    refine L.va rfl (X.lss rfl rfl) ?_
    refine L.nil ?_
    refine J.seq ?_
    refine J.iteF rfl ?_
    refine J.exit ?_
    refine J.seq ?_
    refine J.region ?_
    refine L.va rfl (X.assign (by conv => lhs; whnf)) ?_
    refine L.nil ?_
    refine J.ret ?_
    refine fin1 ?_
    exact ⟨rfl, Ext.refl _⟩
abbrev ce (k : Nat) (n : Int) : Ce := ⟨k, n, none, 0, 0, [], none, 0, 0, []⟩
theorem aggsame0 {w : World} (k : Nat) (n : Int) (k' : Nat) (n' : Int) : Calls Try.prog 22 #[(ce k n).v, (ce k' n').v] w fun e w' => e = .returned (.bool (decide ((k : Int) = (k' : Int)) && decide (n = n'))) ∧ Ext w w' := by
  refine enter Try.func22 rfl (by kernel_rfl) ?_
  refine J.seq ?_
  refine J.region ?_
  refine L.boxA (l := [_, _, _, _]) rfl rfl ?_
  intro b1 w1 hb1 hs1 hk1 he1
  refine L.boxA (l := [_, _, _, _]) rfl rfl ?_
  intro b2 w2 hb2 hs2 hk2 he2
  have hk12 := hk1.ext he2
  have he := he1.trans he2
  refine L.va rfl (X.assign (by conv => lhs; whnf)) ?_
  refine L.nil ?_
  refine J.seq ?_
  refine J.region ?_
  refine L.va rfl (X.fieldAddr rfl Try.underlying61 rfl sz_36 (by decide)) ?_
  refine L.va rfl (X.load rfl sc_36 (by first | exact Ld.blk hk12 rfl | exact Ld.blk hk2 rfl)) ?_
  refine L.va rfl (X.fieldAddr rfl Try.underlying61 rfl sz_36 (by decide)) ?_
  refine L.va rfl (X.load rfl sc_36 (by first | exact Ld.blk hk12 rfl | exact Ld.blk hk2 rfl)) ?_
  refine L.va rfl (X.eql rfl rfl) ?_
  refine L.va rfl (X.move (by conv => lhs; whnf)) ?_
  refine L.caseDec (k := 10) rfl (fun h1 => ?_) (fun h1 => ?_)
  · rw [decide_eq_true h1]
    refine L.va rfl (X.fieldAddr rfl Try.underlying61 rfl sz_2 (by decide)) ?_
    refine L.va rfl (X.load rfl sc_2 (by first | exact Ld.blk hk12 rfl | exact Ld.blk hk2 rfl)) ?_
    refine L.va rfl (X.fieldAddr rfl Try.underlying61 rfl sz_2 (by decide)) ?_
    refine L.va rfl (X.load rfl sc_2 (by first | exact Ld.blk hk12 rfl | exact Ld.blk hk2 rfl)) ?_
    refine L.va rfl (X.eql rfl rfl) ?_
    refine L.va rfl (X.pickT rfl (by conv => lhs; whnf)) ?_
    refine L.va rfl (X.move (by conv => lhs; whnf)) ?_
    refine L.caseDec (k := 17) rfl (fun h2 => ?_) (fun h2 => ?_)
    · rw [decide_eq_true h2]
      refine L.va rfl (X.fieldAddr rfl Try.underlying61 rfl sz_58 (by decide)) ?_
      refine L.va rfl (X.load rfl sc_58 (by first | exact Ld.blk hk12 rfl | exact Ld.blk hk2 rfl)) ?_
      refine L.va rfl (X.fieldAddr rfl Try.underlying61 rfl sz_58 (by decide)) ?_
      refine L.va rfl (X.load rfl sc_58 (by first | exact Ld.blk hk12 rfl | exact Ld.blk hk2 rfl)) ?_
      refine L.call rfl en_41 rfl (eqf_whole0 _) ?_
      rintro e w3 ⟨rfl, he3⟩
      refine ⟨_, rfl, ?_⟩
      have he3 : Ext w2 w3 := he3
      replace hk12 := hk12.ext he3
      replace hk2 := hk2.ext he3
      refine L.va rfl (X.pickT rfl (by conv => lhs; whnf)) ?_
      refine L.va rfl (X.move (by conv => lhs; whnf)) ?_
      refine L.caseBT (k := 24) rfl (by rfl) ?_
      refine L.va rfl (X.fieldAddr rfl Try.underlying61 rfl sz_59 (by decide)) ?_
      refine L.va rfl (X.load rfl sc_59 (by first | exact Ld.blk hk12 rfl | exact Ld.blk hk2 rfl)) ?_
      refine L.va rfl (X.fieldAddr rfl Try.underlying61 rfl sz_59 (by decide)) ?_
      refine L.va rfl (X.load rfl sc_59 (by first | exact Ld.blk hk12 rfl | exact Ld.blk hk2 rfl)) ?_
      refine L.call rfl en_44 rfl (eqf_real0 _) ?_
      rintro e w4 ⟨rfl, he4⟩
      refine ⟨_, rfl, ?_⟩
      refine L.va rfl (X.pickT rfl (by conv => lhs; whnf)) ?_
      refine L.va rfl (X.assign (by conv => lhs; whnf)) ?_
      refine L.nil ?_
      refine J.ret ?_
      refine fin1 ?_
      exact ⟨rfl, (he.trans he3).trans he4⟩
    · rw [decide_eq_false h2]
      refine L.no rfl ?_
      refine L.no rfl ?_
      refine L.no rfl ?_
      refine L.no rfl ?_
      refine L.no rfl ?_
      refine L.va rfl (X.pickF rfl (by conv => lhs; whnf)) ?_
      refine L.va rfl (X.move (by conv => lhs; whnf)) ?_
      refine L.no rfl ?_
      refine L.no rfl ?_
      refine L.no rfl ?_
      refine L.no rfl ?_
      refine L.no rfl ?_
      refine L.va rfl (X.pickF rfl (by conv => lhs; whnf)) ?_
      refine L.va rfl (X.assign (by conv => lhs; whnf)) ?_
      refine L.nil ?_
      refine J.ret ?_
      refine fin1 ?_
      exact ⟨rfl, he⟩
  · rw [decide_eq_false h1]
    refine L.no rfl ?_
    refine L.no rfl ?_
    refine L.no rfl ?_
    refine L.no rfl ?_
    refine L.no rfl ?_
    refine L.va rfl (X.pickF rfl (by conv => lhs; whnf)) ?_
    refine L.va rfl (X.move (by conv => lhs; whnf)) ?_
    refine L.no rfl ?_
    refine L.no rfl ?_
    refine L.no rfl ?_
    refine L.no rfl ?_
    refine L.no rfl ?_
    refine L.va rfl (X.pickF rfl (by conv => lhs; whnf)) ?_
    refine L.va rfl (X.move (by conv => lhs; whnf)) ?_
    refine L.no rfl ?_
    refine L.no rfl ?_
    refine L.no rfl ?_
    refine L.no rfl ?_
    refine L.no rfl ?_
    refine L.va rfl (X.pickF rfl (by conv => lhs; whnf)) ?_
    refine L.va rfl (X.assign (by conv => lhs; whnf)) ?_
    refine L.nil ?_
    refine J.ret ?_
    refine fin1 ?_
    exact ⟨rfl, he⟩
theorem two_change : Two Try.prog 38 36 3 := ⟨by kernel_rfl, by kernel_rfl, by kernel_rfl, by kernel_rfl⟩
theorem awake43 (w : World) : Calls Try.prog 7 #[] w fun e w' => e = .returned (.bool true) ∧ Ext w w' := by
  refine enter Try.func7 rfl (by kernel_rfl) ?_
  refine J.seq ?_
  refine J.region ?_
  refine L.va rfl (X.assign (by conv => lhs; whnf)) ?_
  refine L.nil ?_
  refine J.seq ?_
  refine J.region ?_
  refine L.va rfl (X.build (l := [_, _, _, _]) (Evs.cons (by conv => lhs; whnf) (Evs.cons (by conv => lhs; whnf) Evs.nil)) (bld_run Try.underlying61 (bp_61 Try.underlying61) zr_61 rfl)) ?_
  refine L.va rfl (X.build (l := [_, _, _, _]) (Evs.cons (by conv => lhs; whnf) (Evs.cons (by conv => lhs; whnf) Evs.nil)) (bld_run Try.underlying61 (bp_61 Try.underlying61) zr_61 rfl)) ?_
  refine L.bsliceR (ls := [[_, _, _, _], [_, _, _, _]]) rfl (Evs.cons (by conv => lhs; whnf) (Evs.cons (by conv => lhs; whnf) Evs.nil)) rfl rfl rfl rfl Try.underlying22 sz_61 zr_61 (by decide) ?_
  intro b1 w1 hb1 hs1 hk1 he1
  refine L.va rfl (X.assign (by conv => lhs; whnf)) ?_
  refine L.nil ?_
  refine J.seq ?_
  refine J.region ?_
  refine L.va rfl (X.build (l := [_, _, _, _]) (Evs.cons (by conv => lhs; whnf) (Evs.cons (by conv => lhs; whnf) Evs.nil)) (bld_run Try.underlying61 (bp_61 Try.underlying61) zr_61 rfl)) ?_
  refine L.va rfl (X.build (l := [_, _, _, _]) (Evs.cons (by conv => lhs; whnf) (Evs.cons (by conv => lhs; whnf) Evs.nil)) (bld_run Try.underlying61 (bp_61 Try.underlying61) zr_61 rfl)) ?_
  refine L.bsliceR (ls := [[_, _, _, _], [_, _, _, _]]) rfl (Evs.cons (by conv => lhs; whnf) (Evs.cons (by conv => lhs; whnf) Evs.nil)) rfl rfl rfl rfl Try.underlying22 sz_61 zr_61 (by decide) ?_
  intro b2 w2 hb2 hs2 hk2 he2
  have he02 := he1.trans he2
  have hr1 : Reads w2 w2.heap.size 4 (some ⟨b1, 0, none⟩) 2 ([ce 1 1, ce 2 1].flatMap Ce.vals) := blk_readsN (hk1.ext he2) (hk1.ext he2).lt rfl
  have hr2 : Reads w2 w2.heap.size 4 (some ⟨b2, 0, none⟩) 2 ([ce 2 1, ce 3 1].flatMap Ce.vals) := blk_readsN hk2 hk2.lt rfl
  have em : mergeD (fun x y => decide (x.key = y.key) && decide (x.t = y.t)) [ce 1 1, ce 2 1] [ce 2 1, ce 3 1] = [(1, 1), (3, 2)] := by
    simp [mergeD]
  have cC := cells_ (Nat.le_refl _) (fun x y => decide (x.key = y.key) && decide (x.t = y.t)) (some ⟨b1, 0, none⟩) 2 [ce 1 1, ce 2 1] hr1 (by simp) (some ⟨b2, 0, none⟩) 2 [ce 2 1, ce 3 1] hr2 (by simp) (by simp) (fun x hx y hy w' hw => by
    simp only [List.mem_cons, List.not_mem_nil, or_false] at hx hy
    rcases hx with rfl | rfl <;> rcases hy with rfl | rfl <;> exact aggsame0 _ _ _ _) ⟨by decide, by decide⟩
  rw [em] at cC
  refine L.va rfl (X.assign (by conv => lhs; whnf)) ?_
  refine L.nil ?_
  refine J.seq ?_
  refine J.region ?_
  refine L.va rfl (X.move (by conv => lhs; whnf)) ?_
  refine L.va rfl (X.move (by conv => lhs; whnf)) ?_
  refine L.call rfl en_8 rfl (cC) ?_
  rintro e w3 ⟨oA, oc, rfl, ho3, he3⟩
  refine ⟨_, rfl, ?_⟩
  have he3 : Ext w2 w3 := he3
  have hro := Reads.of_own ho3
  have hA := hro.some_ (by decide)
  have hl2 : ([(1, 1), (3, 2)] : List (Int × Int)).length = 2 := rfl
  refine L.va rfl (X.move (by conv => lhs; whnf)) ?_
  refine L.va rfl (X.extract rfl rfl) ?_
  refine L.va rfl (X.extract rfl rfl) ?_
  refine L.va rfl (X.assign (by conv => lhs; whnf)) ?_
  refine L.va rfl (X.assign (by conv => lhs; whnf)) ?_
  refine L.nil ?_
  refine J.seq ?_
  refine J.region ?_
  refine L.va rfl (X.move (by conv => lhs; whnf)) ?_
  refine L.va rfl (X.eql rfl rfl) ?_
  refine L.va rfl (X.move (by conv => lhs; whnf)) ?_
  refine L.caseDecT (k := 19) rfl (by rfl) ?_
  refine L.va rfl (X.move (by conv => lhs; whnf)) ?_
  refine L.va rfl (X.len rfl Try.underlying25) ?_
  refine L.va rfl (X.eql rfl rfl) ?_
  refine L.va rfl (X.pickT rfl (by conv => lhs; whnf)) ?_
  refine L.va rfl (X.move (by conv => lhs; whnf)) ?_
  refine L.caseDecT (k := 24) rfl (by rfl) ?_
  refine L.va rfl (X.move (by conv => lhs; whnf)) ?_
  refine L.va rfl (X.indexAddrn (j := 0) rfl rfl Try.underlying25 sz_38 (by first | exact Option.some_ne_none _ | exact hA) (by omega)) ?_
  refine L.va rfl (X.loadRow (cs := [.int .u64 1, .int .i64 1]) rfl hro (fun r u hu => flat_row (f := chV) (i := 0) ch_len rfl r u hu) (Nat.zero_lt_succ _) Try.underlying38 rfl (by kernel_rfl)) ?_
  refine L.va rfl (X.build (l := [_, _]) (Evs.cons (by conv => lhs; whnf) (Evs.cons (by conv => lhs; whnf) Evs.nil)) (bld_run Try.underlying38 (bp_38 Try.underlying38) zr_38 rfl)) ?_
  refine L.va rfl (X.eqlTwo two_change rfl rfl sc_36 sc_3 (eq_int Try.underlying36) (eq_int Try.underlying3)) ?_
  refine L.va rfl (X.pickT rfl (by conv => lhs; whnf)) ?_
  refine L.va rfl (X.move (by conv => lhs; whnf)) ?_
  refine L.caseBT (k := 31) rfl (by rfl) ?_
  refine L.va rfl (X.move (by conv => lhs; whnf)) ?_
  refine L.va rfl (X.indexAddrn (j := 1) rfl rfl Try.underlying25 sz_38 (by first | exact Option.some_ne_none _ | exact hA) (by omega)) ?_
  refine L.va rfl (X.loadRow (cs := [.int .u64 3, .int .i64 2]) rfl hro (fun r u hu => flat_row (f := chV) (i := 1) ch_len rfl r u hu) (Nat.zero_lt_succ _) Try.underlying38 rfl (by kernel_rfl)) ?_
  refine L.va rfl (X.build (l := [_, _]) (Evs.cons (by conv => lhs; whnf) (Evs.cons (by conv => lhs; whnf) Evs.nil)) (bld_run Try.underlying38 (bp_38 Try.underlying38) zr_38 rfl)) ?_
  refine L.va rfl (X.eqlTwo two_change rfl rfl sc_36 sc_3 (eq_int Try.underlying36) (eq_int Try.underlying3)) ?_
  refine L.va rfl (X.pickT rfl (by conv => lhs; whnf)) ?_
  refine L.va rfl (X.assign (by conv => lhs; whnf)) ?_
  refine L.nil ?_
  refine J.ret ?_
  refine fin1 ?_
  exact ⟨rfl, he02.trans he3⟩
end Go.Proofs.Ytpomklkfedpkfaa
namespace Go.Proofs.Ytpomklkfedpkfaa
set_option maxRecDepth 100000
open Go.RowKit H
set_option linter.unusedVariables false
theorem rhas43 {w : World} {N : Nat} (A : Option Addr) (c : Nat) (l : List Ce) (key : Int) (hr : Reads w N 4 A l.length (l.flatMap Ce.vals)) (hm : l.length ≤ 1000000) : Calls Try.prog 24 #[.slice A l.length c, .int .u64 key] w fun e w' => w = w' ∧ ∃ r : Int, e = .returned (.int .i64 r) ∧ ((r = -1 ∧ ∀ x ∈ l, x.key ≠ key) ∨ ∃ i : Nat, r = (i : Int) ∧ i < l.length ∧ (l.getD i ce0).key = key) := by
  refine enter Try.func24 rfl (by kernel_rfl) ?_
  refine J.seq ?_
  refine J.region ?_
  refine L.va rfl (X.assign (by conv => lhs; whnf)) ?_
  refine L.nil ?_
  refine J.seq ?_
  refine J.seq ?_
  refine J.region ?_
  refine L.va rfl (X.assign (by conv => lhs; whnf)) ?_
  refine L.nil ?_
  refine J.block ?_
  refine J.loop (X := Nat) [4, 5, 6, 7, 8, 9, 10, 11, 12, 13, 14, 15, 16, 17, 18, 19] (fun i => [(5, .int .i64 (i : Int))]) (fun i w' => i ≤ l.length ∧ (∀ j, j < i → (l.getD j ce0).key ≠ key) ∧ w = w') (fun i => l.length - i) (0) (At1 (by first | rfl | exact at_int rfl (by omega) | exact at_slice rfl (by omega) | exact at_int rfl (by simp))) ?_ ?_
  · exact ⟨Nat.zero_le _, fun j hj => absurd hj (by omega), rfl⟩
  · rintro i g w2 ⟨hi, hP, rfl⟩
    refine J.seq ?_
    refine J.seq ?_
    refine J.region ?_
    refine L.va rfl (X.move (by conv => lhs; whnf)) ?_
    refine L.va rfl (X.move (by conv => lhs; whnf)) ?_
    refine L.va rfl (X.len rfl Try.underlying22) ?_
    refine L.va rfl (X.lss rfl rfl) ?_
    refine L.nil ?_
    refine J.dec rfl (fun hlt => ?_) (fun hlt => ?_)
    · have hil : i < l.length := by omega
      have hA := hr.some_ (by omega)
      have gi := gtX hil
      refine J.skip ?_
      refine J.seq ?_
      refine J.block ?_
      refine J.seq ?_
      refine J.region ?_
      refine L.va rfl (X.move (by conv => lhs; whnf)) ?_
      refine L.va rfl (X.move (by conv => lhs; whnf)) ?_
      refine L.va rfl ((by first | exact X.indexAddrn rfl rfl Try.underlying22 sz_61 (by first | exact Option.some_ne_none _ | exact hA) (by omega) | exact X.indexAddr rfl rfl Try.underlying22 sz_61 (by first | exact Option.some_ne_none _ | exact hA) (by omega))) ?_
      refine L.va rfl (X.fieldP rfl Try.underlying61 rfl sz_36 (by decide) (by first | exact Option.some_ne_none _ | exact hA)) ?_
      refine L.va rfl (X.load rfl sc_36 (by first | exact hA | exact Ld.flat2 ce_len hr gi (r := 0) rfl)) ?_
      refine L.va rfl (X.move (by conv => lhs; whnf)) ?_
      refine L.va rfl (X.eql rfl rfl) ?_
      refine L.nil ?_
      refine J.dec rfl (fun he => ?_) (fun he => ?_)
      · refine J.seq ?_
        refine J.region ?_
        refine L.va rfl (X.move (by conv => lhs; whnf)) ?_
        refine L.va rfl (X.assign (by conv => lhs; whnf)) ?_
        refine L.nil ?_
        refine J.ret ?_
        refine inB_ret <|  thn_ret <|  thn_ret <|  inB_ret <|  thn_ret <| ?_
        refine fin1 ?_
        exact ⟨rfl, _, rfl, .inr ⟨i, rfl, hil, he⟩⟩
      · refine J.skip ?_
        refine J.region ?_
        refine L.va rfl (X.move (by conv => lhs; whnf)) ?_
        refine L.va rfl (X.add rfl rfl (by omega)) ?_
        refine L.va rfl (X.assign (by conv => lhs; whnf)) ?_
        refine L.nil ?_
        refine ⟨i + 1, At1 (by first | rfl | exact at_int rfl (by omega) | exact at_slice rfl (by omega) | exact at_int rfl (by simp)), (by (iterate 14 refine Agr.lk rfl ?_); exact Agr.lk rfl (Agr.hav rfl Agr.rfl')), ?_⟩
        refine ⟨⟨by omega, fun j hj => ?_, rfl⟩, by omega⟩
        rcases Nat.lt_or_ge j i with h | h
        · exact hP j h
        · obtain rfl : j = i := by omega
          exact he
    · refine J.exit ?_
      refine J.seq ?_
      refine J.region ?_
      refine L.va rfl (X.assign (by conv => lhs; whnf)) ?_
      refine L.nil ?_
      refine J.ret ?_
      refine fin1 ?_
      refine ⟨rfl, _, rfl, .inl ⟨rfl, fun x hx e => ?_⟩⟩
      obtain ⟨j, hj, rfl⟩ := List.getElem_of_mem hx
      refine hP j (by omega) ?_
      rw [List.getD, List.getElem?_eq_getElem hj]
      exact e
theorem rrising15 {w : World} {N : Nat} (A : Option Addr) (c : Nat) (l : List Ce) (hr : Reads w N 4 A l.length (l.flatMap Ce.vals)) (hN : N ≤ w.heap.size) (hm : l.length ≤ 1000000) : Calls Try.prog 23 #[.slice A l.length c] w fun e w' => e = .returned (.bool (rise l)) ∧ Ext w w' := by
  refine enter Try.func23 rfl (by kernel_rfl) ?_
  refine J.seq ?_
  refine J.region ?_
  refine L.va rfl (X.assign (by conv => lhs; whnf)) ?_
  refine L.nil ?_
  refine J.seq ?_
  refine J.seq ?_
  refine J.region ?_
  refine L.va rfl (X.assign (by conv => lhs; whnf)) ?_
  refine L.nil ?_
  refine J.block ?_
  refine J.loop (X := Nat) [2, 3, 4, 5, 6, 7, 8, 9, 10, 11, 12, 13, 14, 15, 16, 17, 18, 19, 20, 21] (fun i => [(3, .int .i64 (i : Int))]) (fun i w' => 1 ≤ i ∧ (i ≤ l.length ∨ l.length = 0 ∧ i = 1) ∧ Ext w w' ∧ ∀ j, j + 1 < i → (l.getD j ce0).key < (l.getD (j + 1) ce0).key) (fun i => l.length + 1 - i) (1) (At1 (by first | rfl | exact at_int rfl (by omega) | exact at_slice rfl (by omega) | exact at_int rfl (by simp))) ?_ ?_
  · exact ⟨by omega, by omega, Ext.refl _, fun j hj => by omega⟩
  · rintro i g w2 ⟨h1, hi, he, hall⟩
    have hr2 := hr.low (Below.mono he hN) (Nat.le_refl _)
    have z := he.le
    refine J.seq ?_
    refine J.seq ?_
    refine J.region ?_
    refine L.va rfl (X.move (by conv => lhs; whnf)) ?_
    refine L.va rfl (X.move (by conv => lhs; whnf)) ?_
    refine L.va rfl (X.len rfl Try.underlying22) ?_
    refine L.va rfl (X.lss rfl rfl) ?_
    refine L.nil ?_
    refine J.dec rfl (fun hlt => ?_) (fun hlt => ?_)
    · have hil : i < l.length := by omega
      have hA := hr2.some_ (by omega)
      obtain ⟨j, rfl⟩ : ∃ j, i = j + 1 := ⟨i - 1, by omega⟩
      have gi := gtX hil
      have gj := gtX (show j < l.length by omega)
      have hrow1 := fun (w' : World) (hw : Ext w2 w') => hr2.low (Below.mono hw (by omega)) (Nat.le_refl _)
      generalize hx : l.getD (j + 1) ce0 = x at *
      generalize hy : l.getD j ce0 = y at *
      have kx : x.key = (x.k : Int) := rfl
      have ky : y.key = (y.k : Int) := rfl
      refine J.skip ?_
      refine J.seq ?_
      refine J.block ?_
      refine J.seq ?_
      refine J.quiet mixed (by kernel_rfl) ?_
      refine Qt.va rfl (fun w' hw => X.move (by conv => lhs; whnf)) ?_
      refine Qt.va rfl (fun w' hw => X.move (by conv => lhs; whnf)) ?_
      refine Qt.va rfl (fun w' hw => (by first | exact X.indexAddrn rfl rfl Try.underlying22 sz_61 (by first | exact Option.some_ne_none _ | exact hA) (by omega) | exact X.indexAddr rfl rfl Try.underlying22 sz_61 (by first | exact Option.some_ne_none _ | exact hA) (by omega))) ?_
      refine Qt.va rfl (fun w' hw => X.fieldP rfl Try.underlying61 rfl sz_36 (by decide) (by first | exact Option.some_ne_none _ | exact hA)) ?_
      refine Qt.va rfl (fun w' hw => X.load rfl sc_36 (Ld.flat2 ce_len (hrow1 w' hw) gi (r := 0) rfl)) ?_
      refine Qt.va rfl (fun w' hw => X.move (by conv => lhs; whnf)) ?_
      refine Qt.va rfl (fun w' hw => X.move (by conv => lhs; whnf)) ?_
      refine Qt.va rfl (fun w' hw => X.sub rfl rfl (by omega)) ?_
      refine Qt.va rfl (fun w' hw => X.indexAddrn (j := j) rfl (show Value.int .i64 (((j + 1 : Nat) : Int) - 1) = _ by rw [show (((j + 1 : Nat) : Int) - 1) = (j : Int) by omega]) Try.underlying22 sz_61 hA (by omega)) ?_
      refine Qt.va rfl (fun w' hw => X.fieldP rfl Try.underlying61 rfl sz_36 (by decide) hA) ?_
      refine Qt.va rfl (fun w' hw => X.load rfl sc_36 (Ld.flat2 ce_len (hrow1 w' hw) gj (r := 0) rfl)) ?_
      refine Qt.va rfl (fun w' hw => X.leq rfl rfl) ?_
      refine Qt.nil (fun w3 hq => ?_)
      have he3 := he.trans hq
      refine J.dec rfl (fun hle => ?_) (fun hle => ?_)
      · have e : rise l = false := by
          rw [← Bool.not_eq_true, rise_at]
          intro h
          have := h j hil
          rw [hx, hy] at this
          omega
        rw [e]
        refine J.seq ?_
        refine J.region ?_
        refine L.va rfl (X.assign (by conv => lhs; whnf)) ?_
        refine L.nil ?_
        refine J.ret ?_
        refine inB_ret <|  thn_ret <|  thn_ret <|  inB_ret <|  thn_ret <| ?_
        refine fin1 ?_
        exact ⟨rfl, he3⟩
      · refine J.skip ?_
        refine J.region ?_
        refine L.va rfl (X.move (by conv => lhs; whnf)) ?_
        refine L.va rfl (X.add rfl rfl (by omega)) ?_
        refine L.va rfl (X.assign (by conv => lhs; whnf)) ?_
        refine L.nil ?_
        refine ⟨(j + 1) + 1, At1 (by first | rfl | exact at_int rfl (by omega) | exact at_slice rfl (by omega) | exact at_int rfl (by simp)), (by (iterate 19 refine Agr.lk rfl ?_); exact Agr.lk rfl (Agr.hav rfl Agr.rfl')), ?_⟩
        refine ⟨⟨by omega, by omega, he3, fun k hk => ?_⟩, by omega⟩
        rcases Nat.lt_or_ge k j with h2 | h2
        · exact hall k (by omega)
        · obtain rfl : k = j := by omega
          rw [hx, hy]
          omega
    · have e : rise l = true := by
        rw [rise_at]
        intro j hj
        exact hall j (by omega)
      rw [e]
      refine J.exit ?_
      refine J.seq ?_
      refine J.region ?_
      refine L.va rfl (X.assign (by conv => lhs; whnf)) ?_
      refine L.nil ?_
      refine J.ret ?_
      refine fin1 ?_
      exact ⟨rfl, he⟩
def insC (l : List (Int × Int)) (p : Int × Int) : List (Int × Int) := l.takeWhile (fun q => decide (q.1 < p.1)) ++ [p] ++ l.dropWhile (fun q => decide (q.1 < p.1))
theorem flat_take' {X : Type} {f : X → List Value} {sz : Nat} (h : ∀ x, (f x).length = sz) : ∀ (l : List X) (k : Nat), (l.flatMap f).take (k * sz) = (l.take k).flatMap f
  | [], k => by simp
  | x :: t, 0 => by simp
  | x :: t, k + 1 => by
    rw [List.flatMap_cons, List.take_succ_cons, List.flatMap_cons, show (k + 1) * sz = (f x).length + k * sz by rw [h, Nat.succ_mul, Nat.add_comm], List.take_length_add_append, flat_take' h t k]
theorem flat_drop' {X : Type} {f : X → List Value} {sz : Nat} (h : ∀ x, (f x).length = sz) : ∀ (l : List X) (k : Nat), (l.flatMap f).drop (k * sz) = (l.drop k).flatMap f
  | [], k => by simp
  | x :: t, 0 => by simp
  | x :: t, k + 1 => by
    rw [List.flatMap_cons, List.drop_succ_cons, show (k + 1) * sz = (f x).length + k * sz by rw [h, Nat.succ_mul, Nat.add_comm], List.drop_length_add_append, flat_drop' h t k]
theorem gtC {l : List (Int × Int)} {i : Nat} (h : i < l.length) : l[i]? = some (l.getD i (0, 0)) := by rw [List.getD, List.getElem?_eq_getElem h]; rfl
theorem own_lowB {w : World} {base base' e sz n : Nat} {v : Value} {xs : List Value} (h : w.ownsRow base e sz v n xs) (hb : base' ≤ base) : w.ownsRow base' e sz v n xs := by
  refine ⟨h.1, ?_⟩
  rcases h.2 with h1 | ⟨b, cap, cur, h1, h2, h3⟩
  · exact .inl h1
  · exact .inr ⟨b, cap, cur, h1, Nat.le_trans hb h2, h3⟩
end Go.Proofs.Ytpomklkfedpkfaa
namespace Go.Proofs.Ytpomklkfedpkfaa
set_option maxRecDepth 100000
open Go.RowKit H
set_option linter.unusedVariables false
theorem clone32 (A : Option Addr) (n c : Nat) (l : List Int) (w : World) (hr : Reads w w.heap.size 1 A n (nums .u32 l)) (hn : n ≤ 5000) : Calls Try.prog 65 #[.slice A n c] w fun e w' => ∃ A' c', e = .returned (.slice A' n c') ∧ w'.ownsRow w.heap.size 53 1 (.slice A' n c') n (nums .u32 l) ∧ Ext w w' := by
  have hl : l.length = n := by have := hr.1; simpa [nums] using this
  refine enter Try.func65 rfl (by kernel_rfl) ?_
  refine J.seq ?_
  refine J.region ?_
  refine L.va rfl (X.assign (by conv => lhs; whnf)) ?_
  refine L.nil ?_
  refine J.seq ?_
  refine J.seq ?_
  refine J.region ?_
  refine L.va rfl (X.move (by conv => lhs; whnf)) ?_
  refine L.va rfl (X.eqlNil rfl rfl Try.underlying45) ?_
  refine L.nil ?_
  rcases A with _ | a
  · obtain rfl : n = 0 := by
      apply Decidable.byContradiction
      intro h
      exact hr.some_ (by omega) rfl
    obtain rfl : l = [] := List.length_eq_zero_iff.1 hl
    refine J.iteT rfl ?_
    refine J.seq ?_
    refine J.region ?_
    refine L.va rfl (X.assign (by conv => lhs; whnf)) ?_
    refine L.nil ?_
    refine J.ret ?_
    refine thn_ret <| ?_
    refine fin1 ?_
    exact ⟨none, 0, rfl, own_nil _ _ _ _, Ext.refl _⟩
  · refine J.iteF rfl ?_
    refine J.skip ?_
    refine J.seq ?_
    refine J.region ?_
    refine L.bslice (vs := []) rfl Evs.nil rfl rfl rfl rfl Try.underlying45 sz_53 zr_53 (by decide) ?_
    intro b1 w1 hb1 hs1 hk1 he1
    have ho1 : w1.ownsRow w.heap.size 53 1 (.slice (some ⟨b1, 0, none⟩) 0 0) 0 (nums .u32 []) := blk_own1 (q := 0) (l := []) hk1 (by omega) (Nat.zero_le _) rfl
    have z1 := he1.le
    refine L.va rfl (X.move (by conv => lhs; whnf)) ?_
    refine L.appendQ (q := n) (ys := l) rfl rfl rfl Try.underlying45 el_53 (ho1) (hr.ext he1) (by omega) (by simp) (by unfold maxLen; omega) (by omega) ?_
    intro A2 c2 w2 ho2 hg2 hb2 hor2
    refine L.va rfl (X.assign (by conv => lhs; whnf)) ?_
    refine L.nil ?_
    refine J.ret ?_
    refine fin1 ?_
    exact ⟨A2, c2, rfl, ho2, he1.grw hg2 (by intro g hg; injection hg with hg; subst hg; show w.heap.size ≤ b1; omega)⟩
structure Wh.Own (x : Wh) (N : Nat) (w : World) : Prop where
  r : Reads w N 1 x.A x.n (nums .u32 x.q) ∨ w.ownsRow N 53 1 (.slice x.A x.n x.c) x.n (nums .u32 x.q)
  m : x.n ≤ maxLen
  o : x.Ok
structure Re.Own (x : Re) (N : Nat) (w : World) : Prop where
  r : Reads w N 1 x.A x.n (nums .u8 x.b) ∨ w.ownsRow N 5 1 (.slice x.A x.n x.c) x.n (nums .u8 x.b)
  m : x.n ≤ maxLen
  o : x.Ok
section
variable {N : Nat} {w w' : World}
theorem Wh.Own.ext {x : Wh} (h : x.Own N w) (he : Ext w w') : x.Own N w' := ⟨h.r.imp (fun r => r.ext he) (fun r => r.ext he), h.m, h.o⟩
theorem Re.Own.ext {x : Re} (h : x.Own N w) (he : Ext w w') : x.Own N w' := ⟨h.r.imp (fun r => r.ext he) (fun r => r.ext he), h.m, h.o⟩
theorem Wh.Own.put {x : Wh} (h : x.Own N w) {t : Nat} (hb : Below N w w') (hC : TCh t w w') (hne : 53 ≠ t) : x.Own N w' := ⟨h.r.imp (fun r => r.low hb (Nat.le_refl _)) (fun r => hC.own r hne), h.m, h.o⟩
theorem Re.Own.put {x : Re} (h : x.Own N w) {t : Nat} (hb : Below N w w') (hC : TCh t w w') (hne : 5 ≠ t) : x.Own N w' := ⟨h.r.imp (fun r => r.low hb (Nat.le_refl _)) (fun r => hC.own r hne), h.m, h.o⟩
theorem Wh.Own.at {x : Wh} (h : x.Own N w) (hN : N ≤ w.heap.size) : x.At w.heap.size w := ⟨h.r.elim (fun r => r.more hN) (fun r => Reads.of_own r), h.m, h.o⟩
theorem Re.Own.at {x : Re} (h : x.Own N w) (hN : N ≤ w.heap.size) : x.At w.heap.size w := ⟨h.r.elim (fun r => r.more hN) (fun r => Reads.of_own r), h.m, h.o⟩
end
theorem map_setD {α β : Type} {f : α → β} {l : List α} {d : α} {i : Nat} {y : α} (hi : i < l.length) (h : f y = f (l.getD i d)) : (l.set i y).map f = l.map f := by
  apply List.ext_getElem (by simp)
  intro j h1 h2
  rw [List.getElem_map, List.getElem_map, List.getElem_set]
  by_cases e : i = j
  · subst e
    rw [if_pos rfl, h, List.getD, List.getElem?_eq_getElem hi]
    rfl
  · rw [if_neg e]
structure Ce.Own (x : Ce) (N : Nat) (w : World) : Prop where
  k : x.k < 18446744073709551616
  t : In64 x.t
  i : w.ownsRow N 90 5 (.slice x.Ai x.ni x.ci) x.ni (x.is.flatMap Wh.vs)
  hi : ∀ y ∈ x.is, y.Own N w
  li : x.is.length = x.ni
  r : w.ownsRow N 94 3 (.slice x.Ar x.nr x.cr) x.nr (x.rs.flatMap Re.vs)
  hr : ∀ y ∈ x.rs, y.Own N w
  lr : x.rs.length = x.nr
  L : x.Lt
section
variable {x : Ce} {N : Nat} {w w' : World}
theorem Ce.Own.ext (h : x.Own N w) (he : Ext w w') : x.Own N w' := ⟨h.k, h.t, h.i.ext he, fun y hy => (h.hi y hy).ext he, h.li, h.r.ext he, fun y hy => (h.hr y hy).ext he, h.lr, h.L⟩
theorem Ce.Own.put (h : x.Own N w) {t : Nat} (hb : Below N w w') (hC : TCh t w w') (hne : 53 ≠ t ∧ 5 ≠ t ∧ 90 ≠ t ∧ 94 ≠ t) : x.Own N w' := ⟨h.k, h.t, hC.own h.i hne.2.2.1, fun y hy => (h.hi y hy).put hb hC hne.1, h.li, hC.own h.r hne.2.2.2, fun y hy => (h.hr y hy).put hb hC hne.2.1, h.lr, h.L⟩
theorem Ce.Own.at (h : x.Own N w) (hN : N ≤ w.heap.size) : x.At w.heap.size w := ⟨h.k, h.t, Reads.of_own h.i, fun y hy => (h.hi y hy).at hN, h.li, by have := h.L.i; unfold maxLen; omega, Reads.of_own h.r, fun y hy => (h.hr y hy).at hN, h.lr, by have := h.L.r; unfold maxLen; omega⟩
end
theorem copied (x : Ce) {N : Nat} (w : World) (hN : N ≤ w.heap.size) (hx : x.At N w) (hL : x.Lt) : Calls Try.prog 51 #[x.val] w fun e w' => ∃ y : Ce, e = .returned y.val ∧ y.con = x.con ∧ y.Own N w' ∧ Ext w w' := by
  obtain ⟨k, t, Ai, ni, ci, is, Ar, nr, cr, rs⟩ := x
  have li : is.length = ni := hx.li
  have lr : rs.length = nr := hx.lr
  have Li : ni ≤ 10 := hL.i
  have Lr : nr ≤ 10 := hL.r
  have hri : Reads w w.heap.size 5 Ai ni (is.flatMap Wh.vs) := hx.i.more hN
  have hrr : Reads w w.heap.size 3 Ar nr (rs.flatMap Re.vs) := hx.r.more hN
  refine enter Try.func51 rfl (by kernel_rfl) ?_
  refine J.seq ?_
  refine J.region ?_
  refine L.boxA (l := [_, _, _, _]) rfl rfl ?_
  intro b1 w1 hb1 hs1 hk1 he1
  have hk1 : Blk w1 b1 61 (Ce.mk k t Ai ni ci is Ar nr cr rs).vs.toArray := hk1
  refine L.alloc rfl zr_61 ?_
  intro b2 w2 hb2 hs2 hk2 he2
  have he02 := he1.trans he2
  have hk1 := hk1.ext he2
  have z2 := he02.le
  refine L.nil ?_
  refine J.seq ?_
  refine J.region ?_
  refine L.va rfl (X.fieldAddr rfl Try.underlying61 rfl sz_58 (by decide)) ?_
  refine L.va rfl (X.load rfl sc_58 (by first | exact Ld.blk hk1 rfl)) ?_
  have c1 := cloneWh Ai ni ci is w2 ((hri.ext he02).more z2) (by omega) li
  refine L.call rfl en_64 rfl (c1) ?_
  rintro e w3 ⟨A3, c3, rfl, ho3, he3⟩
  refine ⟨_, rfl, ?_⟩
  have z3 := he3.le
  have hk1 := hk1.ext he3
  have hk2 := hk2.ext he3
  refine L.va rfl (X.fieldAddr rfl Try.underlying61 rfl sz_58 (by decide)) ?_
  refine L.store rfl rfl (by conv => lhs; whnf) rfl sz_58 (hk1) (by first | decide | exact Nat.le_of_ble_eq_true rfl) ?_
  intro w4 hk4 hg4 hs4
  have hk4 : Blk w4 b1 61 (Ce.mk k t A3 ni c3 is Ar nr cr rs).vs.toArray := hk4
  have ho4 := own_lowB (ho3.kept hg4 (.inr (own_blk_ne ho3 hk1 (by decide)))) z2
  have hk2 := hk2.grown hg4 (fun e => by injection e with e; omega)
  have he04 : Ext w w4 := (he02.trans he3).grw hg4 (by intro g hg; injection hg with hg; omega)
  have z4 := he04.le
  refine L.nil ?_
  refine J.seq ?_
  refine J.seq ?_
  refine J.region ?_
  refine L.va rfl (X.fieldAddr rfl Try.underlying61 rfl sz_58 (by decide)) ?_
  refine L.va rfl (X.load rfl sc_58 (by first | exact Ld.blk hk4 rfl)) ?_
  refine L.va rfl (X.len rfl Try.underlying58) ?_
  refine L.va rfl (X.move (by conv => lhs; whnf)) ?_
  refine L.nil ?_
  refine J.block ?_
  refine J.loop (X := Nat × List Wh) [3, 12, 13, 14, 15, 16, 17, 18, 19, 20, 21, 22, 23, 24, 25, 26, 27] (fun (i, js) => [(12, .int .i64 (i : Int))]) (fun (i, js) w' => i ≤ ni ∧ js.length = ni ∧ js.map Wh.con = is.map Wh.con ∧ (∀ y ∈ js, y.Own N w' ∧ y.n ≤ 20) ∧ w'.ownsRow w.heap.size 90 5 (.slice A3 ni c3) ni (js.flatMap Wh.vs) ∧ Blk w' b1 61 (Ce.mk k t A3 ni c3 is Ar nr cr rs).vs.toArray ∧ Blk w' b2 61 #[.int .u64 0, .int .i64 0, .slice none 0 0, .slice none 0 0] ∧ Ext w w' ∧ w.heap.size ≤ w'.heap.size) (fun (i, _) => ni - i) ((0, is)) (At1 (by first | rfl | exact at_int rfl (by omega) | exact at_slice rfl (by omega) | exact at_int rfl (by simp))) ?_ ?_
  · refine ⟨Nat.zero_le _, li, rfl, fun y hy => ⟨⟨.inl ?_, (hx.hi y hy).m, (hx.hi y hy).o⟩, hL.li y hy⟩, ho4, hk4, hk2, he04, by omega⟩
    exact (hx.hi y hy).r.ext he04
  · rintro ⟨i, js⟩ g w5 ⟨hi, hl5, hc5, hj5, ho5, hk5, hq5, he5, z5⟩
    refine J.seq ?_
    refine J.region ?_
    refine L.va rfl (X.lss rfl rfl) ?_
    refine L.nil ?_
    refine J.seq ?_
    refine J.dec rfl (fun hlt => ?_) (fun hlt => ?_)
    · have hlt : (i : Int) < (ni : Int) := hlt
      have hin : i < js.length := by omega
      obtain ⟨x, hx5⟩ : ∃ x, x = js.getD i wh0 := ⟨_, rfl⟩
      have gx := gtW (l := js) (i := i) hin
      have mx := memD (l := js) (i := i) (d := wh0) hin
      rw [← hx5] at gx mx
      have xO := (hj5 x mx).1
      have xn := (hj5 x mx).2
      have hA := own_ne ho5 (by omega)
      refine J.skip ?_
      refine J.seq ?_
      refine J.block ?_
      refine J.seq ?_
      refine J.region ?_
      refine L.va rfl (X.move (by conv => lhs; whnf)) ?_
      refine L.va rfl (X.assign (by conv => lhs; whnf)) ?_
      refine L.nil ?_
      refine J.draw (ℓ := 12) (S := Ext w5) mixed (fun w6 hS hS_h => ?_)
      refine D.va 0 rfl (by kernel_rfl) (fun _ _ _ h => h) rfl (fun w' hw => X.fieldAddr rfl Try.underlying61 rfl sz_58 (by decide)) hS ?_
      refine D.va 1 rfl (by kernel_rfl) (fun _ _ _ h => h) rfl (fun w' hw => X.load rfl sc_58 (by first | exact Ld.blk (hk5.ext hw) rfl | exact hA | exact Ld.flat2 wh_len (Reads.of_own (ho5.ext hw)) gx (r := 2) rfl)) hS ?_
      refine D.va 2 rfl (by kernel_rfl) (fun _ _ _ h => h) rfl (fun w' hw => X.move (by conv => lhs; whnf)) hS ?_
      refine D.va 3 rfl (by kernel_rfl) (fun _ _ _ h => h) rfl (fun w' hw => X.fieldAddr rfl Try.underlying61 rfl sz_58 (by decide)) hS ?_
      refine D.va 4 rfl (by kernel_rfl) (fun _ _ _ h => h) rfl (fun w' hw => X.load rfl sc_58 (by first | exact Ld.blk (hk5.ext hw) rfl | exact hA | exact Ld.flat2 wh_len (Reads.of_own (ho5.ext hw)) gx (r := 2) rfl)) hS ?_
      refine D.va 5 rfl (by kernel_rfl) (fun _ _ _ h => h) rfl (fun w' hw => X.move (by conv => lhs; whnf)) hS ?_
      refine D.va 6 rfl (by kernel_rfl) (fun _ _ _ h => h) rfl (fun w' hw => (by first | exact X.indexAddrn rfl rfl Try.underlying58 sz_90 (by first | exact Option.some_ne_none _ | exact hA) (by omega) | exact X.indexAddr rfl rfl Try.underlying58 sz_90 (by first | exact Option.some_ne_none _ | exact hA) (by omega))) hS ?_
      refine D.va 7 rfl (by kernel_rfl) (fun _ _ _ h => h) rfl (fun w' hw => X.fieldP rfl Try.underlying90 rfl sz_45 (by decide) (by first | exact Option.some_ne_none _ | exact hA)) hS ?_
      refine D.va 8 rfl (by kernel_rfl) (fun _ _ _ h => h) rfl (fun w' hw => X.load rfl sc_45 (by first | exact Ld.blk (hk5.ext hw) rfl | exact hA | exact Ld.flat2 wh_len (Reads.of_own (ho5.ext hw)) gx (r := 2) rfl)) hS ?_
      have zS := hS.le
      have c2 := clone32 x.A x.n x.c x.q _ ((xO.ext hS).at (by omega)).r (by omega)
      refine D.one 9 (by kernel_rfl) rfl ?_
      refine L.call rfl en_65 rfl (c2) ?_
      rintro e w7 ⟨A7, c7, rfl, ho7, he7⟩
      refine ⟨_, rfl, ?_⟩
      have hS1 := hS.trans he7
      refine L.nil ?_
      refine ⟨fun _ => hS1, ?_⟩
      have z7 := he7.le
      have ho57 := (ho5.ext hS).ext he7
      refine D.va 10 rfl (by kernel_rfl) (fun _ _ _ h => h) rfl (fun w' hw => (by first | exact X.indexAddrn rfl rfl Try.underlying58 sz_90 (by first | exact Option.some_ne_none _ | exact hA) (by omega) | exact X.indexAddr rfl rfl Try.underlying58 sz_90 (by first | exact Option.some_ne_none _ | exact hA) (by omega))) hS1 ?_
      refine D.va 11 rfl (by kernel_rfl) (fun _ _ _ h => h) rfl (fun w' hw => X.fieldP rfl Try.underlying90 rfl sz_45 (by decide) (by first | exact Option.some_ne_none _ | exact hA)) hS1 ?_
      refine D.one 12 (by kernel_rfl) rfl ?_
      refine L.storeO rfl rfl (by conv => lhs; whnf) rfl sz_45 (ho57) (by first | omega | (simp; omega)) ?_
      intro w8 ho8 hg8 hb8 hs8
      refine L.nil ?_
      refine ⟨fun h => absurd rfl h, ?_⟩
      have hC8 : TCh 90 w7 w8 := TCh.row ho57 hg8
      obtain ⟨y, hy⟩ : ∃ y : Wh, y = ⟨x.s, x.a, A7, x.n, c7, x.q, x.lo, x.hi⟩ := ⟨_, rfl⟩
      have hset := flat_set (f := Wh.vs) (r := 2) (v := .slice A7 x.n c7) (y := y) wh_len js i hin (by omega) (by
        have e : js[i]'hin = x := by
          have := gx
          rw [List.getElem?_eq_getElem hin] at this
          injection this
        rw [e, hy]
        rfl)
      have ho8 : w8.ownsRow w.heap.size 90 5 (.slice A3 ni c3) ni ((js.set i y).flatMap Wh.vs) := by
        rw [← hset]
        exact ho8
      have hcy : y.con = (js.getD i wh0).con := by rw [hy, ← hx5]
      have hN7 : w.heap.size ≤ w7.heap.size := by omega
      have yO : y.Own N w8 := by
        rw [hy]
        exact Wh.Own.put ⟨.inr (own_lowB ho7 (by omega)), xO.m, ⟨xO.o.s, xO.o.a, xO.o.q, xO.o.lo, xO.o.hi⟩⟩ (Below.mono hb8 hN) hC8 (by decide)
      have hk8 := hC8.blk ((hk5.ext hS).ext he7) (by decide)
      have hq8 := ((hq5.ext hS).ext he7)
      have e8 : Ext w w8 := ((he5.trans hS).trans he7).grw hg8 (fun g hg => by have := (ho57.lt g hg).1; omega)
      have hq8' := hC8.blk hq8 (by decide)
      refine D.done (by kernel_rfl) ?_
      replace hk5 := hk5.ext hS1
      refine J.region ?_
      refine L.va rfl (X.add rfl rfl (by omega)) ?_
      refine L.va rfl (X.move (by conv => lhs; whnf)) ?_
      refine L.nil ?_
      refine ⟨(i + 1, js.set i y), At1 (by first | rfl | exact at_int rfl (by omega) | exact at_slice rfl (by omega) | exact at_int rfl (by simp)), (by (iterate 17 refine Agr.lk rfl ?_); exact Agr.lk rfl (Agr.hav rfl Agr.rfl')), ?_⟩
      refine ⟨⟨by omega, by rw [List.length_set]; exact hl5, by rw [map_setD hin hcy]; exact hc5, fun z hz => ?_, ho8, hk8, hq8', e8, by omega⟩, by show ni - (i + 1) < ni - i; omega⟩
      rcases List.mem_or_eq_of_mem_set hz with hz | rfl
      · exact ⟨(((hj5 z hz).1.ext hS).ext he7).put (Below.mono hb8 hN) hC8 (by decide), (hj5 z hz).2⟩
      · exact ⟨yO, by rw [hy]; exact xn⟩
    · have hlt : ¬ (i : Int) < (ni : Int) := hlt
      obtain rfl : i = ni := by omega
      have c6 := cloneRe Ar nr cr rs w5 ((hrr.ext he5).more he5.le) (by omega) lr
      refine J.exit ?_
      refine J.seq ?_
      refine J.region ?_
      refine L.va rfl (X.fieldAddr rfl Try.underlying61 rfl sz_59 (by decide)) ?_
      refine L.va rfl (X.load rfl sc_59 (by first | exact Ld.blk hk5 rfl)) ?_
      refine L.call rfl en_66 rfl (c6) ?_
      rintro e w6 ⟨A6, c6', rfl, ho6, he6⟩
      refine ⟨_, rfl, ?_⟩
      have z6 := he6.le
      have hk6 := hk5.ext he6
      have hq6 := hq5.ext he6
      refine L.va rfl (X.fieldAddr rfl Try.underlying61 rfl sz_59 (by decide)) ?_
      refine L.store rfl rfl (by conv => lhs; whnf) rfl sz_59 (hk6) (by first | decide | exact Nat.le_of_ble_eq_true rfl) ?_
      intro w7 hk7 hg7 hs7
      have hk7 : Blk w7 b1 61 (Ce.mk k t A3 i c3 js A6 nr c6' rs).vs.toArray := hk7
      have hC7 : TCh 61 w6 w7 := TCh.put hk6 hg7
      have ho7 := hC7.own ho6 (by decide)
      have hw7 := hC7.own (ho5.ext he6) (by decide)
      have hq7 := hq6.grown hg7 (fun e => by injection e with e; omega)
      have e7 : Ext w w7 := (he5.trans he6).grw hg7 (by intro g hg; injection hg with hg; omega)
      have z7 := e7.le
      have b7 : Below w.heap.size w6 w7 := Chg.below (.of_grown hg7 (S := fun g => g = b1) (fun g hg => by injection hg with hg; exact hg.symm)) (by omega) (fun g hg => by omega)
      have hw8 : ∀ y ∈ js, y.Own N w7 ∧ y.n ≤ 20 := fun y hy => ⟨((hj5 y hy).1.ext he6).put (Below.mono b7 hN) hC7 (by decide), (hj5 y hy).2⟩
      have ho7 := own_lowB ho7 z5
      refine L.nil ?_
      refine J.seq ?_
      refine J.seq ?_
      refine J.region ?_
      refine L.va rfl (X.fieldAddr rfl Try.underlying61 rfl sz_59 (by decide)) ?_
      refine L.va rfl (X.load rfl sc_59 (by first | exact Ld.blk hk7 rfl)) ?_
      refine L.va rfl (X.len rfl Try.underlying59) ?_
      refine L.va rfl (X.move (by conv => lhs; whnf)) ?_
      refine L.nil ?_
      refine J.block ?_
      refine J.loop (X := Nat × List Re) [4, 35, 36, 37, 38, 39, 40, 41, 42, 43, 44, 45, 46, 47, 48, 49, 50] (fun (i, js) => [(35, .int .i64 (i : Int))]) (fun (j, ks) w' => j ≤ nr ∧ ks.length = nr ∧ ks.map Re.con = rs.map Re.con ∧ (∀ y ∈ ks, y.Own N w' ∧ y.n ≤ 300) ∧ (∀ y ∈ js, y.Own N w' ∧ y.n ≤ 20) ∧ w'.ownsRow w.heap.size 94 3 (.slice A6 nr c6') nr (ks.flatMap Re.vs) ∧ w'.ownsRow w.heap.size 90 5 (.slice A3 i c3) i (js.flatMap Wh.vs) ∧ Blk w' b1 61 (Ce.mk k t A3 i c3 js A6 nr c6' rs).vs.toArray ∧ Blk w' b2 61 #[.int .u64 0, .int .i64 0, .slice none 0 0, .slice none 0 0] ∧ Ext w w' ∧ w.heap.size ≤ w'.heap.size) (fun (i, _) => nr - i) ((0, rs)) (At1 (by first | rfl | exact at_int rfl (by omega) | exact at_slice rfl (by omega) | exact at_int rfl (by simp))) ?_ ?_
      · refine ⟨Nat.zero_le _, lr, rfl, fun y hy => ⟨⟨.inl ((hx.hr y hy).r.ext e7), (hx.hr y hy).m, (hx.hr y hy).o⟩, hL.lr y hy⟩, hw8, ho7, hw7, hk7, hq7, e7, z7⟩
      · rintro ⟨j, ks⟩ g w9 ⟨hj, hl9, hc9, hk9, hj9, ho9, hi9, hb9, hq9, e9, z9⟩
        refine J.seq ?_
        refine J.region ?_
        refine L.va rfl (X.lss rfl rfl) ?_
        refine L.nil ?_
        refine J.seq ?_
        refine J.dec rfl (fun hlt2 => ?_) (fun hlt2 => ?_)
        · have hlt2 : (j : Int) < (nr : Int) := hlt2
          have hin : j < ks.length := by omega
          obtain ⟨x, hx9⟩ : ∃ x, x = ks.getD j re0 := ⟨_, rfl⟩
          have gx := gtR (l := ks) (i := j) hin
          have mx := memD (l := ks) (i := j) (d := re0) hin
          rw [← hx9] at gx mx
          have xO := (hk9 x mx).1
          have xn := (hk9 x mx).2
          have hA := own_ne ho9 (by omega)
          refine J.skip ?_
          refine J.seq ?_
          refine J.block ?_
          refine J.seq ?_
          refine J.region ?_
          refine L.va rfl (X.move (by conv => lhs; whnf)) ?_
          refine L.va rfl (X.assign (by conv => lhs; whnf)) ?_
          refine L.nil ?_
          refine J.draw (ℓ := 12) (S := Ext w9) mixed (fun w10 hS hS_h => ?_)
          refine D.va 0 rfl (by kernel_rfl) (fun _ _ _ h => h) rfl (fun w' hw => X.fieldAddr rfl Try.underlying61 rfl sz_59 (by decide)) hS ?_
          refine D.va 1 rfl (by kernel_rfl) (fun _ _ _ h => h) rfl (fun w' hw => X.load rfl sc_59 (by first | exact Ld.blk (hb9.ext hw) rfl | exact hA | exact Ld.flat2 re_len (Reads.of_own (ho9.ext hw)) gx (r := 0) rfl)) hS ?_
          refine D.va 2 rfl (by kernel_rfl) (fun _ _ _ h => h) rfl (fun w' hw => X.move (by conv => lhs; whnf)) hS ?_
          refine D.va 3 rfl (by kernel_rfl) (fun _ _ _ h => h) rfl (fun w' hw => X.fieldAddr rfl Try.underlying61 rfl sz_59 (by decide)) hS ?_
          refine D.va 4 rfl (by kernel_rfl) (fun _ _ _ h => h) rfl (fun w' hw => X.load rfl sc_59 (by first | exact Ld.blk (hb9.ext hw) rfl | exact hA | exact Ld.flat2 re_len (Reads.of_own (ho9.ext hw)) gx (r := 0) rfl)) hS ?_
          refine D.va 5 rfl (by kernel_rfl) (fun _ _ _ h => h) rfl (fun w' hw => X.move (by conv => lhs; whnf)) hS ?_
          refine D.va 6 rfl (by kernel_rfl) (fun _ _ _ h => h) rfl (fun w' hw => (by first | exact X.indexAddrn rfl rfl Try.underlying59 sz_94 (by first | exact Option.some_ne_none _ | exact hA) (by omega) | exact X.indexAddr rfl rfl Try.underlying59 sz_94 (by first | exact Option.some_ne_none _ | exact hA) (by omega))) hS ?_
          refine D.va 7 rfl (by kernel_rfl) (fun _ _ _ h => h) rfl (fun w' hw => X.fieldP rfl Try.underlying94 rfl sz_91 (by decide) (by first | exact Option.some_ne_none _ | exact hA)) hS ?_
          refine D.va 8 rfl (by kernel_rfl) (fun _ _ _ h => h) rfl (fun w' hw => X.load rfl sc_91 (by first | exact Ld.blk (hb9.ext hw) rfl | exact hA | exact Ld.flat2 re_len (Reads.of_own (ho9.ext hw)) gx (r := 0) rfl)) hS ?_
          have zS := hS.le
          have c2 := cloneBy x.A x.n x.c x.b _ ((xO.ext hS).at (by omega)).r (by omega)
          refine D.one 9 (by kernel_rfl) rfl ?_
          refine L.call rfl en_67 rfl (c2) ?_
          rintro e w11 ⟨A11, c11, rfl, ho11, he11⟩
          refine ⟨_, rfl, ?_⟩
          have hS1 := hS.trans he11
          refine L.nil ?_
          refine ⟨fun _ => hS1, ?_⟩
          have z11 := he11.le
          have hoA := (ho9.ext hS).ext he11
          refine D.va 10 rfl (by kernel_rfl) (fun _ _ _ h => h) rfl (fun w' hw => (by first | exact X.indexAddrn rfl rfl Try.underlying59 sz_94 (by first | exact Option.some_ne_none _ | exact hA) (by omega) | exact X.indexAddr rfl rfl Try.underlying59 sz_94 (by first | exact Option.some_ne_none _ | exact hA) (by omega))) hS1 ?_
          refine D.va 11 rfl (by kernel_rfl) (fun _ _ _ h => h) rfl (fun w' hw => X.fieldP rfl Try.underlying94 rfl sz_91 (by decide) (by first | exact Option.some_ne_none _ | exact hA)) hS1 ?_
          refine D.one 12 (by kernel_rfl) rfl ?_
          refine L.storeO rfl rfl (by conv => lhs; whnf) rfl sz_91 (hoA) (by first | omega | (simp; omega)) ?_
          intro w12 ho12 hg12 hb12 hs12
          refine L.nil ?_
          refine ⟨fun h => absurd rfl h, ?_⟩
          have hC12 : TCh 94 w11 w12 := TCh.row hoA hg12
          obtain ⟨y, hy⟩ : ∃ y : Re, y = ⟨A11, x.n, c11, x.b, x.lo, x.hi⟩ := ⟨_, rfl⟩
          have hset := flat_set (f := Re.vs) (r := 0) (v := .slice A11 x.n c11) (y := y) re_len ks j hin (by omega) (by
            have e : ks[j]'hin = x := by
              have := gx
              rw [List.getElem?_eq_getElem hin] at this
              injection this
            rw [e, hy]
            rfl)
          have ho12 : w12.ownsRow w.heap.size 94 3 (.slice A6 nr c6') nr ((ks.set j y).flatMap Re.vs) := by
            rw [← hset]
            exact ho12
          have hcy : y.con = (ks.getD j re0).con := by rw [hy, ← hx9]
          have yO : y.Own N w12 := by
            rw [hy]
            exact Re.Own.put ⟨.inr (own_lowB ho11 (by omega)), xO.m, ⟨xO.o.b, xO.o.lo, xO.o.hi⟩⟩ (Below.mono hb12 hN) hC12 (by decide)
          have hk12 := hC12.blk ((hb9.ext hS).ext he11) (by decide)
          have hq12 := hC12.blk ((hq9.ext hS).ext he11) (by decide)
          have hi12 := hC12.own ((hi9.ext hS).ext he11) (by decide)
          have e12 : Ext w w12 := ((e9.trans hS).trans he11).grw hg12 (fun g hg => (hoA.lt g hg).1)
          refine D.done (by kernel_rfl) ?_
          replace hb9 := hb9.ext hS1
          refine J.region ?_
          refine L.va rfl (X.add rfl rfl (by omega)) ?_
          refine L.va rfl (X.move (by conv => lhs; whnf)) ?_
          refine L.nil ?_
          refine ⟨(j + 1, ks.set j y), At1 (by first | rfl | exact at_int rfl (by omega) | exact at_slice rfl (by omega) | exact at_int rfl (by simp)), (by (iterate 17 refine Agr.lk rfl ?_); exact Agr.lk rfl (Agr.hav rfl Agr.rfl')), ?_⟩
          refine ⟨⟨by omega, by rw [List.length_set]; exact hl9, by rw [map_setD hin hcy]; exact hc9, fun z hz => ?_, fun z hz => ⟨(((hj9 z hz).1.ext hS).ext he11).put (Below.mono hb12 hN) hC12 (by decide), (hj9 z hz).2⟩, ho12, hi12, hk12, hq12, e12, by omega⟩, by show nr - (j + 1) < nr - j; omega⟩
          rcases List.mem_or_eq_of_mem_set hz with hz | rfl
          · exact ⟨(((hk9 z hz).1.ext hS).ext he11).put (Below.mono hb12 hN) hC12 (by decide), (hk9 z hz).2⟩
          · exact ⟨yO, by rw [hy]; exact xn⟩
        · have hlt2 : ¬ (j : Int) < (nr : Int) := hlt2
          obtain rfl : j = nr := by omega
          refine J.exit ?_
          refine J.seq ?_
          refine J.region ?_
          refine L.va rfl ((by first | exact X.loadAgg rfl (range_l hb9) Try.underlying61 rfl (by kernel_rfl) | exact X.loadAgg rfl (range_blk hb9) Try.underlying61 rfl (by kernel_rfl))) ?_
          refine L.storeAgg (vs := [_, _, _, _]) rfl rfl rfl rfl sz_61 (hq9) rfl ?_
          intro w10 hk10 hg10 hs10
          have hk10 : Blk w10 b2 61 (Ce.mk k t A3 i c3 js A6 j c6' rs).vs.toArray := hk10
          have hC10 : TCh 61 w9 w10 := TCh.put hq9 hg10
          have b10 : Below w.heap.size w9 w10 := Chg.below (.of_grown hg10 (S := fun g => g = b2) (fun g hg => by injection hg with hg; exact hg.symm)) (by omega) (fun g hg => by omega)
          have e10 : Ext w w10 := e9.grw hg10 (by intro g hg; injection hg with hg; omega)
          have z10 := e10.le
          refine L.nil ?_
          refine J.ret ?_
          refine finC rfl (run_cell hk10 Try.underlying61 rfl (by kernel_rfl)) ?_
          refine ⟨⟨k, t, A3, i, c3, js, A6, j, c6', ks⟩, rfl, ?_, ⟨hx.k, hx.t, own_lowB (hC10.own hi9 (by decide)) hN, fun y hy => (hj9 y hy).1.put (Below.mono b10 hN) hC10 (by decide), hl5, own_lowB (hC10.own ho9 (by decide)) hN, fun y hy => (hk9 y hy).1.put (Below.mono b10 hN) hC10 (by decide), hl9, ⟨Li, Lr, fun y hy => (hj9 y hy).2, fun y hy => (hk9 y hy).2⟩⟩, e10⟩
          show Con.mk k t _ _ = Con.mk k t _ _
          rw [hc5, hc9]
end Go.Proofs.Ytpomklkfedpkfaa
namespace Go.Proofs.Ytpomklkfedpkfaa
open Go.RowKit
set_option linter.unusedVariables false
namespace Dfp
abbrev Ris (l : List (Int × Int)) : Prop := l.Pairwise fun p q => p.1 < q.1
abbrev RisC (l : List Ce) : Prop := l.Pairwise fun x y => x.key < y.key
theorem ris_eq : ∀ {l m : List (Int × Int)}, Ris l → Ris m → (∀ x, x ∈ l ↔ x ∈ m) → l = m
  | [], [], _, _, _ => rfl
  | [], b :: t, _, _, h => absurd ((h b).2 (by simp)) (by simp)
  | a :: s, [], _, _, h => absurd ((h a).1 (by simp)) (by simp)
  | a :: s, b :: t, hl, hm, h => by
    have hl' := List.pairwise_cons.1 hl
    have hm' := List.pairwise_cons.1 hm
    have hab : a = b := by
      rcases List.mem_cons.1 ((h a).1 (by simp)) with h1 | h1
      · exact h1
      · rcases List.mem_cons.1 ((h b).2 (by simp)) with h2 | h2
        · exact h2.symm
        · have := hm'.1 a h1
          have := hl'.1 b h2
          omega
    subst hab
    rw [ris_eq hl'.2 hm'.2 fun x => ?_]
    constructor
    · intro hx
      rcases List.mem_cons.1 ((h x).1 (by simp [hx])) with h1 | h1
      · subst h1
        have := hl'.1 x hx
        omega
      · exact h1
    · intro hx
      rcases List.mem_cons.1 ((h x).2 (by simp [hx])) with h1 | h1
      · subst h1
        have := hm'.1 x hx
        omega
      · exact h1
theorem ris_of {l : List Ce} (h : rise l = true) : RisC l := by
  rw [rise_at] at h
  have key : ∀ i j, i < j → j < l.length → (l.getD i ce0).key < (l.getD j ce0).key := by
    intro i j hij
    induction j with
    | zero => omega
    | succ j ih =>
      intro hj
      rcases Nat.lt_or_ge i j with h1 | h1
      · exact Int.lt_trans (ih h1 (by omega)) (h j hj)
      · obtain rfl : i = j := by omega
        exact h i hj
  rw [RisC, List.pairwise_iff_getElem]
  intro i j hi hj hij
  have := key i j hij hj
  rw [List.getD, List.getD, List.getElem?_eq_getElem hi, List.getElem?_eq_getElem hj] at this
  exact this
def Becomes (sm : Ce → Ce → Bool) (a b : List Ce) (p : Int × Int) : Prop :=
  (p.2 = 1 ∧ (∃ x ∈ a, x.key = p.1) ∧ ∀ y ∈ b, y.key ≠ p.1) ∨ (p.2 = 2 ∧ (∃ y ∈ b, y.key = p.1) ∧ ∀ x ∈ a, x.key ≠ p.1) ∨ (p.2 = 3 ∧ ∃ x ∈ a, ∃ y ∈ b, x.key = p.1 ∧ y.key = p.1 ∧ sm x y = false)
theorem ins_ok {l : List (Int × Int)} {p : Int × Int} (hl : Ris l) (hp : ∀ q ∈ l, q.1 ≠ p.1) : Ris (insC l p) ∧ ∀ q, q ∈ insC l p ↔ q ∈ l ∨ q = p := by
  have hlt : ∀ q ∈ l.takeWhile (fun q => decide (q.1 < p.1)), q.1 < p.1 := fun q hq => by
    have key : ∀ l : List (Int × Int), q ∈ l.takeWhile (fun q => decide (q.1 < p.1)) → q.1 < p.1 := by
      intro l
      induction l with
      | nil => intro h; simp at h
      | cons a t ih =>
        intro h
        by_cases ha : a.1 < p.1
        · rw [List.takeWhile_cons, if_pos (by simpa using ha)] at h
          rcases List.mem_cons.1 h with h1 | h1
          · rw [h1]; exact ha
          · exact ih h1
        · rw [List.takeWhile_cons, if_neg (by simpa using ha)] at h
          simp at h
    exact key l hq
  have hgt : ∀ q ∈ l.dropWhile (fun q => decide (q.1 < p.1)), p.1 < q.1 := by
    have key : ∀ l : List (Int × Int), Ris l → (∀ q ∈ l, q.1 ≠ p.1) → ∀ q ∈ l.dropWhile (fun q => decide (q.1 < p.1)), p.1 < q.1 := by
      intro l
      induction l with
      | nil => intro _ _ q hq; simp at hq
      | cons a t ih =>
        intro hr hne q hq
        have hr' := List.pairwise_cons.1 hr
        by_cases ha : a.1 < p.1
        · rw [List.dropWhile_cons, if_pos (by simpa using ha)] at hq
          exact ih hr'.2 (fun q hq => hne q (by simp [hq])) q hq
        · rw [List.dropWhile_cons, if_neg (by simpa using ha)] at hq
          have h0 := hne a (by simp)
          rcases List.mem_cons.1 hq with h1 | h1
          · subst h1
            omega
          · have := hr'.1 q h1
            omega
    exact key l hl hp
  refine ⟨?_, fun q => ?_⟩
  · unfold insC
    rw [Ris, List.pairwise_append, List.pairwise_append]
    refine ⟨⟨hl.sublist (List.takeWhile_sublist _), by simp, fun x hx y hy => ?_⟩, hl.sublist (List.dropWhile_sublist _), fun x hx y hy => ?_⟩
    · rw [List.mem_singleton] at hy
      rw [hy]
      exact hlt x hx
    · rcases List.mem_append.1 hx with h | h
      · exact Int.lt_trans (hlt x h) (hgt y hy)
      · rw [List.mem_singleton] at h
        rw [h]
        exact hgt y hy
  · unfold insC
    conv => rhs; rw [← List.takeWhile_append_dropWhile (p := fun q => decide (q.1 < p.1)) (l := l)]
    simp only [List.mem_append, List.mem_singleton]
    constructor
    · rintro ((h | h) | h)
      · exact .inl (.inl h)
      · exact .inr h
      · exact .inl (.inr h)
    · rintro ((h | h) | h)
      · exact .inl (.inl h)
      · exact .inr h
      · exact .inl (.inr h)
theorem becomes_key {sm : Ce → Ce → Bool} {a b : List Ce} {p : Int × Int} (h : Becomes sm a b p) : (∃ x ∈ a, x.key = p.1) ∨ ∃ y ∈ b, y.key = p.1 := by
  rcases h with ⟨_, h, _⟩ | ⟨_, h, _⟩ | ⟨_, x, hx, y, hy, h1, h2, _⟩
  · exact .inl h
  · exact .inr h
  · exact .inl ⟨x, hx, h1⟩
theorem merge_ok (sm : Ce → Ce → Bool) (a b : List Ce) (ha : RisC a) (hb : RisC b) : Ris (mergeD sm a b) ∧ ∀ p, p ∈ mergeD sm a b ↔ Becomes sm a b p := by
  induction a, b using mergeD.induct with
  | case1 =>
    rw [mergeD]
    refine ⟨List.Pairwise.nil, fun p => ?_⟩
    unfold Becomes
    simp
  | case2 x a ih =>
    rw [mergeD]
    obtain ⟨hx, ha'⟩ := List.pairwise_cons.1 ha
    obtain ⟨i1, i2⟩ := ih ha' hb
    refine ⟨List.pairwise_cons.2 ⟨fun q hq => ?_, i1⟩, fun p => ?_⟩
    · rcases becomes_key ((i2 q).1 hq) with ⟨z, hz, e⟩ | ⟨z, hz, e⟩
      · have := hx z hz
        show x.key < q.1
        omega
      · cases hz
    · rw [List.mem_cons, i2]
      unfold Becomes
      obtain ⟨p1, p2⟩ := p
      simp only [Prod.mk.injEq]
      grind
  | case3 y b ih =>
    rw [mergeD]
    obtain ⟨hy, hb'⟩ := List.pairwise_cons.1 hb
    obtain ⟨i1, i2⟩ := ih ha hb'
    refine ⟨List.pairwise_cons.2 ⟨fun q hq => ?_, i1⟩, fun p => ?_⟩
    · rcases becomes_key ((i2 q).1 hq) with ⟨z, hz, e⟩ | ⟨z, hz, e⟩
      · cases hz
      · have := hy z hz
        show y.key < q.1
        omega
    · rw [List.mem_cons, i2]
      unfold Becomes
      obtain ⟨p1, p2⟩ := p
      simp only [Prod.mk.injEq]
      grind
  | case4 x a y b h ih =>
    rw [mergeD, if_pos h]
    obtain ⟨hx, ha'⟩ := List.pairwise_cons.1 ha
    obtain ⟨hy, hb'⟩ := List.pairwise_cons.1 hb
    obtain ⟨i1, i2⟩ := ih ha' hb
    refine ⟨List.pairwise_cons.2 ⟨fun q hq => ?_, i1⟩, fun p => ?_⟩
    · show x.key < q.1
      rcases becomes_key ((i2 q).1 hq) with ⟨z, hz, e⟩ | ⟨z, hz, e⟩
      · have := hx z hz
        omega
      · rcases List.mem_cons.1 hz with rfl | hz
        · omega
        · have := hy z hz
          omega
    · rw [List.mem_cons, i2]
      unfold Becomes
      obtain ⟨p1, p2⟩ := p
      simp only [Prod.mk.injEq]
      grind
  | case5 x a y b h1 h2 ih =>
    rw [mergeD, if_neg h1, if_pos h2]
    obtain ⟨hx, ha'⟩ := List.pairwise_cons.1 ha
    obtain ⟨hy, hb'⟩ := List.pairwise_cons.1 hb
    obtain ⟨i1, i2⟩ := ih ha hb'
    refine ⟨List.pairwise_cons.2 ⟨fun q hq => ?_, i1⟩, fun p => ?_⟩
    · show y.key < q.1
      rcases becomes_key ((i2 q).1 hq) with ⟨z, hz, e⟩ | ⟨z, hz, e⟩
      · rcases List.mem_cons.1 hz with rfl | hz
        · omega
        · have := hx z hz
          omega
      · have := hy z hz
        omega
    · rw [List.mem_cons, i2]
      unfold Becomes
      obtain ⟨p1, p2⟩ := p
      simp only [Prod.mk.injEq]
      grind
  | case6 x a y b h1 h2 ih =>
    rw [mergeD, if_neg h1, if_neg h2]
    obtain ⟨hx, ha'⟩ := List.pairwise_cons.1 ha
    obtain ⟨hy, hb'⟩ := List.pairwise_cons.1 hb
    obtain ⟨i1, i2⟩ := ih ha' hb'
    have hk : x.key = y.key := by omega
    refine ⟨?_, fun p => ?_⟩
    · rw [Ris, List.pairwise_append]
      refine ⟨by split <;> simp, i1, fun q hq r hr => ?_⟩
      have e : q = (x.key, 3) := by
        split at hq
        · cases hq
        · simpa using hq
      rw [e]
      show x.key < r.1
      rcases becomes_key ((i2 r).1 hr) with ⟨z, hz, e⟩ | ⟨z, hz, e⟩
      · have := hx z hz
        omega
      · have := hy z hz
        omega
    · rw [List.mem_append, i2]
      unfold Becomes
      obtain ⟨p1, p2⟩ := p
      cases hs : sm x y <;> grind
def Part (sm : Ce → Ce → Bool) (a b : List Ce) (i j : Nat) (p : Int × Int) : Prop :=
  (p.2 = 1 ∧ (∃ x ∈ a.take i, x.key = p.1) ∧ ∀ y ∈ b, y.key ≠ p.1) ∨ (p.2 = 2 ∧ (∃ y ∈ b.take j, y.key = p.1) ∧ ∀ x ∈ a, x.key ≠ p.1) ∨ (p.2 = 3 ∧ ∃ x ∈ a.take i, ∃ y ∈ b, x.key = p.1 ∧ y.key = p.1 ∧ sm x y = false)
structure PartL (sm : Ce → Ce → Bool) (a b : List Ce) (i j : Nat) (o : List (Int × Int)) : Prop where
  up : Ris o
  mem : ∀ p, p ∈ o ↔ Part sm a b i j p
variable {sm : Ce → Ce → Bool} {a b : List Ce} {i j : Nat} {o : List (Int × Int)}
theorem PartL.start (sm : Ce → Ce → Bool) (a b : List Ce) : PartL sm a b 0 0 [] := ⟨List.Pairwise.nil, fun p => by unfold Part; simp⟩
theorem PartL.all (h : PartL sm a b a.length b.length o) (ha : RisC a) (hb : RisC b) : o = mergeD sm a b := by
  obtain ⟨m1, m2⟩ := merge_ok sm a b ha hb
  refine ris_eq h.up m1 fun p => ?_
  rw [h.mem, m2]
  unfold Part Becomes
  rw [List.take_length, List.take_length]
theorem take_one {l : List Ce} {i : Nat} (h : i < l.length) : l.take (i + 1) = l.take i ++ [l.getD i ce0] := by
  rw [List.take_succ_eq_append_getElem h, List.getD, List.getElem?_eq_getElem h]
  rfl
theorem before {l : List Ce} (hl : RisC l) {i : Nat} (h : i < l.length) : ∀ x ∈ l.take i, x.key ≠ (l.getD i ce0).key := fun x hx => by
  obtain ⟨k, hk, rfl⟩ := List.getElem_of_mem hx
  rw [List.length_take] at hk
  have := List.pairwise_iff_getElem.1 hl k i (by omega) h (by omega)
  rw [List.getElem_take, List.getD, List.getElem?_eq_getElem h]
  show (l[k]).key ≠ (l[i]).key
  omega
theorem PartL.gone (h : PartL sm a b i 0 o) (ha : RisC a) (hi : i < a.length) (hn : ∀ y ∈ b, y.key ≠ (a.getD i ce0).key) : PartL sm a b (i + 1) 0 (insC o ((a.getD i ce0).key, 1)) := by
  have hbf := before ha hi
  obtain ⟨u1, u2⟩ := ins_ok (p := ((a.getD i ce0).key, 1)) h.up (fun q hq => by
    have := (h.mem q).1 hq
    unfold Part at this
    grind)
  refine ⟨u1, fun p => ?_⟩
  rw [u2, h.mem]
  unfold Part
  rw [take_one hi]
  obtain ⟨p1, p2⟩ := p
  simp only [Prod.mk.injEq]
  grind
end Dfp
end Go.Proofs.Ytpomklkfedpkfaa
namespace Go.Proofs.Ytpomklkfedpkfaa
set_option maxRecDepth 100000
open Go.RowKit H
open Dfp
set_option linter.unusedVariables false
theorem cfind {w : World} {N : Nat} (A : Option Addr) (c : Nat) (l : List Ce) (key : Int) (hr : Reads w N 4 A l.length (l.flatMap Ce.vals)) (hN : N ≤ w.heap.size) (hm : l.length ≤ 1000000) (hl : RisC l) : Calls Try.prog 29 #[.slice A l.length c, .int .u64 key] w fun e w' => Ext w w' ∧ ∃ (k : Nat) (z : Bool), e = .returned (.tuple #[.int .i64 (k : Int), .bool z]) ∧ k ≤ l.length ∧ (z = true → k < l.length ∧ (l.getD k ce0).key = key) ∧ (z = false → ∀ x ∈ l, x.key ≠ key) := by
  have hmono : ∀ i j, i ≤ j → j < l.length → (l.getD i ce0).key ≤ (l.getD j ce0).key := fun i j hij hj => by
    rcases Nat.lt_or_ge i j with h | h
    · have := List.pairwise_iff_getElem.1 hl i j (by omega) hj h
      rw [List.getD, List.getD, List.getElem?_eq_getElem (by omega), List.getElem?_eq_getElem hj]
      show (l[i]).key ≤ (l[j]).key
      omega
    · obtain rfl : i = j := by omega
      exact Int.le_refl _
  refine enter Try.func29 rfl (by kernel_rfl) ?_
  refine J.seq ?_
  refine J.region ?_
  refine L.va rfl (X.assign (by conv => lhs; whnf)) ?_
  refine L.va rfl (X.assign (by conv => lhs; whnf)) ?_
  refine L.nil ?_
  refine J.seq ?_
  refine J.region ?_
  refine L.va rfl (X.move (by conv => lhs; whnf)) ?_
  refine L.va rfl (X.len rfl Try.underlying22) ?_
  refine L.va rfl (X.assign (by conv => lhs; whnf)) ?_
  refine L.va rfl (X.assign (by conv => lhs; whnf)) ?_
  refine L.nil ?_
  refine J.seq ?_
  refine J.block ?_
  refine J.loop (X := Nat × Nat) [6, 7, 8, 11, 12, 13, 14, 15, 16, 17, 18, 19, 20, 21, 22, 23, 24, 25, 26, 27] (fun (lo, hi) => [(6, .int .i64 (lo : Int)), (7, .int .i64 (hi : Int))]) (fun (lo, hi) w' => lo ≤ hi ∧ hi ≤ l.length ∧ (∀ j, j < lo → (l.getD j ce0).key < key) ∧ (∀ j, hi ≤ j → j < l.length → ¬ (l.getD j ce0).key < key) ∧ w = w') (fun (lo, hi) => hi - lo) ((0, l.length)) (At2 (by first | rfl | exact at_int rfl (by omega) | exact at_slice rfl (by omega) | exact at_int rfl (by simp)) (by first | rfl | exact at_int rfl (by omega) | exact at_slice rfl (by omega) | exact at_int rfl (by simp))) ?_ ?_
  · exact ⟨Nat.zero_le _, Nat.le_refl _, fun j hj => absurd hj (by omega), fun j h1 h2 => absurd h2 (by omega), rfl⟩
  · rintro ⟨lo, hi⟩ g w2 ⟨h1, h2, hlo, hhi, rfl⟩
    refine J.seq ?_
    refine J.seq ?_
    refine J.region ?_
    refine L.va rfl (X.move (by conv => lhs; whnf)) ?_
    refine L.va rfl (X.move (by conv => lhs; whnf)) ?_
    refine L.va rfl (X.lss rfl rfl) ?_
    refine L.nil ?_
    refine J.dec rfl (fun hlt => ?_) (fun hlt => ?_)
    · have hlt : lo < hi := by omega
      have hmid : (lo + hi) / 2 < l.length := by omega
      have hA := hr.some_ (by omega)
      have gm := gtX hmid
      refine J.skip ?_
      refine J.block ?_
      refine J.seq ?_
      refine J.region ?_
      refine L.va rfl (X.move (by conv => lhs; whnf)) ?_
      refine L.va rfl (X.move (by conv => lhs; whnf)) ?_
      refine L.va rfl (X.add rfl rfl (by omega)) ?_
      refine L.va rfl (X.quo rfl rfl (by omega)) ?_
      refine L.va rfl (X.assign (by conv => lhs; whnf)) ?_
      refine L.nil ?_
      rw [show ((lo : Int) + (hi : Int)) / 2 = (((lo + hi) / 2 : Nat) : Int) by omega]
      refine J.seq ?_
      refine J.region ?_
      refine L.va rfl (X.move (by conv => lhs; whnf)) ?_
      refine L.va rfl (X.move (by conv => lhs; whnf)) ?_
      refine L.va rfl ((by first | exact X.indexAddrn rfl rfl Try.underlying22 sz_61 (by first | exact Option.some_ne_none _ | exact hA) (by omega) | exact X.indexAddr rfl rfl Try.underlying22 sz_61 (by first | exact Option.some_ne_none _ | exact hA) (by omega))) ?_
      refine L.va rfl (X.fieldP rfl Try.underlying61 rfl sz_36 (by decide) (by first | exact Option.some_ne_none _ | exact hA)) ?_
      refine L.va rfl (X.load rfl sc_36 (by first | exact hA | exact Ld.flat2 ce_len hr gm (r := 0) rfl)) ?_
      refine L.va rfl (X.move (by conv => lhs; whnf)) ?_
      refine L.va rfl (X.lss rfl rfl) ?_
      refine L.nil ?_
      refine J.dec rfl (fun h3 => ?_) (fun h3 => ?_)
      · refine J.region ?_
        refine L.va rfl (X.move (by conv => lhs; whnf)) ?_
        refine L.va rfl (X.add rfl rfl (by omega)) ?_
        refine L.va rfl (X.assign (by conv => lhs; whnf)) ?_
        refine L.nil ?_
        refine ⟨((lo + hi) / 2 + 1, hi), At2 (by first | rfl | exact at_int rfl (by omega) | exact at_slice rfl (by omega) | exact at_int rfl (by simp)) (by first | rfl | exact at_int rfl (by omega) | exact at_slice rfl (by omega) | exact at_int rfl (by simp)), (by (iterate 18 refine Agr.lk rfl ?_); exact Agr.lk rfl (Agr.hav rfl Agr.rfl')), ?_⟩
        refine ⟨⟨by omega, h2, fun j hj => ?_, hhi, rfl⟩, by show hi - ((lo + hi) / 2 + 1) < hi - lo; omega⟩
        have := hmono j ((lo + hi) / 2) (by omega) hmid
        exact Int.lt_of_le_of_lt this h3
      · refine J.region ?_
        refine L.va rfl (X.move (by conv => lhs; whnf)) ?_
        refine L.va rfl (X.assign (by conv => lhs; whnf)) ?_
        refine L.nil ?_
        refine ⟨(lo, (lo + hi) / 2), At2 (by first | rfl | exact at_int rfl (by omega) | exact at_slice rfl (by omega) | exact at_int rfl (by simp)) (by first | rfl | exact at_int rfl (by omega) | exact at_slice rfl (by omega) | exact at_int rfl (by simp)), (by (iterate 17 refine Agr.lk rfl ?_); exact Agr.lk rfl (Agr.hav rfl Agr.rfl')), ?_⟩
        refine ⟨⟨by omega, by omega, hlo, fun j hj hj2 => ?_, rfl⟩, by show (lo + hi) / 2 - lo < hi - lo; omega⟩
        have := hmono ((lo + hi) / 2) j hj hj2
        exact fun h => h3 (Int.lt_of_le_of_lt this h)
    · obtain rfl : lo = hi := by omega
      by_cases hin : lo < l.length
      · have hA := hr.some_ (by omega)
        have gm := gtX hin
        refine J.exit ?_
        refine J.seq ?_
        refine J.draw (ℓ := 1000000) (S := Ext w) mixed (fun w3 hS hS_h => ?_)
        refine D.va 0 rfl (by kernel_rfl) (fun _ _ _ h => h) rfl (fun w' hw => X.move (by conv => lhs; whnf)) hS ?_
        refine D.va 1 rfl (by kernel_rfl) (fun _ _ _ h => h) rfl (fun w' hw => X.move (by conv => lhs; whnf)) hS ?_
        refine D.va 2 rfl (by kernel_rfl) (fun _ _ _ h => h) rfl (fun w' hw => X.move (by conv => lhs; whnf)) hS ?_
        refine D.va 3 rfl (by kernel_rfl) (fun _ _ _ h => h) rfl (fun w' hw => X.len rfl Try.underlying22) hS ?_
        refine D.va 4 rfl (by kernel_rfl) (fun _ _ _ h => h) rfl (fun w' hw => X.lss rfl rfl) hS ?_
        refine D.va 5 rfl (by kernel_rfl) (fun _ _ _ h => h) rfl (fun w' hw => X.move (by conv => lhs; whnf)) hS ?_
        refine D.caseDecT (k := 33) rfl (by omega) ?_
        refine D.va 6 rfl (by kernel_rfl) (fun _ _ _ h => h) rfl (fun w' hw => X.move (by conv => lhs; whnf)) hS ?_
        refine D.va 7 rfl (by kernel_rfl) (fun _ _ _ h => h) rfl (fun w' hw => X.move (by conv => lhs; whnf)) hS ?_
        refine D.va 8 rfl (by kernel_rfl) (fun _ _ _ h => h) rfl (fun w' hw => (by first | exact X.indexAddrn rfl rfl Try.underlying22 sz_61 (by first | exact Option.some_ne_none _ | exact hA) (by omega) | exact X.indexAddr rfl rfl Try.underlying22 sz_61 (by first | exact Option.some_ne_none _ | exact hA) (by omega))) hS ?_
        refine D.va 9 rfl (by kernel_rfl) (fun _ _ _ h => h) rfl (fun w' hw => X.fieldP rfl Try.underlying61 rfl sz_36 (by decide) (by first | exact Option.some_ne_none _ | exact hA)) hS ?_
        refine D.va 10 rfl (by kernel_rfl) (fun _ _ _ h => h) rfl (fun w' hw => X.load rfl sc_36 (Ld.flat2 ce_len (hr.low (Below.mono hw hN) (Nat.le_refl _)) gm (r := 0) rfl)) hS ?_
        refine D.va 11 rfl (by kernel_rfl) (fun _ _ _ h => h) rfl (fun w' hw => X.move (by conv => lhs; whnf)) hS ?_
        refine D.va 12 rfl (by kernel_rfl) (fun _ _ _ h => h) rfl (fun w' hw => X.eql rfl rfl) hS ?_
        refine D.va 13 rfl (by kernel_rfl) (fun _ _ _ h => h) rfl (fun w' hw => X.pickT rfl (by conv => lhs; whnf)) hS ?_
        refine D.va 14 rfl (by kernel_rfl) (fun _ _ _ h => h) rfl (fun w' hw => X.assign (by conv => lhs; whnf)) hS ?_
        refine D.va 15 rfl (by kernel_rfl) (fun _ _ _ h => h) rfl (fun w' hw => X.assign (by conv => lhs; whnf)) hS ?_
        refine D.done (by kernel_rfl) ?_
        refine J.ret ?_
        refine fin2 ?_
        refine ⟨hS, lo, _, rfl, h2, fun h => ⟨hin, of_decide_eq_true h⟩, fun h x hx e => ?_⟩
        obtain ⟨j, hj, rfl⟩ := List.getElem_of_mem hx
        have ej : (l.getD j ce0).key = key := by rw [List.getD, List.getElem?_eq_getElem hj]; exact e
        rcases Nat.lt_trichotomy j lo with h' | rfl | h'
        · have := hlo j h'
          omega
        · exact of_decide_eq_false h ej
        · have a1 := List.pairwise_iff_getElem.1 hl lo j hin hj h'
          have a2 := hhi lo (Nat.le_refl _) hin
          have a3 : (l.getD lo ce0).key = (l[lo]).key := by rw [List.getD, List.getElem?_eq_getElem hin]; rfl
          have e' : (l[j]).key = key := e
          have a1' : (l[lo]).key < (l[j]).key := a1
          omega
      · refine J.exit ?_
        refine J.seq ?_
        refine J.draw (ℓ := 1000000) (S := Ext w) mixed (fun w3 hS hS_h => ?_)
        refine D.va 0 rfl (by kernel_rfl) (fun _ _ _ h => h) rfl (fun w' hw => X.move (by conv => lhs; whnf)) hS ?_
        refine D.va 1 rfl (by kernel_rfl) (fun _ _ _ h => h) rfl (fun w' hw => X.move (by conv => lhs; whnf)) hS ?_
        refine D.va 2 rfl (by kernel_rfl) (fun _ _ _ h => h) rfl (fun w' hw => X.move (by conv => lhs; whnf)) hS ?_
        refine D.va 3 rfl (by kernel_rfl) (fun _ _ _ h => h) rfl (fun w' hw => X.len rfl Try.underlying22) hS ?_
        refine D.va 4 rfl (by kernel_rfl) (fun _ _ _ h => h) rfl (fun w' hw => X.lss rfl rfl) hS ?_
        refine D.va 5 rfl (by kernel_rfl) (fun _ _ _ h => h) rfl (fun w' hw => X.move (by conv => lhs; whnf)) hS ?_
        refine D.caseDecF (k := 33) rfl (by omega) ?_
        refine D.no 6 rfl (by kernel_rfl) (fun _ _ _ h => h) rfl hS ?_
        refine D.no 7 rfl (by kernel_rfl) (fun _ _ _ h => h) rfl hS ?_
        refine D.no 8 rfl (by kernel_rfl) (fun _ _ _ h => h) rfl hS ?_
        refine D.no 9 rfl (by kernel_rfl) (fun _ _ _ h => h) rfl hS ?_
        refine D.no 10 rfl (by kernel_rfl) (fun _ _ _ h => h) rfl hS ?_
        refine D.no 11 rfl (by kernel_rfl) (fun _ _ _ h => h) rfl hS ?_
        refine D.no 12 rfl (by kernel_rfl) (fun _ _ _ h => h) rfl hS ?_
        refine D.va 13 rfl (by kernel_rfl) (fun _ _ _ h => h) rfl (fun w' hw => X.pickF rfl (by conv => lhs; whnf)) hS ?_
        refine D.va 14 rfl (by kernel_rfl) (fun _ _ _ h => h) rfl (fun w' hw => X.assign (by conv => lhs; whnf)) hS ?_
        refine D.va 15 rfl (by kernel_rfl) (fun _ _ _ h => h) rfl (fun w' hw => X.assign (by conv => lhs; whnf)) hS ?_
        refine D.done (by kernel_rfl) ?_
        refine J.ret ?_
        refine fin2 ?_
        refine ⟨hS, lo, _, rfl, h2, (fun h => absurd h (by decide)), fun _ x hx e => ?_⟩
        obtain ⟨j, hj, rfl⟩ := List.getElem_of_mem hx
        have := hlo j (by omega)
        have ej : (l.getD j ce0).key = key := by rw [List.getD, List.getElem?_eq_getElem hj]; exact e
        omega
theorem crising {w : World} {N : Nat} (A : Option Addr) (c : Nat) (l : List Ce) (hr : Reads w N 4 A l.length (l.flatMap Ce.vals)) (hN : N ≤ w.heap.size) (hm : l.length ≤ 1000000) : Calls Try.prog 50 #[.slice A l.length c] w fun e w' => e = .returned (.bool (rise l)) ∧ Ext w w' := by
  refine enter Try.func50 rfl (by kernel_rfl) ?_
  refine J.seq ?_
  refine J.region ?_
  refine L.va rfl (X.assign (by conv => lhs; whnf)) ?_
  refine L.nil ?_
  refine J.seq ?_
  refine J.seq ?_
  refine J.region ?_
  refine L.va rfl (X.assign (by conv => lhs; whnf)) ?_
  refine L.nil ?_
  refine J.block ?_
  refine J.loop (X := Nat) [2, 3, 4, 5, 6, 7, 8, 9, 10, 11, 12, 13, 14, 15, 16, 17, 18, 19, 20, 21] (fun i => [(3, .int .i64 (i : Int))]) (fun i w' => 1 ≤ i ∧ (i ≤ l.length ∨ l.length = 0 ∧ i = 1) ∧ Ext w w' ∧ ∀ j, j + 1 < i → (l.getD j ce0).key < (l.getD (j + 1) ce0).key) (fun i => l.length + 1 - i) (1) (At1 (by first | rfl | exact at_int rfl (by omega) | exact at_slice rfl (by omega) | exact at_int rfl (by simp))) ?_ ?_
  · exact ⟨by omega, by omega, Ext.refl _, fun j hj => by omega⟩
  · rintro i g w2 ⟨h1, hi, he, hall⟩
    have hr2 := hr.low (Below.mono he hN) (Nat.le_refl _)
    have z := he.le
    refine J.seq ?_
    refine J.seq ?_
    refine J.region ?_
    refine L.va rfl (X.move (by conv => lhs; whnf)) ?_
    refine L.va rfl (X.move (by conv => lhs; whnf)) ?_
    refine L.va rfl (X.len rfl Try.underlying22) ?_
    refine L.va rfl (X.lss rfl rfl) ?_
    refine L.nil ?_
    refine J.dec rfl (fun hlt => ?_) (fun hlt => ?_)
    · have hil : i < l.length := by omega
      have hA := hr2.some_ (by omega)
      obtain ⟨j, rfl⟩ : ∃ j, i = j + 1 := ⟨i - 1, by omega⟩
      have gi := gtX hil
      have gj := gtX (show j < l.length by omega)
      have hrow1 := fun (w' : World) (hw : Ext w2 w') => hr2.low (Below.mono hw (by omega)) (Nat.le_refl _)
      generalize hx : l.getD (j + 1) ce0 = x at *
      generalize hy : l.getD j ce0 = y at *
      have kx : x.key = (x.k : Int) := rfl
      have ky : y.key = (y.k : Int) := rfl
      refine J.skip ?_
      refine J.seq ?_
      refine J.block ?_
      refine J.seq ?_
      refine J.quiet mixed (by kernel_rfl) ?_
      refine Qt.va rfl (fun w' hw => X.move (by conv => lhs; whnf)) ?_
      refine Qt.va rfl (fun w' hw => X.move (by conv => lhs; whnf)) ?_
      refine Qt.va rfl (fun w' hw => (by first | exact X.indexAddrn rfl rfl Try.underlying22 sz_61 (by first | exact Option.some_ne_none _ | exact hA) (by omega) | exact X.indexAddr rfl rfl Try.underlying22 sz_61 (by first | exact Option.some_ne_none _ | exact hA) (by omega))) ?_
      refine Qt.va rfl (fun w' hw => X.fieldP rfl Try.underlying61 rfl sz_36 (by decide) (by first | exact Option.some_ne_none _ | exact hA)) ?_
      refine Qt.va rfl (fun w' hw => X.load rfl sc_36 (Ld.flat2 ce_len (hrow1 w' hw) gi (r := 0) rfl)) ?_
      refine Qt.va rfl (fun w' hw => X.move (by conv => lhs; whnf)) ?_
      refine Qt.va rfl (fun w' hw => X.move (by conv => lhs; whnf)) ?_
      refine Qt.va rfl (fun w' hw => X.sub rfl rfl (by omega)) ?_
      refine Qt.va rfl (fun w' hw => X.indexAddrn (j := j) rfl (show Value.int .i64 (((j + 1 : Nat) : Int) - 1) = _ by rw [show (((j + 1 : Nat) : Int) - 1) = (j : Int) by omega]) Try.underlying22 sz_61 hA (by omega)) ?_
      refine Qt.va rfl (fun w' hw => X.fieldP rfl Try.underlying61 rfl sz_36 (by decide) hA) ?_
      refine Qt.va rfl (fun w' hw => X.load rfl sc_36 (Ld.flat2 ce_len (hrow1 w' hw) gj (r := 0) rfl)) ?_
      refine Qt.va rfl (fun w' hw => X.leq rfl rfl) ?_
      refine Qt.nil (fun w3 hq => ?_)
      have he3 := he.trans hq
      refine J.dec rfl (fun hle => ?_) (fun hle => ?_)
      · have e : rise l = false := by
          rw [← Bool.not_eq_true, rise_at]
          intro h
          have := h j hil
          rw [hx, hy] at this
          omega
        rw [e]
        refine J.seq ?_
        refine J.region ?_
        refine L.va rfl (X.assign (by conv => lhs; whnf)) ?_
        refine L.nil ?_
        refine J.ret ?_
        refine inB_ret <|  thn_ret <|  thn_ret <|  inB_ret <|  thn_ret <| ?_
        refine fin1 ?_
        exact ⟨rfl, he3⟩
      · refine J.skip ?_
        refine J.region ?_
        refine L.va rfl (X.move (by conv => lhs; whnf)) ?_
        refine L.va rfl (X.add rfl rfl (by omega)) ?_
        refine L.va rfl (X.assign (by conv => lhs; whnf)) ?_
        refine L.nil ?_
        refine ⟨(j + 1) + 1, At1 (by first | rfl | exact at_int rfl (by omega) | exact at_slice rfl (by omega) | exact at_int rfl (by simp)), (by (iterate 19 refine Agr.lk rfl ?_); exact Agr.lk rfl (Agr.hav rfl Agr.rfl')), ?_⟩
        refine ⟨⟨by omega, by omega, he3, fun k hk => ?_⟩, by omega⟩
        rcases Nat.lt_or_ge k j with h2 | h2
        · exact hall k (by omega)
        · obtain rfl : k = j := by omega
          rw [hx, hy]
          omega
    · have e : rise l = true := by
        rw [rise_at]
        intro j hj
        exact hall j (by omega)
      rw [e]
      refine J.exit ?_
      refine J.seq ?_
      refine J.region ?_
      refine L.va rfl (X.assign (by conv => lhs; whnf)) ?_
      refine L.nil ?_
      refine J.ret ?_
      refine fin1 ?_
      exact ⟨rfl, he⟩
end Go.Proofs.Ytpomklkfedpkfaa
namespace Go.Proofs.Ytpomklkfedpkfaa
set_option maxRecDepth 100000
open Go.RowKit H
open Dfp
set_option linter.unusedVariables false
namespace H
theorem X.slice3 {P : Program} {f : Fr} {w : World} {d : Option Tmp} {ty : TypeId} {pos : String} {aft : Array Edge} {g : Option (Nat × Bool)} {x y z : Operand} {t e : TypeId} {A : Option Addr} {q c sz n : Nat} (hx : ev f x = .slice A q c) (hy : ev f y = .int .i64 (n : Int)) (hz : ev f z = .int .i64 (n : Int)) (ht : P.underlying t = some (.slice e)) (hs : Siz P e sz) (hij : n ≤ c) :
    (execOp (ev f) ⟨d, .slice t x none (some y) (some z), ty, pos, aft, g⟩).run P w = .ok (.value (.slice A n n)) w := by
  simp only [execOp, Instr.sliceAt, Instr.slice, Instr.sliceBounds, Instr.sliceBound, Option.map_some, Option.map_none, hx, hy, hz, Sem.run_bind, run_underlying ht, Result.andThen_ok, asIntOf, Sem.run_pure, hs.run]
  have h1 : 0 ≤ (n : Int) ∧ (n : Int) ≤ (c : Int) := by omega
  simp [h1]
  cases A <;> simp [Addr.add_zero']
theorem X.appendNil {P : Program} {f : Fr} {w : World} {d : Option Tmp} {ty : TypeId} {pos : String} {aft : Array Edge} {g : Option (Nat × Bool)} {x y : Operand} {t e : TypeId} {A : Option Addr} {n c c' sz : Nat} (hx : ev f x = .slice A n c) (hy : ev f y = .slice none 0 c') (ht : P.underlying t = some (.slice e)) (hs : Siz P e sz) (hij : n ≤ c) (hA : A = none → n = 0 ∧ c = 0) :
    (execOp (ev f) ⟨d, .call { callee := .builtin .append, args := #[x, y], argTypes := #[t, t] }, ty, pos, aft, g⟩).run P w = .ok (.value (.slice A n c)) w := by
  obtain ⟨i, hi, hz⟩ := hs
  have hrun : (Builtin.append_ #[t, t] ty #[.slice A n c, .slice none 0 c']).run P w = .ok (.slice A n c) w := by
    rcases A with _ | ad
    · obtain ⟨rfl, rfl⟩ := hA rfl
      simp [Builtin.append_, run_underlying ht, sizeOf, typeInfo, hi, Builtin.lenOf, Builtin.firstCells]
    · simp [Builtin.append_, run_underlying ht, sizeOf, typeInfo, hi, Builtin.lenOf, Builtin.firstCells, hij, storeCells]
  unfold execOp
  simp only [resolve, Go.invoke, builtin, Sem.run_bind, Sem.run_pure, Result.andThen_ok, List.map_toArray, List.map_cons, List.map_nil, hx, hy, hrun]
end H
theorem ces_ones (l : List Ce) : (l.flatMap Ce.vs).all (·.oneCell') = true := by
  rw [List.all_eq_true]
  intro v hv
  obtain ⟨x, _, hx⟩ := List.mem_flatMap.1 hv
  simp only [Ce.vs, List.mem_cons, List.not_mem_nil, or_false] at hx
  rcases hx with rfl | rfl | rfl | rfl <;> rfl
theorem cmerge (s : Ces) (w : World) (hs : s.At w.heap.size w) (hn : s.n ≤ 1000) (hc : s.n ≤ s.c) (hr : rise s.l = true) (hL : ∀ x ∈ s.l, x.Lt) : Calls Try.prog 30 #[s.val, .slice none 0 0] w fun e w' => ∃ t : Ces, e = .returned (.tuple #[t.val, .int .i64 0]) ∧ t.con = s.con ∧ t.At w'.heap.size w' ∧ t.n ≤ t.c ∧ (∀ x ∈ t.l, x.Lt) ∧ Ext w w' := by
  obtain ⟨A, n, c, l⟩ := s
  have hl : l.length = n := hs.l
  have hn : n ≤ 1000 := hn
  have hc : n ≤ c := hc
  subst hl
  have hrr : Reads w w.heap.size 4 A l.length (l.flatMap Ce.vs) := hs.r
  refine enter Try.func30 rfl (by kernel_rfl) ?_
  refine J.seq ?_
  refine J.region ?_
  refine L.va rfl (X.assign (by conv => lhs; whnf)) ?_
  refine L.va rfl (X.assign (by conv => lhs; whnf)) ?_
  refine L.nil ?_
  refine J.seq ?_
  refine J.seq ?_
  refine J.region ?_
  refine L.va rfl (X.move (by conv => lhs; whnf)) ?_
  have c1 := crising A c l hrr (Nat.le_refl _) (by omega)
  rw [show rise l = true from hr] at c1
  refine L.call rfl en_50 rfl (c1) ?_
  rintro e w1 ⟨rfl, he1⟩
  refine ⟨_, rfl, ?_⟩
  refine L.va rfl (X.not rfl) ?_
  refine L.va rfl (X.move (by conv => lhs; whnf)) ?_
  refine L.caseBF (k := 14) rfl (by rfl) ?_
  refine L.va rfl (X.move (by conv => lhs; whnf)) ?_
  have c2 := crising none 0 [] (Reads.of_own (own_nil w1 0 0 4)) (Nat.le_refl _) (by simp)
  rw [show rise [] = true from rfl] at c2
  refine L.call rfl en_50 rfl (c2) ?_
  rintro e w2 ⟨rfl, he2⟩
  refine ⟨_, rfl, ?_⟩
  refine L.va rfl (X.not rfl) ?_
  refine L.va rfl (X.pickF rfl (by conv => lhs; whnf)) ?_
  refine L.nil ?_
  refine J.iteF rfl ?_
  refine J.skip ?_
  refine J.seq ?_
  refine J.region ?_
  refine L.va rfl (X.assign (by conv => lhs; whnf)) ?_
  refine L.nil ?_
  have he02 := he1.trans he2
  refine J.cut (X := Unit) [0, 1, 4, 5, 6, 7, 8, 19, 20, 21, 22, 23, 24, 25, 26, 27, 28, 29, 30, 31, 32, 33, 34, 35, 36, 37, 38, 39, 40, 41, 42, 43, 44, 45, 46, 47, 48, 49, 50, 51, 52, 53, 54, 55, 56, 57, 58, 59, 60, 61, 62, 63, 64, 65, 66, 67, 68, 69, 70, 71, 72, 73, 74, 75, 76, 77, 78, 79, 80, 81, 82, 83, 84, 85] (fun _ => [(0, .slice A l.length c), (1, .slice none 0 0), (6, .slice none 0 0)]) (fun _ w' => w2 = w') ?_ ?_
  · refine J.block ?_
    refine J.loop (X := Unit) [0, 1, 4, 5, 6, 7, 8, 19, 20, 21, 22, 23, 24, 25, 26, 27, 28, 29, 30, 31, 32, 33, 34, 35, 36, 37, 38, 39, 40, 41, 42, 43, 44, 45, 46, 47, 48, 49, 50, 51, 52, 53, 54, 55, 56, 57, 58, 59, 60, 61, 62, 63, 64, 65, 66, 67, 68, 69, 70, 71, 72, 73, 74, 75, 76, 77, 78, 79, 80, 81, 82, 83, 84, 85] (fun _ => [(0, .slice A l.length c), (1, .slice none 0 0), (6, .slice none 0 0)]) (fun _ w' => w2 = w') (fun _ => 0) (()) (At3 (by first | rfl | exact at_int rfl (by omega) | exact at_slice rfl (by omega) | exact at_int rfl (by simp)) (by first | rfl | exact at_int rfl (by omega) | exact at_slice rfl (by omega) | exact at_int rfl (by simp)) (by first | rfl | exact at_int rfl (by omega) | exact at_slice rfl (by omega) | exact at_int rfl (by simp))) ?_ ?_
    · exact rfl
    · rintro ⟨⟩ g w3 rfl
      refine J.seq ?_
      refine J.seq ?_
      refine J.region ?_
      refine L.va rfl (X.move (by conv => lhs; whnf)) ?_
      refine L.va rfl (X.len rfl Try.underlying22) ?_
      refine L.va rfl (X.gtr rfl rfl) ?_
      refine L.va rfl (X.move (by conv => lhs; whnf)) ?_
      refine L.caseDec (k := 22) rfl (fun h0 => ?_) (fun h0 => ?_)
      · refine L.va rfl (X.move (by conv => lhs; whnf)) ?_
        refine L.va rfl (X.len rfl Try.underlying22) ?_
        refine L.va rfl (X.gtr rfl rfl) ?_
        refine L.va rfl (X.pickT rfl (by conv => lhs; whnf)) ?_
        refine L.nil ?_
        refine J.iteF rfl ?_
        refine J.exit ?_
        refine ⟨(), At3 (by first | rfl | exact at_int rfl (by omega) | exact at_slice rfl (by omega) | exact at_int rfl (by simp)) (by first | rfl | exact at_int rfl (by omega) | exact at_slice rfl (by omega) | exact at_int rfl (by simp)) (by first | rfl | exact at_int rfl (by omega) | exact at_slice rfl (by omega) | exact at_int rfl (by simp)), (by (iterate 9 refine Agr.lk rfl ?_); refine Agr.lk rfl ?_; refine Agr.hav rfl ?_; exact Agr.rfl'), ?_⟩
        rfl
      · refine L.no rfl ?_
        refine L.no rfl ?_
        refine L.no rfl ?_
        refine L.va rfl (X.pickF rfl (by conv => lhs; whnf)) ?_
        refine L.nil ?_
        refine J.iteF rfl ?_
        refine J.exit ?_
        refine ⟨(), At3 (by first | rfl | exact at_int rfl (by omega) | exact at_slice rfl (by omega) | exact at_int rfl (by simp)) (by first | rfl | exact at_int rfl (by omega) | exact at_slice rfl (by omega) | exact at_int rfl (by simp)) (by first | rfl | exact at_int rfl (by omega) | exact at_slice rfl (by omega) | exact at_int rfl (by simp)), (by (iterate 9 refine Agr.lk rfl ?_); refine Agr.lk rfl ?_; refine Agr.hav rfl ?_; exact Agr.rfl'), ?_⟩
        rfl
  · rintro ⟨⟩ g w3 rfl
    have z2 := he02.le
    have hA : A = none → l.length = 0 ∧ l.length = 0 := fun e => by
      apply Decidable.byContradiction
      intro h
      exact hrr.some_ (by omega) e
    refine J.seq ?_
    refine J.seq ?_
    refine J.region ?_
    refine L.va rfl (X.move (by conv => lhs; whnf)) ?_
    refine L.va rfl (X.move (by conv => lhs; whnf)) ?_
    refine L.va rfl (X.len rfl Try.underlying22) ?_
    refine L.va rfl (X.move (by conv => lhs; whnf)) ?_
    refine L.va rfl (X.len rfl Try.underlying22) ?_
    refine L.va rfl (X.slice3 rfl rfl rfl Try.underlying22 sz_61 hc) ?_
    refine L.va rfl (X.move (by conv => lhs; whnf)) ?_
    refine L.va rfl (X.appendNil rfl rfl Try.underlying22 sz_61 (Nat.le_refl _) hA) ?_
    refine L.va rfl (X.len rfl Try.underlying22) ?_
    refine L.va rfl (X.move (by conv => lhs; whnf)) ?_
    refine L.nil ?_
    refine J.block ?_
    refine J.loop (X := Nat × Option Addr × Nat × List Ce) [6, 10, 95, 96, 97, 98, 99, 100, 101, 102, 103, 104] (fun (i, B, d, o) => [(95, .int .i64 (i : Int)), (6, .slice B i d)]) (fun (i, B, d, o) w' => i ≤ l.length ∧ o.length = i ∧ o.map Ce.con = (l.take i).map Ce.con ∧ (∀ y ∈ o, y.Own w.heap.size w') ∧ w'.ownsRow w2.heap.size 61 4 (.slice B i d) i (o.flatMap Ce.vs) ∧ Ext w2 w') (fun (i, _) => l.length - i) ((0, none, 0, [])) (At2 (by first | rfl | exact at_int rfl (by omega) | exact at_slice rfl (by omega) | exact at_int rfl (by simp)) (by first | rfl | exact at_int rfl (by omega) | exact at_slice rfl (by omega) | exact at_int rfl (by simp))) ?_ ?_
    · exact ⟨Nat.zero_le _, rfl, rfl, (fun y hy => by cases hy), own_nil _ _ _ _, Ext.refl _⟩
    · rintro ⟨i, B, d, o⟩ g w4 ⟨hi, ho, hco, hLo, ho4, he4⟩
      have he04 := he02.trans he4
      have z4 := he04.le
      refine J.seq ?_
      refine J.region ?_
      refine L.va rfl (X.lss rfl rfl) ?_
      refine L.nil ?_
      refine J.seq ?_
      refine J.dec rfl (fun hlt => ?_) (fun hlt => ?_)
      · have hin : i < l.length := by omega
        obtain ⟨x, hx⟩ : ∃ x, x = l.getD i ce0 := ⟨_, rfl⟩
        have gx := gtX (l := l) (i := i) hin
        have mx := memD (l := l) (i := i) (d := ce0) hin
        rw [← hx] at gx mx
        have hr4 := hrr.ext he04
        have hAs := hr4.some_ (by omega)
        refine J.skip ?_
        refine J.seq ?_
        refine J.block ?_
        refine J.seq ?_
        refine J.region ?_
        refine L.va rfl ((by first | exact X.indexAddrn rfl rfl Try.underlying22 sz_61 (by first | exact Option.some_ne_none _ | exact hAs) (by omega) | exact X.indexAddr rfl rfl Try.underlying22 sz_61 (by first | exact Option.some_ne_none _ | exact hAs) (by omega))) ?_
        refine L.va rfl (X.loadRow (cs := x.vs) rfl hr4 (fun r u hu => flat_row ce_len gx r u hu) (Nat.zero_lt_succ _) Try.underlying61 rfl (by kernel_rfl)) ?_
        refine L.alloc rfl zr_61 ?_
        intro b5 w5 hb5 hs5 hk5 he5
        have ho5 := ho4.ext he5
        refine L.storeAgg (vs := [_, _, _, _]) rfl rfl rfl rfl sz_61 (hk5) rfl ?_
        intro w6 hk6 hg6 hs6
        have he46 : Ext w4 w6 := he5.grw hg6 (by intro g hg; injection hg with hg; omega)
        have hk6 : Blk w6 b5 61 x.vs.toArray := hk6
        have ho6 := ho4.ext he46
        have he06 := he04.trans he46
        refine L.nil ?_
        refine J.region ?_
        refine L.va rfl (X.move (by conv => lhs; whnf)) ?_
        refine L.va rfl ((by first | exact X.loadAgg rfl (range_l hk6) Try.underlying61 rfl (by kernel_rfl) | exact X.loadAgg rfl (range_blk hk6) Try.underlying61 rfl (by kernel_rfl))) ?_
        have c5 := copied x w6 he06.le ((hs.h x mx).ext he06) (hL x mx)
        refine L.call rfl en_51 rfl (c5) ?_
        rintro e w7 ⟨y, rfl, hcy, hy7, he7⟩
        refine ⟨_, rfl, ?_⟩
        have ho7 := ho6.ext he7
        refine L.bslice1 (l := [_, _, _, _]) rfl rfl rfl Try.underlying22 sz_61 zr_61 rfl ?_
        intro b8 w8 hb8 hs8 hk8 he8
        have ho8 := ho7.ext he8
        have he48 := (he46.trans he7).trans he8
        have he28 := he4.trans he48
        have z28 := he28.le
        refine L.appendV (q := i + 1) (ys := ((o ++ [y]).flatMap Ce.vs)) rfl rfl rfl Try.underlying22 el_61 (ho8) ((blk_readsN (sz := 4) (q := 1) (l := y.vs) hk8 hk8.lt rfl)) (by first | rfl | exact strs_ones _ | assumption) (by omega) (by simp) (by unfold maxLen; omega) (by omega) ?_
        intro B9 d9 w9 ho9 hg9 hb9 hor9
        have hC9 : TCh 61 w8 w9 := TCh.row ho8 hg9
        have hY : ∀ z ∈ o ++ [y], z.Own w.heap.size w9 := fun z hz => by
          have : z.Own w.heap.size w8 := by
            rcases List.mem_append.1 hz with hz | hz
            · exact (hLo z hz).ext he48
            · rw [List.mem_singleton] at hz
              rw [hz]
              exact hy7.ext he8
          exact this.put (Below.mono hb9 z2) hC9 (by decide)
        have he9 := he28.grw hg9 (fun g hg => (ho8.lt g hg).1)
        refine L.va rfl (X.assign (by conv => lhs; whnf)) ?_
        refine L.nil ?_
        refine J.region ?_
        refine L.va rfl (X.add rfl rfl (by omega)) ?_
        refine L.va rfl (X.move (by conv => lhs; whnf)) ?_
        refine L.nil ?_
        refine ⟨(i + 1, B9, d9, o ++ [y]), At2 (by first | rfl | exact at_int rfl (by omega) | exact at_slice rfl (by omega) | exact at_int rfl (by simp)) (by first | rfl | exact at_int rfl (by omega) | exact at_slice rfl (by omega) | exact at_int rfl (by simp)), (by (iterate 12 refine Agr.lk rfl ?_); exact Agr.lk rfl (Agr.hav rfl Agr.rfl')), ?_⟩
        refine ⟨⟨by omega, by rw [List.length_append, ho]; rfl, ?_, hY, ho9, he9⟩, by show l.length - (i + 1) < l.length - i; omega⟩
        rw [List.map_append, hco, take_one hin, List.map_append, ← hx]
        show _ ++ [y.con] = _ ++ [x.con]
        rw [hcy]
      · obtain rfl : i = l.length := by omega
        rw [List.take_length] at hco
        refine J.exit ?_
        refine J.seq ?_
        refine J.region ?_
        refine L.va rfl (X.move (by conv => lhs; whnf)) ?_
        refine L.va rfl (X.assign (by conv => lhs; whnf)) ?_
        refine L.va rfl (X.assign (by conv => lhs; whnf)) ?_
        refine L.nil ?_
        refine J.ret ?_
        refine fin2 ?_
        refine ⟨⟨B, l.length, d, o⟩, rfl, hco, ⟨Reads.of_own ho4, fun y hy => (hLo y hy).at z4, ho, by show l.length ≤ maxLen; unfold maxLen; omega⟩, own_le' ho4, fun y hy => (hLo y hy).L, he04⟩
end Go.Proofs.Ytpomklkfedpkfaa
namespace Go.Proofs.Ytpomklkfedpkfaa
set_option maxRecDepth 100000
open Go.RowKit H
set_option linter.unusedVariables false
def riseC (l : List (Int × Int)) : Bool := (List.range (l.length - 1)).all fun i => decide ((l.getD i ((0, 0) : Int × Int)).1 < (l.getD (i + 1) ((0, 0) : Int × Int)).1)
theorem riseC_at {l : List (Int × Int)} : riseC l = true ↔ ∀ i, i + 1 < l.length → (l.getD i ((0, 0) : Int × Int)).1 < (l.getD (i + 1) ((0, 0) : Int × Int)).1 := by
  unfold riseC
  rw [List.all_eq_true]
  constructor
  · intro h i hi
    exact of_decide_eq_true (h i (List.mem_range.2 (by omega)))
  · intro h i hi
    have := List.mem_range.1 hi
    exact decide_eq_true (h i (by omega))
theorem ofchange {w : World} (x : Int × Int) : Calls Try.prog 28 #[.agg (chV x).toArray] w fun e w' => e = .returned (.int .u64 x.1) ∧ Ext w w' := by
  refine enter Try.func28 rfl (by kernel_rfl) ?_
  refine J.seq ?_
  refine J.region ?_
  refine L.boxA (l := [_, _]) rfl rfl ?_
  intro b1 w1 hb1 hs1 hk1 he1
  refine L.va rfl (X.assign (by conv => lhs; whnf)) ?_
  refine L.nil ?_
  refine J.seq ?_
  refine J.region ?_
  refine L.va rfl (X.fieldAddr rfl Try.underlying38 rfl sz_36 (by decide)) ?_
  refine L.va rfl (X.load rfl sc_36 (by first | exact Ld.blk hk1 rfl)) ?_
  refine L.va rfl (X.assign (by conv => lhs; whnf)) ?_
  refine L.nil ?_
  refine J.ret ?_
  refine fin1 ?_
  exact ⟨rfl, he1⟩
theorem risingC_ {w : World} {N : Nat} (A : Option Addr) (c : Nat) (l : List (Int × Int)) (hr : Reads w N 2 A l.length (l.flatMap chV)) (hN : N ≤ w.heap.size) (hm : l.length ≤ 1000000) : Calls Try.prog 27 #[.slice A l.length c, .func (.func 28) #[] #[]] w fun e w' => e = .returned (.bool (riseC l)) ∧ Ext w w' := by
  refine enter Try.func27 rfl (by kernel_rfl) ?_
  refine J.seq ?_
  refine J.region ?_
  refine L.va rfl (X.assign (by conv => lhs; whnf)) ?_
  refine L.nil ?_
  refine J.seq ?_
  refine J.seq ?_
  refine J.region ?_
  refine L.va rfl (X.assign (by conv => lhs; whnf)) ?_
  refine L.nil ?_
  refine J.block ?_
  refine J.loop (X := Nat) [4, 5, 6, 7, 8, 9, 10, 11, 12, 13, 14, 15, 16, 17, 18, 19, 20, 21, 22, 23, 24, 25] (fun i => [(5, .int .i64 (i : Int))]) (fun i w' => 1 ≤ i ∧ (i ≤ l.length ∨ l.length = 0 ∧ i = 1) ∧ Ext w w' ∧ ∀ j, j + 1 < i → (l.getD j ((0, 0) : Int × Int)).1 < (l.getD (j + 1) ((0, 0) : Int × Int)).1) (fun i => l.length + 1 - i) (1) (At1 (by first | rfl | exact at_int rfl (by omega) | exact at_slice rfl (by omega) | exact at_int rfl (by simp))) ?_ ?_
  · exact ⟨by omega, by omega, Ext.refl _, fun j hj => by omega⟩
  · rintro i g w2 ⟨h1, hi, he, hall⟩
    have hr2 := hr.low (Below.mono he hN) (Nat.le_refl _)
    have z := he.le
    refine J.seq ?_
    refine J.seq ?_
    refine J.region ?_
    refine L.va rfl (X.move (by conv => lhs; whnf)) ?_
    refine L.va rfl (X.move (by conv => lhs; whnf)) ?_
    refine L.va rfl (X.len rfl Try.underlying25) ?_
    refine L.va rfl (X.lss rfl rfl) ?_
    refine L.nil ?_
    refine J.dec rfl (fun hlt => ?_) (fun hlt => ?_)
    · have hil : i < l.length := by omega
      have hA := hr2.some_ (by omega)
      have gi : l[i]? = some (l.getD i ((0, 0) : Int × Int)) := by simp [List.getD, hil]
      obtain ⟨j, rfl⟩ : ∃ j, i = j + 1 := ⟨i - 1, by omega⟩
      have gj : l[j]? = some (l.getD j ((0, 0) : Int × Int)) := by simp [List.getD, show j < l.length by omega]
      have hrow1 := fun (w' : World) (hw : Ext w2 w') => hr2.low (Below.mono hw (by omega)) (Nat.le_refl _)
      generalize hx : l.getD (j + 1) ((0, 0) : Int × Int) = x at *
      generalize hy : l.getD j ((0, 0) : Int × Int) = y at *
      refine J.skip ?_
      refine J.seq ?_
      refine J.block ?_
      refine J.seq ?_
      refine J.quiet mixed (by kernel_rfl) ?_
      refine Qt.va rfl (fun w' hw => X.move (by conv => lhs; whnf)) ?_
      refine Qt.va rfl (fun w' hw => X.move (by conv => lhs; whnf)) ?_
      refine Qt.va rfl (fun w' hw => X.move (by conv => lhs; whnf)) ?_
      refine Qt.va rfl (fun w' hw => (by first | exact X.indexAddrn rfl rfl Try.underlying25 sz_38 (by first | exact Option.some_ne_none _ | exact hA) (by omega) | exact X.indexAddr rfl rfl Try.underlying25 sz_38 (by first | exact Option.some_ne_none _ | exact hA) (by omega))) ?_
      refine Qt.va rfl (fun w' hw => X.loadRow (cs := chV x) rfl (hrow1 w' hw) (fun r u hu => flat_row ch_len gi r u hu) (Nat.zero_lt_succ _) Try.underlying38 rfl (by kernel_rfl)) ?_
      refine Qt.callV rfl en_28 rfl rfl (fun w' hw => calls_ext hw (ofchange x)) ?_
      refine Qt.va rfl (fun w' hw => X.move (by conv => lhs; whnf)) ?_
      refine Qt.va rfl (fun w' hw => X.move (by conv => lhs; whnf)) ?_
      refine Qt.va rfl (fun w' hw => X.move (by conv => lhs; whnf)) ?_
      refine Qt.va rfl (fun w' hw => X.sub rfl rfl (by omega)) ?_
      refine Qt.va rfl (fun w' hw => X.indexAddrn (j := j) rfl (show Value.int .i64 (((j + 1 : Nat) : Int) - 1) = _ by rw [show (((j + 1 : Nat) : Int) - 1) = (j : Int) by omega]) Try.underlying25 sz_38 hA (by omega)) ?_
      refine Qt.va rfl (fun w' hw => X.loadRow (cs := chV y) rfl (hrow1 w' hw) (fun r u hu => flat_row ch_len gj r u hu) (Nat.zero_lt_succ _) Try.underlying38 rfl (by kernel_rfl)) ?_
      refine Qt.callV rfl en_28 rfl rfl (fun w' hw => calls_ext hw (ofchange y)) ?_
      refine Qt.va rfl (fun w' hw => X.leq rfl rfl) ?_
      refine Qt.nil (fun w3 hq => ?_)
      have he3 := he.trans hq
      refine J.dec rfl (fun hle => ?_) (fun hle => ?_)
      · have e : riseC l = false := by
          rw [← Bool.not_eq_true, riseC_at]
          intro h
          have := h j hil
          rw [hx, hy] at this
          omega
        rw [e]
        refine J.seq ?_
        refine J.region ?_
        refine L.va rfl (X.assign (by conv => lhs; whnf)) ?_
        refine L.nil ?_
        refine J.ret ?_
        refine inB_ret <|  thn_ret <|  thn_ret <|  inB_ret <|  thn_ret <| ?_
        refine fin1 ?_
        exact ⟨rfl, he3⟩
      · refine J.skip ?_
        refine J.region ?_
        refine L.va rfl (X.move (by conv => lhs; whnf)) ?_
        refine L.va rfl (X.add rfl rfl (by omega)) ?_
        refine L.va rfl (X.assign (by conv => lhs; whnf)) ?_
        refine L.nil ?_
        refine ⟨(j + 1) + 1, At1 (by first | rfl | exact at_int rfl (by omega) | exact at_slice rfl (by omega) | exact at_int rfl (by simp)), (by (iterate 21 refine Agr.lk rfl ?_); exact Agr.lk rfl (Agr.hav rfl Agr.rfl')), ?_⟩
        refine ⟨⟨by omega, by omega, he3, fun k hk => ?_⟩, by omega⟩
        rcases Nat.lt_or_ge k j with h2 | h2
        · exact hall k (by omega)
        · obtain rfl : k = j := by omega
          rw [hx, hy]
          omega
    · have e : riseC l = true := by
        rw [riseC_at]
        intro j hj
        exact hall j (by omega)
      rw [e]
      refine J.exit ?_
      refine J.seq ?_
      refine J.region ?_
      refine L.va rfl (X.assign (by conv => lhs; whnf)) ?_
      refine L.nil ?_
      refine J.ret ?_
      refine fin1 ?_
      exact ⟨rfl, he⟩
end Go.Proofs.Ytpomklkfedpkfaa
namespace Go.Proofs.Ytpomklkfedpkfaa
open Go.RowKit
set_option linter.unusedVariables false
namespace Dfp
theorem risC_eq : ∀ {l m : List Ce}, RisC l → RisC m → (∀ x, x ∈ l ↔ x ∈ m) → l = m
  | [], [], _, _, _ => rfl
  | [], b :: t, _, _, h => absurd ((h b).2 (by simp)) (by simp)
  | a :: s, [], _, _, h => absurd ((h a).1 (by simp)) (by simp)
  | a :: s, b :: t, hl, hm, h => by
    have hl' := List.pairwise_cons.1 hl
    have hm' := List.pairwise_cons.1 hm
    have hab : a = b := by
      rcases List.mem_cons.1 ((h a).1 (by simp)) with h1 | h1
      · exact h1
      · rcases List.mem_cons.1 ((h b).2 (by simp)) with h2 | h2
        · exact h2.symm
        · have := hm'.1 a h1
          have := hl'.1 b h2
          omega
    subst hab
    rw [risC_eq hl'.2 hm'.2 fun x => ?_]
    constructor
    · intro hx
      rcases List.mem_cons.1 ((h x).1 (by simp [hx])) with h1 | h1
      · subst h1
        have := hl'.1 x hx
        omega
      · exact h1
    · intro hx
      rcases List.mem_cons.1 ((h x).2 (by simp [hx])) with h1 | h1
      · subst h1
        have := hm'.1 x hx
        omega
      · exact h1
theorem rise_of {l : List Ce} (h : RisC l) : rise l = true := by
  rw [rise_at]
  intro i hi
  have := List.pairwise_iff_getElem.1 h i (i + 1) (by omega) hi (by omega)
  rw [List.getD, List.getD, List.getElem?_eq_getElem (by omega : i < l.length), List.getElem?_eq_getElem hi]
  exact this
theorem risL_of {l : List (Int × Int)} (h : riseC l = true) : Ris l := by
  rw [riseC_at] at h
  have key : ∀ i j, i < j → j < l.length → (l.getD i ((0, 0) : Int × Int)).1 < (l.getD j ((0, 0) : Int × Int)).1 := by
    intro i j hij
    induction j with
    | zero => omega
    | succ j ih =>
      intro hj
      rcases Nat.lt_or_ge i j with h1 | h1
      · exact Int.lt_trans (ih h1 (by omega)) (h j hj)
      · obtain rfl : i = j := by omega
        exact h i hj
  rw [Ris, List.pairwise_iff_getElem]
  intro i j hi hj hij
  have := key i j hij hj
  rw [List.getD, List.getD, List.getElem?_eq_getElem hi, List.getElem?_eq_getElem hj] at this
  exact this
theorem take_oneL {l : List (Int × Int)} {i : Nat} (h : i < l.length) : l.take (i + 1) = l.take i ++ [l.getD i (0, 0)] := by
  rw [List.take_succ_eq_append_getElem h, List.getD, List.getElem?_eq_getElem h]
  rfl
theorem drop_oneL {l : List (Int × Int)} {i : Nat} (h : i < l.length) : l.drop i = l.getD i (0, 0) :: l.drop (i + 1) := by
  rw [List.drop_eq_getElem_cons h, List.getD, List.getElem?_eq_getElem h]
  rfl
theorem drop_one {l : List Ce} {i : Nat} (h : i < l.length) : l.drop i = l.getD i ce0 :: l.drop (i + 1) := by
  rw [List.drop_eq_getElem_cons h, List.getD, List.getElem?_eq_getElem h]
  rfl
theorem ris_cut {l : List (Int × Int)} (h : Ris l) {i : Nat} (hi : i < l.length) : (∀ q ∈ l.take i, q.1 < (l.getD i (0, 0)).1) ∧ ∀ q ∈ l.drop (i + 1), (l.getD i (0, 0)).1 < q.1 := by
  have e := List.take_append_drop i l
  rw [drop_oneL hi] at e
  rw [← e, Ris, List.pairwise_append] at h
  obtain ⟨_, h2, h3⟩ := h
  rw [List.pairwise_cons] at h2
  exact ⟨fun q hq => h3 q hq _ (by simp), h2.1⟩
theorem risC_cut {l : List Ce} (h : RisC l) {i : Nat} (hi : i < l.length) : (∀ q ∈ l.take i, q.key < (l.getD i ce0).key) ∧ ∀ q ∈ l.drop (i + 1), (l.getD i ce0).key < q.key := by
  have e := List.take_append_drop i l
  rw [drop_one hi] at e
  rw [← e, RisC, List.pairwise_append] at h
  obtain ⟨_, h2, h3⟩ := h
  rw [List.pairwise_cons] at h2
  exact ⟨fun q hq => h3 q hq _ (by simp), h2.1⟩
structure PS (a b : List Ce) (l : List (Int × Int)) (i p : Nat) (out : List Ce) : Prop where
  ris : RisC out
  mem : ∀ c, c ∈ out ↔ (c ∈ a.take p ∧ ∀ q ∈ l, q.1 ≠ c.key) ∨ (c ∈ b ∧ ∃ q ∈ l.take i, q.1 = c.key ∧ q.2 ≠ 1)
  lo : ∀ c ∈ a.take p, ∀ q ∈ l.drop i, c.key < q.1
  hi : ∀ c ∈ a.drop p, ∀ q ∈ l.take i, q.1 < c.key
variable {a b : List Ce} {l : List (Int × Int)} {i p : Nat} {out : List Ce}
theorem PS.start (a b : List Ce) (l : List (Int × Int)) : PS a b l 0 0 [] := ⟨List.Pairwise.nil, fun c => by simp, fun c hc => by simp at hc, fun c _ q hq => by simp at hq⟩
theorem snoc {o : List Ce} {x : Ce} (h : RisC o) (hx : ∀ c ∈ o, c.key < x.key) : RisC (o ++ [x]) := by
  rw [RisC, List.pairwise_append]
  exact ⟨h, by simp, fun c hc y hy => by rw [List.mem_singleton] at hy; rw [hy]; exact hx c hc⟩
theorem PS.pass (h : PS a b l i p out) (ha : RisC a) (hl : Ris l) (hi : i < l.length) (hp : p < a.length) (hk : (a.getD p ce0).key < (l.getD i (0, 0)).1) : PS a b l i (p + 1) (out ++ [a.getD p ce0]) := by
  obtain ⟨a1, a2⟩ := risC_cut ha hp
  obtain ⟨l1, l2⟩ := ris_cut hl hi
  have hH := h.hi
  have hL := h.lo
  rw [drop_one hp] at hH
  rw [drop_oneL hi] at hL
  have hap : ∀ q ∈ l.take i, q.1 < (a.getD p ce0).key := fun q hq => hH _ (by simp) q hq
  have hnl : ∀ q ∈ l, q.1 ≠ (a.getD p ce0).key := fun q hq => by
    rw [← List.take_append_drop i l, drop_oneL hi] at hq
    rcases List.mem_append.1 hq with h1 | h1
    · have := hap q h1; omega
    · rcases List.mem_cons.1 h1 with rfl | h1
      · omega
      · have := l2 q h1; omega
  refine ⟨snoc h.ris fun c hc => ?_, fun c => ?_, fun c hc q hq => ?_, fun c hc q hq => ?_⟩
  · rcases (h.mem c).1 hc with ⟨h1, _⟩ | ⟨_, q, hq, e, _⟩
    · exact a1 c h1
    · have := hap q hq; omega
  · rw [List.mem_append, List.mem_singleton, h.mem, take_one hp, List.mem_append, List.mem_singleton]
    constructor
    · rintro ((⟨h1, h2⟩ | h1) | rfl)
      · exact .inl ⟨.inl h1, h2⟩
      · exact .inr h1
      · exact .inl ⟨.inr rfl, hnl⟩
    · rintro (⟨h1 | h1, h2⟩ | h1)
      · exact .inl (.inl ⟨h1, h2⟩)
      · exact .inr h1
      · exact .inl (.inr h1)
  · rw [take_one hp, List.mem_append, List.mem_singleton] at hc
    rcases hc with h1 | rfl
    · exact h.lo c h1 q hq
    · rw [drop_oneL hi] at hq
      rcases List.mem_cons.1 hq with rfl | h2
      · exact hk
      · have := l2 q h2; omega
  · exact hH c (List.mem_cons_of_mem _ hc) q hq
theorem PS.here (h : PS a b l i p out) (ha : RisC a) (hi : i < l.length) (hge : p < a.length → (l.getD i (0, 0)).1 ≤ (a.getD p ce0).key) : (∃ c ∈ a, c.key = (l.getD i (0, 0)).1) ↔ (p < a.length ∧ (a.getD p ce0).key = (l.getD i (0, 0)).1) := by
  have hL := h.lo
  rw [drop_oneL hi] at hL
  constructor
  · rintro ⟨c, hc, e⟩
    rw [← List.take_append_drop p a] at hc
    rcases List.mem_append.1 hc with h1 | h1
    · have := hL c h1 _ (List.mem_cons_self ..); omega
    · have hp : p < a.length := by
        apply Decidable.byContradiction
        intro hn
        rw [List.drop_eq_nil_iff.2 (by omega)] at h1
        cases h1
      refine ⟨hp, ?_⟩
      have g := hge hp
      rw [drop_one hp] at h1
      rcases List.mem_cons.1 h1 with rfl | h2
      · exact e
      · have := (risC_cut ha hp).2 c h2; omega
  · rintro ⟨hp, e⟩
    exact ⟨_, memD hp, e⟩
theorem PS.gone (h : PS a b l i p out) (ha : RisC a) (hl : Ris l) (hi : i < l.length) (hp : p < a.length) (hk : (a.getD p ce0).key = (l.getD i (0, 0)).1) (hx : (l.getD i (0, 0)).2 = 1) : PS a b l (i + 1) (p + 1) out := by
  obtain ⟨a1, a2⟩ := risC_cut ha hp
  obtain ⟨l1, l2⟩ := ris_cut hl hi
  have hm : l.getD i (0, 0) ∈ l := memD hi
  refine ⟨h.ris, fun c => ?_, fun c hc q hq => ?_, fun c hc q hq => ?_⟩
  · rw [h.mem, take_one hp, List.mem_append, List.mem_singleton, take_oneL hi]
    constructor
    · rintro (⟨h1, h2⟩ | ⟨h1, q, hq, h2⟩)
      · exact .inl ⟨.inl h1, h2⟩
      · exact .inr ⟨h1, q, List.mem_append_left _ hq, h2⟩
    · rintro (⟨h1 | h1, h2⟩ | ⟨h1, q, hq, h2, h3⟩)
      · exact .inl ⟨h1, h2⟩
      · subst h1
        exact absurd hk.symm (h2 _ hm)
      · rcases List.mem_append.1 hq with h4 | h4
        · exact .inr ⟨h1, q, h4, h2, h3⟩
        · rw [List.mem_singleton] at h4
          subst h4
          exact absurd hx h3
  · rw [take_one hp, List.mem_append, List.mem_singleton] at hc
    have := l2 q hq
    rcases hc with h1 | rfl
    · have := a1 c h1; omega
    · omega
  · rw [take_oneL hi, List.mem_append, List.mem_singleton] at hq
    have := a2 c hc
    rcases hq with h1 | rfl
    · have := l1 q h1; omega
    · omega
theorem PS.put (h : PS a b l i p out) (ha : RisC a) (hb : RisC b) (hl : Ris l) (hi : i < l.length) (hge : p < a.length → (l.getD i (0, 0)).1 ≤ (a.getD p ce0).key) {p' : Nat}
    (hp : (p' = p + 1 ∧ p < a.length ∧ (a.getD p ce0).key = (l.getD i (0, 0)).1) ∨ (p' = p ∧ ¬ (p < a.length ∧ (a.getD p ce0).key = (l.getD i (0, 0)).1))) {y : Ce} (hy : y ∈ b) (hk : y.key = (l.getD i (0, 0)).1) (hx : (l.getD i (0, 0)).2 ≠ 1) : PS a b l (i + 1) p' (out ++ [y]) := by
  obtain ⟨l1, l2⟩ := ris_cut hl hi
  have hm : l.getD i (0, 0) ∈ l := memD hi
  have hL := h.lo
  rw [drop_oneL hi] at hL
  have hone : ∀ z ∈ b, z.key = y.key → z = y := fun z hz e => by
    obtain ⟨m, hm, rfl⟩ := List.getElem_of_mem hz
    obtain ⟨k, hk', rfl⟩ := List.getElem_of_mem hy
    rcases Nat.lt_trichotomy m k with h | rfl | h
    · have := List.pairwise_iff_getElem.1 hb m k hm hk' h
      omega
    · rfl
    · have := List.pairwise_iff_getElem.1 hb k m hk' hm h
      omega
  have htk : ∀ c, (c ∈ a.take p' ∧ ∀ q ∈ l, q.1 ≠ c.key) ↔ (c ∈ a.take p ∧ ∀ q ∈ l, q.1 ≠ c.key) := fun c => by
    rcases hp with ⟨rfl, hp, e⟩ | ⟨rfl, _⟩
    · rw [take_one hp, List.mem_append, List.mem_singleton]
      constructor
      · rintro ⟨h1 | rfl, h2⟩
        · exact ⟨h1, h2⟩
        · exact absurd e.symm (h2 _ hm)
      · rintro ⟨h1, h2⟩
        exact ⟨.inl h1, h2⟩
    · exact Iff.rfl
  refine ⟨snoc h.ris fun c hc => ?_, fun c => ?_, fun c hc q hq => ?_, fun c hc q hq => ?_⟩
  · rcases (h.mem c).1 hc with ⟨h1, _⟩ | ⟨_, q, hq, e, _⟩
    · have := hL c h1 _ (List.mem_cons_self ..); omega
    · have := l1 q hq; omega
  · rw [htk, List.mem_append, List.mem_singleton, h.mem, take_oneL hi]
    constructor
    · rintro ((h1 | ⟨h1, q, hq, h2⟩) | rfl)
      · exact .inl h1
      · exact .inr ⟨h1, q, List.mem_append_left _ hq, h2⟩
      · exact .inr ⟨hy, _, List.mem_append_right _ (by simp), hk.symm, hx⟩
    · rintro (h1 | ⟨h1, q, hq, h2, h3⟩)
      · exact .inl (.inl h1)
      · rcases List.mem_append.1 hq with h4 | h4
        · exact .inl (.inr ⟨h1, q, h4, h2, h3⟩)
        · rw [List.mem_singleton] at h4
          subst h4
          exact .inr (hone c h1 (by omega))
  · have h2 := l2 q hq
    rcases hp with ⟨rfl, hp, e⟩ | ⟨rfl, _⟩
    · rw [take_one hp, List.mem_append, List.mem_singleton] at hc
      rcases hc with h1 | rfl
      · have := hL c h1 _ (List.mem_cons_self ..); omega
      · omega
    · have := hL c hc _ (List.mem_cons_self ..); omega
  · rw [take_oneL hi, List.mem_append, List.mem_singleton] at hq
    have hc2 : (l.getD i (0, 0)).1 < c.key := by
      rcases hp with ⟨rfl, hp, e⟩ | ⟨rfl, hn⟩
      · have := (risC_cut ha hp).2 c hc; omega
      · have hp : p' < a.length := by
          apply Decidable.byContradiction
          intro hn
          rw [List.drop_eq_nil_iff.2 (by omega)] at hc
          cases hc
        have g := hge hp
        have g2 : (a.getD p' ce0).key ≠ (l.getD i (0, 0)).1 := fun e => hn ⟨hp, e⟩
        rw [drop_one hp] at hc
        rcases List.mem_cons.1 hc with rfl | h2
        · omega
        · have := (risC_cut ha hp).2 c h2; omega
    rcases hq with h1 | rfl
    · have := l1 q h1; omega
    · exact hc2
structure Pat (a b : List Ce) (l : List (Int × Int)) (o : List Ce) : Prop where
  ris : RisC o
  mem : ∀ c, c ∈ o ↔ (c ∈ a ∧ ∀ q ∈ l, q.1 ≠ c.key) ∨ (c ∈ b ∧ ∃ q ∈ l, q.1 = c.key ∧ q.2 ≠ 1)
theorem PS.all (h : PS a b l l.length p out) (ha : RisC a) : Pat a b l (out ++ a.drop p) := by
  have hH := h.hi
  rw [List.take_length] at hH
  have ea := List.take_append_drop p a
  have ha' := ha
  rw [← ea, RisC, List.pairwise_append] at ha'
  refine ⟨?_, fun c => ?_⟩
  · rw [RisC, List.pairwise_append]
    refine ⟨h.ris, ha'.2.1, fun c hc d hd => ?_⟩
    rcases (h.mem c).1 hc with ⟨h1, _⟩ | ⟨_, q, hq, e, _⟩
    · exact ha'.2.2 c h1 d hd
    · rw [List.take_length] at hq
      have := hH d hd q hq
      omega
  · rw [List.mem_append, h.mem, List.take_length]
    constructor
    · rintro ((⟨h1, h2⟩ | h1) | h1)
      · exact .inl ⟨List.mem_of_mem_take h1, h2⟩
      · exact .inr h1
      · refine .inl ⟨List.mem_of_mem_drop h1, fun q hq => ?_⟩
        have := hH c h1 q hq
        omega
    · rintro (⟨h1, h2⟩ | h1)
      · rw [← ea] at h1
        rcases List.mem_append.1 h1 with h3 | h3
        · exact .inl (.inl ⟨h3, h2⟩)
        · exact .inr h3
      · exact .inl (.inr h1)
theorem Pat.one {o o' : List Ce} (h : Pat a b l o) (h' : Pat a b l o') : o = o' := risC_eq h.ris h'.ris fun c => by rw [h.mem, h'.mem]
def hasK (l : List Ce) (k : Int) : Bool := l.any fun c => decide (c.key = k)
theorem hasK_t {l : List Ce} {k : Int} : hasK l k = true ↔ ∃ c ∈ l, c.key = k := by unfold hasK; simp
theorem hasK_f {l : List Ce} {k : Int} : hasK l k = false ↔ ∀ c ∈ l, c.key ≠ k := by unfold hasK; simp
def okK (q : Int × Int) : Bool := decide (1 ≤ q.2) && decide (q.2 ≤ 3)
def fault (a b : List Ce) (q : Int × Int) : Int := if (q.2 ≠ 2 ∧ hasK a q.1 = false) ∨ (q.2 ≠ 1 ∧ hasK b q.1 = false) then 11 else if q.2 = 2 ∧ hasK a q.1 = true then 9 else 0
def patE (a : List Ce) (l : List (Int × Int)) (b : List Ce) : Int := if (rise a && (rise b && riseC l)) = false then 1 else if l.all okK = false then 1 else ((l.map (fault a b)).find? (fun z => decide (z ≠ 0))).getD 0
theorem patE_1 (h : (rise a && (rise b && riseC l)) = false) : patE a l b = 1 := by unfold patE; rw [if_pos h]
theorem patE_k {i : Nat} (hi : i < l.length) (h : okK (l.getD i (0, 0)) = false) : patE a l b = 1 := by
  unfold patE
  split
  · rfl
  · rw [if_pos]
    rw [← Bool.not_eq_true, List.all_eq_true]
    intro h2
    rw [h2 _ (memD hi)] at h
    cases h
theorem patE_r (h1 : (rise a && (rise b && riseC l)) = true) (h2 : ∀ i, i < l.length → okK (l.getD i (0, 0)) = true) : patE a l b = ((l.map (fault a b)).find? (fun z => decide (z ≠ 0))).getD 0 := by
  unfold patE
  rw [h1, if_neg (by simp), if_neg]
  rw [Bool.not_eq_false, List.all_eq_true]
  intro q hq
  obtain ⟨i, hi, rfl⟩ := List.getElem_of_mem hq
  have := h2 i hi
  rwa [List.getD, List.getElem?_eq_getElem hi] at this
theorem find_at {l : List Int} : ∀ {i : Nat}, i < l.length → (∀ j, j < i → l.getD j 0 = 0) → l.getD i 0 ≠ 0 → (l.find? (fun z => decide (z ≠ 0))).getD 0 = l.getD i 0 := by
  induction l with
  | nil => intro i hi; simp at hi
  | cons x t ih =>
    intro i hi h1 h2
    cases i with
    | zero =>
      have : x ≠ 0 := h2
      simp [this]
    | succ i =>
      have h0 : x = 0 := h1 0 (by omega)
      subst h0
      have := ih (i := i) (by simpa using hi) (fun j hj => h1 (j + 1) (by omega)) h2
      simpa [List.find?_cons] using this
theorem find_no {l : List Int} (h : ∀ j, j < l.length → l.getD j 0 = 0) : (l.find? (fun z => decide (z ≠ 0))).getD 0 = 0 := by
  have : l.find? (fun z => decide (z ≠ 0)) = none := by
    rw [List.find?_eq_none]
    intro x hx
    obtain ⟨i, hi, rfl⟩ := List.getElem_of_mem hx
    have := h i hi
    rw [List.getD, List.getElem?_eq_getElem hi] at this
    simpa using this
  rw [this]
  rfl
theorem map_fault {i : Nat} (hi : i < l.length) : (l.map (fault a b)).getD i 0 = fault a b (l.getD i (0, 0)) := by
  rw [List.getD, List.getD, List.getElem?_map, List.getElem?_eq_getElem hi]
  rfl
theorem patE_f (h1 : (rise a && (rise b && riseC l)) = true) (h2 : ∀ i, i < l.length → okK (l.getD i (0, 0)) = true) (hi : i < l.length) (h3 : ∀ j, j < i → fault a b (l.getD j (0, 0)) = 0) (h4 : fault a b (l.getD i (0, 0)) ≠ 0) : patE a l b = fault a b (l.getD i (0, 0)) := by
  rw [patE_r h1 h2, find_at (i := i) (by simpa using hi) (fun j hj => by rw [map_fault (by omega)]; exact h3 j hj) (by rw [map_fault hi]; exact h4), map_fault hi]
theorem patE_0 (h1 : (rise a && (rise b && riseC l)) = true) (h2 : ∀ i, i < l.length → okK (l.getD i (0, 0)) = true) (h3 : ∀ j, j < l.length → fault a b (l.getD j (0, 0)) = 0) : patE a l b = 0 := by
  rw [patE_r h1 h2]
  exact find_no fun j hj => by
    have hj : j < l.length := by simpa using hj
    rw [map_fault hj]
    exact h3 j hj
end Dfp
end Go.Proofs.Ytpomklkfedpkfaa
namespace Go.Proofs.Ytpomklkfedpkfaa
set_option maxRecDepth 100000
open Go.RowKit H
open Dfp
set_option linter.unusedVariables false
def PatR (la : List Ce) (l : List (Int × Int)) (lb : List Ce) (w : World) (e : Ending) (w' : World) : Prop :=
  ∃ t : Ces, e = .returned (.tuple #[t.val, .int .i64 (patE la l lb)]) ∧ t.At w'.heap.size w' ∧ t.n ≤ t.c ∧ t.n ≤ 1000 ∧ (∀ x ∈ t.l, x.Lt) ∧ (patE la l lb ≠ 0 → t.con = []) ∧ (patE la l lb = 0 → ∃ o, Pat la lb l o ∧ t.con = o.map Ce.con) ∧ Ext w w'
theorem PatR.none_ {la lb : List Ce} {l : List (Int × Int)} {w w' : World} {e : Ending} {z : Int} (hz : patE la l lb = z) (h0 : z ≠ 0) (he : e = .returned (.tuple #[.slice none 0 0, .int .i64 z])) (hx : Ext w w') : PatR la l lb w e w' :=
  ⟨⟨none, 0, 0, []⟩, by rw [he, hz], ⟨Reads.of_own (own_nil w' 0 0 4), (fun x hx => by cases hx), rfl, Nat.zero_le _⟩, Nat.le_refl _, Nat.zero_le _, (fun x hx => by cases hx), fun _ => rfl, fun h => absurd (hz.symm.trans h) h0, hx⟩
theorem cutC {w : World} {N : Nat} {A : Option Addr} {la : List Ce} {p ca : Nat} (h : Reads w N 4 A (la.length - p) ((la.drop p).flatMap Ce.vs)) (hp : p < la.length) (hc : la.length - p ≤ ca) : Reads w N 4 (if ca = 1 then A else A.map (·.add (1 * 4))) (la.length - (p + 1)) ((la.drop (p + 1)).flatMap Ce.vs) := by
  have := h.cut (k := 1) (cap := ca) (by omega) hc
  rw [flat_drop' ce_len, List.drop_drop, show la.length - p - 1 = la.length - (p + 1) by omega] at this
  exact this
structure PatI (N : Nat) (w : World) (la lb : List Ce) (l : List (Int × Int)) (i p : Nat) (Aa : Option Addr) (ca : Nat) (oA : Option Addr) (od : Nat) (out : List Ce) (w' : World) : Prop where
  hp : p ≤ la.length
  ra : Reads w' N 4 Aa (la.length - p) ((la.drop p).flatMap Ce.vs)
  hc : la.length - p ≤ ca
  ho : w'.ownsRow w.heap.size 61 4 (.slice oA out.length od) out.length (out.flatMap Ce.vs)
  ps : PS la lb l i p out
  len : out.length ≤ p + i
  he : Ext w w'
theorem PatI.ext {N : Nat} {w : World} {la lb : List Ce} {l : List (Int × Int)} {i p : Nat} {Aa : Option Addr} {ca : Nat} {oA : Option Addr} {od : Nat} {out : List Ce} {w' w'' : World} (h : PatI N w la lb l i p Aa ca oA od out w') (hx : Ext w' w'') : PatI N w la lb l i p Aa ca oA od out w'' := ⟨h.hp, h.ra.ext hx, h.hc, h.ho.ext hx, h.ps, h.len, h.he.trans hx⟩
theorem dpatch {w : World} {N : Nat} (hN : N ≤ w.heap.size) (A : Option Addr) (c : Nat) (la : List Ce) (hra : Reads w N 4 A la.length (la.flatMap Ce.vs)) (hca : la.length ≤ c) (P : Option Addr) (pc : Nat) (l : List (Int × Int)) (hrl : Reads w N 2 P l.length (l.flatMap chV)) (B : Option Addr) (d : Nat) (lb : List Ce) (hrb : Reads w N 4 B lb.length (lb.flatMap Ce.vs)) (hm : la.length ≤ 200 ∧ l.length ≤ 200 ∧ lb.length ≤ 200)
    (hLa : ∀ x ∈ la, x.At N w ∧ x.Lt) (hLb : ∀ x ∈ lb, x.At N w ∧ x.Lt) :
    Calls Try.prog 11 #[.slice A la.length c, .slice P l.length pc, .slice B lb.length d] w (PatR la l lb w) := by
  refine enter Try.func11 rfl (by kernel_rfl) ?_
  refine J.seq ?_
  refine J.region ?_
  refine L.va rfl (X.assign (by conv => lhs; whnf)) ?_
  refine L.va rfl (X.assign (by conv => lhs; whnf)) ?_
  refine L.nil ?_
  refine J.seq ?_
  refine J.seq ?_
  refine J.region ?_
  refine L.va rfl (X.move (by conv => lhs; whnf)) ?_
  have c1 := rising_ A c la hra hN (by omega)
  cases h1 : rise la
  · rw [h1] at c1
    refine L.call rfl en_20 rfl (c1) ?_
    rintro e w1 ⟨rfl, he1⟩
    refine ⟨_, rfl, ?_⟩
    refine L.va rfl (X.not rfl) ?_
    refine L.va rfl (X.move (by conv => lhs; whnf)) ?_
    refine L.caseBT (k := 19) rfl (by rfl) ?_
    refine L.no rfl ?_
    refine L.no rfl ?_
    refine L.no rfl ?_
    refine L.va rfl (X.pickT rfl (by conv => lhs; whnf)) ?_
    refine L.va rfl (X.move (by conv => lhs; whnf)) ?_
    refine L.no rfl ?_
    refine L.no rfl ?_
    refine L.no rfl ?_
    refine L.va rfl (X.pickT rfl (by conv => lhs; whnf)) ?_
    refine L.nil ?_
    refine J.iteT rfl ?_
    refine J.seq ?_
    refine J.region ?_
    refine L.va rfl (X.assign (by conv => lhs; whnf)) ?_
    refine L.va rfl (X.assign (by conv => lhs; whnf)) ?_
    refine L.nil ?_
    refine J.ret ?_
    refine thn_ret <| ?_
    refine fin2 ?_
    exact PatR.none_ (patE_1 (by rw [h1]; rfl)) (by decide) rfl he1
  · rw [h1] at c1
    refine L.call rfl en_20 rfl (c1) ?_
    rintro e w1 ⟨rfl, he1⟩
    refine ⟨_, rfl, ?_⟩
    have he1 : Ext w w1 := he1
    have c2 := rising_ (w := w1) B d lb (hrb.low (Below.mono he1 hN) (Nat.le_refl _)) (by have := he1.le; omega) (by omega)
    refine L.va rfl (X.not rfl) ?_
    refine L.va rfl (X.move (by conv => lhs; whnf)) ?_
    refine L.caseBF (k := 19) rfl (by rfl) ?_
    refine L.va rfl (X.move (by conv => lhs; whnf)) ?_
    cases h2 : rise lb
    · rw [h2] at c2
      refine L.call rfl en_20 rfl (c2) ?_
      rintro e w2 ⟨rfl, he2⟩
      refine ⟨_, rfl, ?_⟩
      refine L.va rfl (X.not rfl) ?_
      refine L.va rfl (X.pickF rfl (by conv => lhs; whnf)) ?_
      refine L.va rfl (X.move (by conv => lhs; whnf)) ?_
      refine L.caseBT (k := 24) rfl (by rfl) ?_
      refine L.no rfl ?_
      refine L.no rfl ?_
      refine L.no rfl ?_
      refine L.va rfl (X.pickT rfl (by conv => lhs; whnf)) ?_
      refine L.nil ?_
      refine J.iteT rfl ?_
      refine J.seq ?_
      refine J.region ?_
      refine L.va rfl (X.assign (by conv => lhs; whnf)) ?_
      refine L.va rfl (X.assign (by conv => lhs; whnf)) ?_
      refine L.nil ?_
      refine J.ret ?_
      refine thn_ret <| ?_
      refine fin2 ?_
      exact PatR.none_ (patE_1 (by rw [h1, h2]; rfl)) (by decide) rfl (he1.trans he2)
    · rw [h2] at c2
      refine L.call rfl en_20 rfl (c2) ?_
      rintro e w2 ⟨rfl, he2⟩
      refine ⟨_, rfl, ?_⟩
      have he2 : Ext w1 w2 := he2
      have he02 := he1.trans he2
      have c3 := risingC_ (w := w2) P pc l (hrl.low (Below.mono he02 hN) (Nat.le_refl _)) (by have := he02.le; omega) (by omega)
      refine L.va rfl (X.not rfl) ?_
      refine L.va rfl (X.pickF rfl (by conv => lhs; whnf)) ?_
      refine L.va rfl (X.move (by conv => lhs; whnf)) ?_
      refine L.caseBF (k := 24) rfl (by rfl) ?_
      refine L.va rfl (X.move (by conv => lhs; whnf)) ?_
      cases h3 : riseC l
      · rw [h3] at c3
        refine L.call rfl en_27 rfl (c3) ?_
        rintro e w3 ⟨rfl, he3⟩
        refine ⟨_, rfl, ?_⟩
        refine L.va rfl (X.not rfl) ?_
        refine L.va rfl (X.pickF rfl (by conv => lhs; whnf)) ?_
        refine L.nil ?_
        refine J.iteT rfl ?_
        refine J.seq ?_
        refine J.region ?_
        refine L.va rfl (X.assign (by conv => lhs; whnf)) ?_
        refine L.va rfl (X.assign (by conv => lhs; whnf)) ?_
        refine L.nil ?_
        refine J.ret ?_
        refine thn_ret <| ?_
        refine fin2 ?_
        exact PatR.none_ (patE_1 (by rw [h1, h2, h3]; rfl)) (by decide) rfl (he02.trans he3)
      · rw [h3] at c3
        refine L.call rfl en_27 rfl (c3) ?_
        rintro e w3 ⟨rfl, he3⟩
        refine ⟨_, rfl, ?_⟩
        have he03 : Ext w w3 := he02.trans he3
        have hrs : (rise la && (rise lb && riseC l)) = true := by rw [h1, h2, h3]; rfl
        have Ra := ris_of h1
        have Rb := ris_of h2
        have Rl := risL_of h3
        refine L.va rfl (X.not rfl) ?_
        refine L.va rfl (X.pickF rfl (by conv => lhs; whnf)) ?_
        refine L.nil ?_
        refine J.iteF rfl ?_
        refine J.skip ?_
        refine J.cut (X := Unit) [6, 7, 9, 29, 30, 31, 32, 33, 34, 35, 36, 37, 38, 39, 40, 41, 42, 43] (fun _ => []) (fun _ w' => (∀ j, j < l.length → okK (l.getD j (0, 0)) = true) ∧ Ext w w') ?_ ?_
        · refine J.seq ?_
          refine J.region ?_
          refine L.va rfl (X.move (by conv => lhs; whnf)) ?_
          refine L.va rfl (X.len rfl Try.underlying25) ?_
          refine L.va rfl (X.move (by conv => lhs; whnf)) ?_
          refine L.nil ?_
          refine J.block ?_
          refine J.loop (X := Nat) [6, 7, 9, 31, 32, 33, 34, 35, 36, 37, 38, 39, 40, 41, 42, 43] (fun i => [(31, .int .i64 (i : Int))]) (fun i w' => i ≤ l.length ∧ (∀ j, j < i → okK (l.getD j (0, 0)) = true) ∧ Ext w w') (fun i => l.length - i) (0) (At1 (by first | rfl | exact at_int rfl (by omega) | exact at_slice rfl (by omega) | exact at_int rfl (by simp))) ?_ ?_
          · exact ⟨Nat.zero_le _, fun j hj => absurd hj (by omega), he03⟩
          · rintro i g w4 ⟨hi, hK, he4⟩
            have z4 := he4.le
            refine J.seq ?_
            refine J.region ?_
            refine L.va rfl (X.lss rfl rfl) ?_
            refine L.nil ?_
            refine J.seq ?_
            refine J.dec rfl (fun hlt => ?_) (fun hlt => ?_)
            · have hin : i < l.length := by omega
              have hr4 := hrl.low (Below.mono he4 hN) (Nat.le_refl _)
              have hA := hr4.some_ (by omega)
              have gx := gtC hin
              obtain ⟨x, hx⟩ : ∃ x, x = l.getD i ((0, 0) : Int × Int) := ⟨_, rfl⟩
              rw [← hx] at gx
              refine J.skip ?_
              refine J.seq ?_
              refine J.block ?_
              refine J.seq ?_
              refine J.region ?_
              refine L.va rfl ((by first | exact X.indexAddrn rfl rfl Try.underlying25 sz_38 (by first | exact Option.some_ne_none _ | exact hA) (by omega) | exact X.indexAddr rfl rfl Try.underlying25 sz_38 (by first | exact Option.some_ne_none _ | exact hA) (by omega))) ?_
              refine L.va rfl (X.loadRow (cs := chV x) rfl hr4 (fun r u hu => flat_row ch_len gx r u hu) (Nat.zero_lt_succ _) Try.underlying38 rfl (by kernel_rfl)) ?_
              refine L.alloc rfl zr_38 ?_
              intro b5 w5 hb5 hs5 hk5 he5
              refine L.storeAgg (vs := [_, _]) rfl rfl rfl rfl sz_38 (hk5) rfl ?_
              intro w6 hk6 hg6 hs6
              have he46 : Ext w4 w6 := he5.grw hg6 (by intro g hg; injection hg with hg; omega)
              have hk6 : Blk w6 b5 38 (chV x).toArray := hk6
              have he06 := he4.trans he46
              refine L.nil ?_
              refine J.seq ?_
              refine J.region ?_
              refine L.va rfl (X.fieldAddr rfl Try.underlying38 rfl sz_3 (by decide)) ?_
              refine L.va rfl (X.load rfl sc_3 (by first | exact Ld.blk hk6 rfl | exact hA)) ?_
              refine L.va rfl (X.lss rfl rfl) ?_
              refine L.va rfl (X.move (by conv => lhs; whnf)) ?_
              refine L.caseDec (k := 38) rfl (fun h4 => ?_) (fun h4 => ?_)
              · refine L.no rfl ?_
                refine L.no rfl ?_
                refine L.no rfl ?_
                refine L.va rfl (X.pickT rfl (by conv => lhs; whnf)) ?_
                refine L.nil ?_
                refine J.iteT rfl ?_
                refine J.seq ?_
                refine J.region ?_
                refine L.va rfl (X.assign (by conv => lhs; whnf)) ?_
                refine L.va rfl (X.assign (by conv => lhs; whnf)) ?_
                refine L.nil ?_
                refine J.ret ?_
                refine inB_ret <|  thn_ret <|  thn_ret <|  inB_ret <|  thn_ret <| ?_
                refine fin2 ?_
                refine PatR.none_ (patE_k hin ?_) (by decide) rfl he06
                rw [← hx]
                unfold okK
                rw [decide_eq_false (by omega)]
                rfl
              · refine L.va rfl (X.fieldAddr rfl Try.underlying38 rfl sz_3 (by decide)) ?_
                refine L.va rfl (X.load rfl sc_3 (by first | exact Ld.blk hk6 rfl | exact hA)) ?_
                refine L.va rfl (X.gtr rfl rfl) ?_
                refine L.va rfl (X.pickF rfl (by conv => lhs; whnf)) ?_
                refine L.nil ?_
                refine J.dec rfl (fun h5 => ?_) (fun h5 => ?_)
                · refine J.seq ?_
                  refine J.region ?_
                  refine L.va rfl (X.assign (by conv => lhs; whnf)) ?_
                  refine L.va rfl (X.assign (by conv => lhs; whnf)) ?_
                  refine L.nil ?_
                  refine J.ret ?_
                  refine inB_ret <|  thn_ret <|  thn_ret <|  inB_ret <|  thn_ret <| ?_
                  refine fin2 ?_
                  refine PatR.none_ (patE_k hin ?_) (by decide) rfl he06
                  rw [← hx]
                  unfold okK
                  rw [decide_eq_false (show ¬ x.2 ≤ 3 by omega), Bool.and_false]
                · refine J.skip ?_
                  refine J.region ?_
                  refine L.va rfl (X.add rfl rfl (by omega)) ?_
                  refine L.va rfl (X.move (by conv => lhs; whnf)) ?_
                  refine L.nil ?_
                  refine ⟨i + 1, At1 (by first | rfl | exact at_int rfl (by omega) | exact at_slice rfl (by omega) | exact at_int rfl (by simp)), (by (iterate 15 refine Agr.lk rfl ?_); exact Agr.lk rfl (Agr.hav rfl Agr.rfl')), ?_⟩
                  refine ⟨⟨by omega, fun j hj => ?_, he06⟩, by omega⟩
                  rcases Nat.lt_or_ge j i with h | h
                  · exact hK j h
                  · obtain rfl : j = i := by omega
                    rw [← hx]
                    unfold okK
                    rw [decide_eq_true (by omega), decide_eq_true (by omega)]
                    rfl
            · obtain rfl : i = l.length := by omega
              refine J.exit ?_
              refine ⟨(), At0 , (by (iterate 1 refine Agr.lk rfl ?_); refine Agr.lk rfl ?_; refine Agr.hav rfl ?_; (iterate 3 refine Agr.lk rfl ?_); exact Agr.rfl'), ?_⟩
              exact ⟨hK, he4⟩
        · rintro ⟨⟩ g w4 ⟨hK, he4⟩
          refine J.seq ?_
          refine J.region ?_
          refine L.va rfl (X.assign (by conv => lhs; whnf)) ?_
          refine L.nil ?_
          refine J.cut (X := Nat × Option Addr × Nat × Option Addr × Nat × List Ce) [0, 6, 7, 10, 12, 13, 14, 15, 44, 45, 46, 47, 48, 49, 50, 51, 52, 53, 54, 55, 56, 57, 58, 59, 60, 61, 62, 63, 64, 65, 66, 67, 68, 69, 70, 71, 72, 73, 74, 75, 76, 77, 78, 79, 80, 81, 82, 83, 84, 85, 86, 87, 88, 89, 90, 91, 92, 93, 94, 95, 96, 97, 98, 99, 100, 101, 102, 103, 104, 105, 106, 107, 108, 109, 110, 111, 112, 113, 114, 115, 116, 117, 118, 119, 120, 121, 122, 123, 124] (fun (p, Aa, ca, oA, od, out) => [(0, .slice Aa (la.length - p) ca), (10, .slice oA out.length od)]) (fun (p, Aa, ca, oA, od, out) w' => PatI N w la lb l l.length p Aa ca oA od out w' ∧ patE la l lb = 0) ?_ ?_
          · refine J.seq ?_
            refine J.region ?_
            refine L.va rfl (X.move (by conv => lhs; whnf)) ?_
            refine L.va rfl (X.len rfl Try.underlying25) ?_
            refine L.va rfl (X.move (by conv => lhs; whnf)) ?_
            refine L.nil ?_
            refine J.block ?_
            refine J.loop (X := Nat × Nat × Option Addr × Nat × Option Addr × Nat × List Ce) [0, 6, 7, 10, 12, 13, 14, 15, 46, 47, 48, 49, 50, 51, 52, 53, 54, 55, 56, 57, 58, 59, 60, 61, 62, 63, 64, 65, 66, 67, 68, 69, 70, 71, 72, 73, 74, 75, 76, 77, 78, 79, 80, 81, 82, 83, 84, 85, 86, 87, 88, 89, 90, 91, 92, 93, 94, 95, 96, 97, 98, 99, 100, 101, 102, 103, 104, 105, 106, 107, 108, 109, 110, 111, 112, 113, 114, 115, 116, 117, 118, 119, 120, 121, 122, 123, 124] (fun (i, p, Aa, ca, oA, od, out) => [(46, .int .i64 (i : Int)), (0, .slice Aa (la.length - p) ca), (10, .slice oA out.length od)]) (fun (i, p, Aa, ca, oA, od, out) w' => i ≤ l.length ∧ (∀ j, j < i → fault la lb (l.getD j (0, 0)) = 0) ∧ PatI N w la lb l i p Aa ca oA od out w') (fun (i, _) => l.length - i) ((0, 0, A, c, none, 0, [])) (At3 (by first | rfl | exact at_int rfl (by omega) | exact at_slice rfl (by omega) | exact at_int rfl (by simp)) (by first | rfl | exact at_int rfl (by omega) | exact at_slice rfl (by omega) | exact at_int rfl (by simp)) (by first | rfl | exact at_int rfl (by omega) | exact at_slice rfl (by omega) | exact at_int rfl (by simp))) ?_ ?_
            · exact ⟨Nat.zero_le _, fun j hj => absurd hj (by omega), ⟨Nat.zero_le _, hra.low (Below.mono he4 hN) (Nat.le_refl _), hca, own_nil _ _ _ _, PS.start la lb l, Nat.le_refl _, he4⟩⟩
            · rintro ⟨i, p, Aa, ca, oA, od, out⟩ g w5 ⟨hi, hF, H⟩
              have he5 := H.he
              have z5 := he5.le
              refine J.seq ?_
              refine J.region ?_
              refine L.va rfl (X.lss rfl rfl) ?_
              refine L.nil ?_
              refine J.seq ?_
              refine J.dec rfl (fun hlt => ?_) (fun hlt => ?_)
              · have hin : i < l.length := by omega
                have hr5 := hrl.low (Below.mono he5 hN) (Nat.le_refl _)
                have hA := hr5.some_ (by omega)
                have gx := gtC hin
                obtain ⟨x, hx⟩ : ∃ x, x = l.getD i ((0, 0) : Int × Int) := ⟨_, rfl⟩
                rw [← hx] at gx
                refine J.skip ?_
                refine J.seq ?_
                refine J.block ?_
                refine J.seq ?_
                refine J.region ?_
                refine L.va rfl ((by first | exact X.indexAddrn rfl rfl Try.underlying25 sz_38 (by first | exact Option.some_ne_none _ | exact hA) (by omega) | exact X.indexAddr rfl rfl Try.underlying25 sz_38 (by first | exact Option.some_ne_none _ | exact hA) (by omega))) ?_
                refine L.va rfl (X.loadRow (cs := chV x) rfl hr5 (fun r u hu => flat_row ch_len gx r u hu) (Nat.zero_lt_succ _) Try.underlying38 rfl (by kernel_rfl)) ?_
                refine L.alloc rfl zr_38 ?_
                intro b6 w6 hb6 hs6 hk6 he6
                refine L.storeAgg (vs := [_, _]) rfl rfl rfl rfl sz_38 (hk6) rfl ?_
                intro w7 hk7 hg7 hs7
                have he57 : Ext w5 w7 := he6.grw hg7 (by intro g hg; injection hg with hg; omega)
                have hk7 : Blk w7 b6 38 (chV x).toArray := hk7
                have H7 := H.ext he57
                refine L.nil ?_
                refine J.cut (X := Nat × Option Addr × Nat × Option Addr × Nat × List Ce) [0, 10, 50, 51, 52, 53, 54, 55, 56, 57, 58, 59, 60, 61, 62, 63, 64, 65, 66, 67, 68, 69] (fun (p, Aa, ca, oA, od, out) => [(0, .slice Aa (la.length - p) ca), (10, .slice oA out.length od)]) (fun (p, Aa, ca, oA, od, out) w' => PatI N w la lb l i p Aa ca oA od out w' ∧ (p < la.length → x.1 ≤ (la.getD p ce0).key) ∧ Blk w' b6 38 (chV x).toArray) ?_ ?_
                · refine J.block ?_
                  refine J.loop (X := Nat × Option Addr × Nat × Option Addr × Nat × List Ce) [0, 10, 50, 51, 52, 53, 54, 55, 56, 57, 58, 59, 60, 61, 62, 63, 64, 65, 66, 67, 68, 69] (fun (p, Aa, ca, oA, od, out) => [(0, .slice Aa (la.length - p) ca), (10, .slice oA out.length od)]) (fun (p, Aa, ca, oA, od, out) w' => PatI N w la lb l i p Aa ca oA od out w' ∧ Blk w' b6 38 (chV x).toArray) (fun (p, _) => la.length - p) ((p, Aa, ca, oA, od, out)) (At2 (by first | rfl | exact at_int rfl (by omega) | exact at_slice rfl (by omega) | exact at_int rfl (by simp)) (by first | rfl | exact at_int rfl (by omega) | exact at_slice rfl (by omega) | exact at_int rfl (by simp))) ?_ ?_
                  · exact ⟨H7, hk7⟩
                  · rintro ⟨p, Aa, ca, oA, od, out⟩ g w8 ⟨H8, hk8⟩
                    have hp8 := H8.hp
                    have hc8 := H8.hc
                    have z8 := H8.he.le
                    have hl8 := H8.len
                    rcases Nat.lt_or_ge p la.length with hp | hp
                    · have hA8 := H8.ra.some_ (by omega)
                      obtain ⟨y, hy⟩ : ∃ y, y = la.getD p ce0 := ⟨_, rfl⟩
                      have ed := drop_one hp
                      have hra8 := H8.ra
                      rw [ed, ← hy] at hra8
                      have ky : y.key = (y.k : Int) := rfl
                      refine J.seq ?_
                      refine J.seq ?_
                      refine J.draw (ℓ := 1000000) (S := Ext w8) mixed (fun w9 hS hS_h => ?_)
                      refine D.va 0 rfl (by kernel_rfl) (fun _ _ _ h => h) rfl (fun w' hw => X.move (by conv => lhs; whnf)) hS ?_
                      refine D.va 1 rfl (by kernel_rfl) (fun _ _ _ h => h) rfl (fun w' hw => X.len rfl Try.underlying22) hS ?_
                      refine D.va 2 rfl (by kernel_rfl) (fun _ _ _ h => h) rfl (fun w' hw => X.gtr rfl rfl) hS ?_
                      refine D.va 3 rfl (by kernel_rfl) (fun _ _ _ h => h) rfl (fun w' hw => X.move (by conv => lhs; whnf)) hS ?_
                      refine D.caseDecT (k := 53) rfl (by omega) ?_
                      refine D.va 4 rfl (by kernel_rfl) (fun _ _ _ h => h) rfl (fun w' hw => X.move (by conv => lhs; whnf)) hS ?_
                      refine D.va 5 rfl (by kernel_rfl) (fun _ _ _ h => h) rfl (fun w' hw => X.indexAddrn (j := 0) rfl rfl Try.underlying22 sz_61 (by first | exact Option.some_ne_none _ | exact hA8) (by omega)) hS ?_
                      refine D.va 6 rfl (by kernel_rfl) (fun _ _ _ h => h) rfl (fun w' hw => X.fieldP rfl Try.underlying61 rfl sz_36 (by decide) (by first | exact Option.some_ne_none _ | exact hA8)) hS ?_
                      refine D.va 7 rfl (by kernel_rfl) (fun _ _ _ h => h) rfl (fun w' hw => X.load rfl sc_36 (by first | exact Ld.blk (hk8.ext hw) rfl | exact hA8 | exact Ld.flat2 ce_len (hra8.ext hw) (i := 0) (x := y) rfl (r := 0) rfl)) hS ?_
                      refine D.va 8 rfl (by kernel_rfl) (fun _ _ _ h => h) rfl (fun w' hw => X.fieldAddr rfl Try.underlying38 rfl sz_36 (by decide)) hS ?_
                      refine D.va 9 rfl (by kernel_rfl) (fun _ _ _ h => h) rfl (fun w' hw => X.load rfl sc_36 (by first | exact Ld.blk (hk8.ext hw) rfl | exact hA8 | exact Ld.flat2 ce_len (hra8.ext hw) (i := 0) (x := y) rfl (r := 0) rfl)) hS ?_
                      refine D.va 10 rfl (by kernel_rfl) (fun _ _ _ h => h) rfl (fun w' hw => X.lss rfl rfl) hS ?_
                      refine D.va 11 rfl (by kernel_rfl) (fun _ _ _ h => h) rfl (fun w' hw => X.pickT rfl (by conv => lhs; whnf)) hS ?_
                      refine D.done (by kernel_rfl) ?_
                      replace hk8 := hk8.ext hS
                      refine J.dec rfl (fun hk => ?_) (fun hk => ?_)
                      · have H9 := H8.ext hS
                        have hk9 := hk8
                        have hr9 := hra8.ext hS
                        refine J.skip ?_
                        refine J.block ?_
                        refine J.seq ?_
                        refine J.region ?_
                        refine L.va rfl (X.move (by conv => lhs; whnf)) ?_
                        refine L.va rfl (X.move (by conv => lhs; whnf)) ?_
                        refine L.va rfl (X.indexAddrn (j := 0) rfl rfl Try.underlying22 sz_61 (by first | exact Option.some_ne_none _ | exact hA8) (by omega)) ?_
                        refine L.va rfl (X.loadRow (cs := y.vs) rfl hr9 (fun r u hu => flat_row ce_len (i := 0) (x := y) rfl r u hu) (Nat.zero_lt_succ _) Try.underlying61 rfl (by kernel_rfl)) ?_
                        refine L.bslice1 (l := [_, _, _, _]) rfl rfl rfl Try.underlying22 sz_61 zr_61 rfl ?_
                        intro b10 w10 hb10 hs10 hk10 he10
                        have H10 := H9.ext he10
                        have z10 := H10.he.le
                        have ho10 := H10.ho
                        refine L.appendV (q := out.length + 1) (ys := ((out ++ [y]).flatMap Ce.vs)) rfl rfl rfl Try.underlying22 el_61 (ho10) ((blk_readsN (sz := 4) (q := 1) (l := y.vs) hk10 hk10.lt rfl)) (by first | rfl | exact strs_ones _ | assumption) (by omega) (by simp) (by unfold maxLen; omega) (by omega) ?_
                        intro o11 d11 w11 ho11 hg11 hb11 hor11
                        have hk11 := (hk9.ext he10).grown hg11 (fun e => own_blk_ne ho10 (hk9.ext he10) (by decide) e.symm)
                        have he11 := H10.he.grw hg11 (fun g hg => (ho10.lt g hg).1)
                        have hra11 := cutC (H10.ra.low (Below.mono hb11 hN) (Nat.le_refl _)) hp hc8
                        have eo : (out ++ [y]).length = out.length + 1 := by rw [List.length_append]; rfl
                        refine L.va rfl (X.assign (by conv => lhs; whnf)) ?_
                        refine L.nil ?_
                        refine J.region ?_
                        refine L.va rfl (X.move (by conv => lhs; whnf)) ?_
                        refine L.va rfl ((by first | exact X.sliceFromn (i := 1) rfl rfl Try.underlying22 sz_61 (by omega) | exact X.sliceFrom rfl rfl Try.underlying22 sz_61 (by omega))) ?_
                        refine L.va rfl (X.assign (by conv => lhs; whnf)) ?_
                        refine L.nil ?_
                        refine ⟨(p + 1, (if ca = 1 then Aa else Aa.map (·.add (1 * 4))), ca - 1, o11, d11, out ++ [y]), At2 (at_slice rfl (by omega)) (at_slice rfl eo.symm), (by (iterate 23 refine Agr.lk rfl ?_); exact Agr.lk rfl (Agr.hav rfl Agr.rfl')), ?_⟩
                        refine ⟨⟨⟨by omega, hra11, by omega, by rw [eo]; exact ho11, ?_, by rw [eo]; omega, he11⟩, hk11⟩, by show la.length - (p + 1) < la.length - p; omega⟩
                        rw [hy]
                        refine H8.ps.pass Ra Rl hin hp ?_
                        rw [← hy, ← hx]
                        omega
                      · refine J.exit ?_
                        refine ⟨(p, Aa, ca, oA, od, out), At2 (by first | rfl | exact at_int rfl (by omega) | exact at_slice rfl (by omega) | exact at_int rfl (by simp)) (by first | rfl | exact at_int rfl (by omega) | exact at_slice rfl (by omega) | exact at_int rfl (by simp)), (by (iterate 13 refine Agr.lk rfl ?_); refine Agr.lk rfl ?_; refine Agr.hav rfl ?_; exact Agr.rfl'), ?_⟩
                        refine ⟨H8.ext hS, fun h => ?_, hk8⟩
                        rw [← hy]
                        omega
                    · refine J.seq ?_
                      refine J.seq ?_
                      refine J.draw (ℓ := 1000000) (S := Ext w8) mixed (fun w9 hS hS_h => ?_)
                      refine D.va 0 rfl (by kernel_rfl) (fun _ _ _ h => h) rfl (fun w' hw => X.move (by conv => lhs; whnf)) hS ?_
                      refine D.va 1 rfl (by kernel_rfl) (fun _ _ _ h => h) rfl (fun w' hw => X.len rfl Try.underlying22) hS ?_
                      refine D.va 2 rfl (by kernel_rfl) (fun _ _ _ h => h) rfl (fun w' hw => X.gtr rfl rfl) hS ?_
                      refine D.va 3 rfl (by kernel_rfl) (fun _ _ _ h => h) rfl (fun w' hw => X.move (by conv => lhs; whnf)) hS ?_
                      refine D.caseDecF (k := 53) rfl (by omega) ?_
                      refine D.no 4 rfl (by kernel_rfl) (fun _ _ _ h => h) rfl hS ?_
                      refine D.no 5 rfl (by kernel_rfl) (fun _ _ _ h => h) rfl hS ?_
                      refine D.no 6 rfl (by kernel_rfl) (fun _ _ _ h => h) rfl hS ?_
                      refine D.no 7 rfl (by kernel_rfl) (fun _ _ _ h => h) rfl hS ?_
                      refine D.no 8 rfl (by kernel_rfl) (fun _ _ _ h => h) rfl hS ?_
                      refine D.no 9 rfl (by kernel_rfl) (fun _ _ _ h => h) rfl hS ?_
                      refine D.no 10 rfl (by kernel_rfl) (fun _ _ _ h => h) rfl hS ?_
                      refine D.va 11 rfl (by kernel_rfl) (fun _ _ _ h => h) rfl (fun w' hw => X.pickF rfl (by conv => lhs; whnf)) hS ?_
                      refine D.done (by kernel_rfl) ?_
                      replace hk8 := hk8.ext hS
                      refine J.iteF rfl ?_
                      refine J.exit ?_
                      refine ⟨(p, Aa, ca, oA, od, out), At2 (by first | rfl | exact at_int rfl (by omega) | exact at_slice rfl (by omega) | exact at_int rfl (by simp)) (by first | rfl | exact at_int rfl (by omega) | exact at_slice rfl (by omega) | exact at_int rfl (by simp)), (by (iterate 13 refine Agr.lk rfl ?_); refine Agr.lk rfl ?_; refine Agr.hav rfl ?_; exact Agr.rfl'), ?_⟩
                      exact ⟨H8.ext hS, fun h => absurd h (by omega), hk8⟩
                · rintro ⟨p, Aa, ca, oA, od, out⟩ g w8 ⟨H8, hge, hk8⟩
                  have hp8 := H8.hp
                  have hc8 := H8.hc
                  have z8 := H8.he.le
                  have hl8 := H8.len
                  have hH := H8.ps.here Ra hin (by rw [← hx]; exact hge)
                  rw [← hx] at hH
                  refine J.cut (X := Bool) [13, 70, 71, 72, 73, 74, 75, 76, 77, 78, 79, 80, 81] (fun z => [(13, .bool z)]) (fun z w' => z = hasK la x.1 ∧ Ext w8 w') ?_ ?_
                  · skip
                    rcases Nat.lt_or_ge p la.length with hp | hp
                    · have hA8 := H8.ra.some_ (by omega)
                      obtain ⟨y, hy⟩ : ∃ y, y = la.getD p ce0 := ⟨_, rfl⟩
                      have ed := drop_one hp
                      have hra8 := H8.ra
                      rw [ed, ← hy] at hra8
                      have ky : y.key = (y.k : Int) := rfl
                      refine J.draw (ℓ := 1000000) (S := Ext w8) mixed (fun w9 hS hS_h => ?_)
                      refine D.va 0 rfl (by kernel_rfl) (fun _ _ _ h => h) rfl (fun w' hw => X.move (by conv => lhs; whnf)) hS ?_
                      refine D.va 1 rfl (by kernel_rfl) (fun _ _ _ h => h) rfl (fun w' hw => X.len rfl Try.underlying22) hS ?_
                      refine D.va 2 rfl (by kernel_rfl) (fun _ _ _ h => h) rfl (fun w' hw => X.gtr rfl rfl) hS ?_
                      refine D.va 3 rfl (by kernel_rfl) (fun _ _ _ h => h) rfl (fun w' hw => X.move (by conv => lhs; whnf)) hS ?_
                      refine D.caseDecT (k := 73) rfl (by omega) ?_
                      refine D.va 4 rfl (by kernel_rfl) (fun _ _ _ h => h) rfl (fun w' hw => X.move (by conv => lhs; whnf)) hS ?_
                      refine D.va 5 rfl (by kernel_rfl) (fun _ _ _ h => h) rfl (fun w' hw => X.indexAddrn (j := 0) rfl rfl Try.underlying22 sz_61 (by first | exact Option.some_ne_none _ | exact hA8) (by omega)) hS ?_
                      refine D.va 6 rfl (by kernel_rfl) (fun _ _ _ h => h) rfl (fun w' hw => X.fieldP rfl Try.underlying61 rfl sz_36 (by decide) (by first | exact Option.some_ne_none _ | exact hA8)) hS ?_
                      refine D.va 7 rfl (by kernel_rfl) (fun _ _ _ h => h) rfl (fun w' hw => X.load rfl sc_36 (by first | exact Ld.blk (hk8.ext hw) rfl | exact hA8 | exact Ld.flat2 ce_len (hra8.ext hw) (i := 0) (x := y) rfl (r := 0) rfl)) hS ?_
                      refine D.va 8 rfl (by kernel_rfl) (fun _ _ _ h => h) rfl (fun w' hw => X.fieldAddr rfl Try.underlying38 rfl sz_36 (by decide)) hS ?_
                      refine D.va 9 rfl (by kernel_rfl) (fun _ _ _ h => h) rfl (fun w' hw => X.load rfl sc_36 (by first | exact Ld.blk (hk8.ext hw) rfl | exact hA8 | exact Ld.flat2 ce_len (hra8.ext hw) (i := 0) (x := y) rfl (r := 0) rfl)) hS ?_
                      refine D.va 10 rfl (by kernel_rfl) (fun _ _ _ h => h) rfl (fun w' hw => X.eql rfl rfl) hS ?_
                      refine D.va 11 rfl (by kernel_rfl) (fun _ _ _ h => h) rfl (fun w' hw => X.pickT rfl (by conv => lhs; whnf)) hS ?_
                      refine D.va 12 rfl (by kernel_rfl) (fun _ _ _ h => h) rfl (fun w' hw => X.assign (by conv => lhs; whnf)) hS ?_
                      refine D.done (by kernel_rfl) ?_
                      replace hk8 := hk8.ext hS
                      refine ⟨decide ((y.k : Int) = x.1), At1 (by first | rfl | exact at_int rfl (by omega) | exact at_slice rfl (by omega) | exact at_int rfl (by simp)), (by (iterate 14 refine Agr.lk rfl ?_); exact Agr.rfl'), ?_⟩
                      refine ⟨?_, hS⟩
                      cases hh : hasK la x.1
                      · refine decide_eq_false fun e => ?_
                        have := hH.2 ⟨hp, by rw [← hy]; exact e⟩
                        rw [← hasK_t, hh] at this
                        cases this
                      · refine decide_eq_true ?_
                        have := (hH.1 (hasK_t.1 hh)).2
                        rw [← hy] at this
                        exact this
                    ·
                      refine J.draw (ℓ := 1000000) (S := Ext w8) mixed (fun w9 hS hS_h => ?_)
                      refine D.va 0 rfl (by kernel_rfl) (fun _ _ _ h => h) rfl (fun w' hw => X.move (by conv => lhs; whnf)) hS ?_
                      refine D.va 1 rfl (by kernel_rfl) (fun _ _ _ h => h) rfl (fun w' hw => X.len rfl Try.underlying22) hS ?_
                      refine D.va 2 rfl (by kernel_rfl) (fun _ _ _ h => h) rfl (fun w' hw => X.gtr rfl rfl) hS ?_
                      refine D.va 3 rfl (by kernel_rfl) (fun _ _ _ h => h) rfl (fun w' hw => X.move (by conv => lhs; whnf)) hS ?_
                      refine D.caseDecF (k := 73) rfl (by omega) ?_
                      refine D.no 4 rfl (by kernel_rfl) (fun _ _ _ h => h) rfl hS ?_
                      refine D.no 5 rfl (by kernel_rfl) (fun _ _ _ h => h) rfl hS ?_
                      refine D.no 6 rfl (by kernel_rfl) (fun _ _ _ h => h) rfl hS ?_
                      refine D.no 7 rfl (by kernel_rfl) (fun _ _ _ h => h) rfl hS ?_
                      refine D.no 8 rfl (by kernel_rfl) (fun _ _ _ h => h) rfl hS ?_
                      refine D.no 9 rfl (by kernel_rfl) (fun _ _ _ h => h) rfl hS ?_
                      refine D.no 10 rfl (by kernel_rfl) (fun _ _ _ h => h) rfl hS ?_
                      refine D.va 11 rfl (by kernel_rfl) (fun _ _ _ h => h) rfl (fun w' hw => X.pickF rfl (by conv => lhs; whnf)) hS ?_
                      refine D.va 12 rfl (by kernel_rfl) (fun _ _ _ h => h) rfl (fun w' hw => X.assign (by conv => lhs; whnf)) hS ?_
                      refine D.done (by kernel_rfl) ?_
                      replace hk8 := hk8.ext hS
                      refine ⟨false, At1 (by first | rfl | exact at_int rfl (by omega) | exact at_slice rfl (by omega) | exact at_int rfl (by simp)), (by (iterate 14 refine Agr.lk rfl ?_); exact Agr.rfl'), ?_⟩
                      refine ⟨?_, hS⟩
                      cases hh : hasK la x.1
                      · rfl
                      · have := (hH.1 (hasK_t.1 hh)).1
                        omega
                  · rintro z g w9 ⟨rfl, he89⟩
                    have H9 := H8.ext he89
                    have hk9 := hk8.ext he89
                    have c4 := cfind (w := w9) B d lb x.1 (hrb.low (Below.mono H9.he hN) (Nat.le_refl _)) (by have := H9.he.le; omega) (by omega) Rb
                    refine J.seq ?_
                    refine J.region ?_
                    refine L.va rfl (X.move (by conv => lhs; whnf)) ?_
                    refine L.va rfl (X.fieldAddr rfl Try.underlying38 rfl sz_36 (by decide)) ?_
                    refine L.va rfl (X.load rfl sc_36 (by first | exact Ld.blk hk9 rfl)) ?_
                    refine L.call rfl en_29 rfl (c4) ?_
                    rintro e w10 ⟨he10, k, z, rfl, hkl, hzt, hzf⟩
                    refine ⟨_, rfl, ?_⟩
                    have he10 : Ext w9 w10 := he10
                    have H10 := H9.ext he10
                    have hk9 := hk9.ext he10
                    have hz : z = hasK lb x.1 := by
                      cases z
                      · exact (hasK_f.2 (hzf rfl)).symm
                      · exact (hasK_t.2 ⟨_, memD (hzt rfl).1, (hzt rfl).2⟩).symm
                    refine L.va rfl (X.move (by conv => lhs; whnf)) ?_
                    refine L.va rfl (X.extract rfl rfl) ?_
                    refine L.va rfl (X.extract rfl rfl) ?_
                    refine L.va rfl (X.assign (by conv => lhs; whnf)) ?_
                    refine L.va rfl (X.assign (by conv => lhs; whnf)) ?_
                    refine L.nil ?_
                    refine J.cut (X := Unit) [6, 7, 89, 90, 91, 92, 93, 94, 95, 96, 97, 98, 99, 100, 101, 102, 103, 104, 105, 106, 107, 108, 109, 110] (fun _ => []) (fun _ w' => fault la lb x = 0 ∧ w10 = w') ?_ ?_
                    · skip
                      by_cases k2 : x.2 = 2
                      · refine J.block ?_
                        refine J.seq ?_
                        refine J.seq ?_
                        refine J.region ?_
                        refine L.va rfl (X.fieldAddr rfl Try.underlying38 rfl sz_3 (by decide)) ?_
                        refine L.va rfl (X.load rfl sc_3 (by first | exact Ld.blk hk9 rfl)) ?_
                        refine L.va rfl (X.neq rfl rfl) ?_
                        refine L.va rfl (X.move (by conv => lhs; whnf)) ?_
                        refine L.caseNdecF (k := 93) rfl (by exact k2) ?_
                        refine L.no rfl ?_
                        refine L.no rfl ?_
                        refine L.va rfl (X.pickF rfl (by conv => lhs; whnf)) ?_
                        refine L.va rfl (X.assign (by conv => lhs; whnf)) ?_
                        refine L.nil ?_
                        refine J.iteF rfl ?_
                        refine J.region ?_
                        refine L.va rfl (X.fieldAddr rfl Try.underlying38 rfl sz_3 (by decide)) ?_
                        refine L.va rfl (X.load rfl sc_3 (by first | exact Ld.blk hk9 rfl)) ?_
                        refine L.va rfl (X.neq rfl rfl) ?_
                        refine L.va rfl (X.move (by conv => lhs; whnf)) ?_
                        refine L.caseNdecT (k := 100) rfl (by omega) ?_
                        refine L.va rfl (X.move (by conv => lhs; whnf)) ?_
                        refine L.va rfl (X.not rfl) ?_
                        refine L.va rfl (X.pickT rfl (by conv => lhs; whnf)) ?_
                        refine L.va rfl (X.assign (by conv => lhs; whnf)) ?_
                        refine L.nil ?_
                        refine J.ite rfl (fun hz1 => ?_) (fun hz1 => ?_)
                        · have hz2 : hasK lb x.1 = false := by rw [← hz]; simpa using hz1
                          refine J.seq ?_
                          refine J.region ?_
                          refine L.va rfl (X.assign (by conv => lhs; whnf)) ?_
                          refine L.va rfl (X.assign (by conv => lhs; whnf)) ?_
                          refine L.nil ?_
                          refine J.ret ?_
                          refine inB_ret <|  thn_ret <|  inB_ret <|  thn_ret <|  thn_ret <|  inB_ret <|  thn_ret <| ?_
                          refine fin2 ?_
                          have ef : fault la lb x = 11 := if_pos (.inr ⟨by omega, hz2⟩)
                          rw [hx] at ef
                          exact PatR.none_ ((patE_f hrs hK hin hF (by rw [ef]; decide)).trans ef) (by decide) rfl H10.he
                        · have hz2 : hasK lb x.1 = true := by rw [← hz]; simpa using hz1
                          refine J.seq ?_
                          refine J.region ?_
                          refine L.va rfl (X.fieldAddr rfl Try.underlying38 rfl sz_3 (by decide)) ?_
                          refine L.va rfl (X.load rfl sc_3 (by first | exact Ld.blk hk9 rfl)) ?_
                          refine L.va rfl (X.eql rfl rfl) ?_
                          refine L.va rfl (X.move (by conv => lhs; whnf)) ?_
                          refine L.caseDecT (k := 108) rfl (by exact k2) ?_
                          refine L.va rfl (X.move (by conv => lhs; whnf)) ?_
                          refine L.va rfl (X.pickT rfl (by conv => lhs; whnf)) ?_
                          refine L.va rfl (X.assign (by conv => lhs; whnf)) ?_
                          refine L.nil ?_
                          refine J.ite rfl (fun hh => ?_) (fun hh => ?_)
                          · refine J.seq ?_
                            refine J.region ?_
                            refine L.va rfl (X.assign (by conv => lhs; whnf)) ?_
                            refine L.va rfl (X.assign (by conv => lhs; whnf)) ?_
                            refine L.nil ?_
                            refine J.ret ?_
                            refine inB_ret <|  thn_ret <|  inB_ret <|  thn_ret <|  thn_ret <|  inB_ret <|  thn_ret <| ?_
                            refine fin2 ?_
                            have ef : fault la lb x = 9 := by
                              unfold fault
                              rw [if_neg, if_pos ⟨k2, hh⟩]
                              rintro (⟨h, _⟩ | ⟨_, h⟩)
                              · exact h k2
                              · rw [hz2] at h; cases h
                            rw [hx] at ef
                            exact PatR.none_ ((patE_f hrs hK hin hF (by rw [ef]; decide)).trans ef) (by decide) rfl H10.he
                          · refine J.skip ?_
                            refine ⟨(), At0 , (by (iterate 26 refine Agr.lk rfl ?_); exact Agr.rfl'), ?_⟩
                            refine ⟨?_, rfl⟩
                            unfold fault
                            rw [if_neg, if_neg]
                            · rintro ⟨_, h⟩
                              rw [hh] at h; cases h
                            · rintro (⟨h, _⟩ | ⟨_, h⟩)
                              · exact h k2
                              · rw [hz2] at h; cases h
                      · refine J.block ?_
                        refine J.seq ?_
                        refine J.seq ?_
                        refine J.region ?_
                        refine L.va rfl (X.fieldAddr rfl Try.underlying38 rfl sz_3 (by decide)) ?_
                        refine L.va rfl (X.load rfl sc_3 (by first | exact Ld.blk hk9 rfl)) ?_
                        refine L.va rfl (X.neq rfl rfl) ?_
                        refine L.va rfl (X.move (by conv => lhs; whnf)) ?_
                        refine L.caseNdecT (k := 93) rfl (by exact k2) ?_
                        refine L.va rfl (X.move (by conv => lhs; whnf)) ?_
                        refine L.va rfl (X.not rfl) ?_
                        refine L.va rfl (X.pickT rfl (by conv => lhs; whnf)) ?_
                        refine L.va rfl (X.assign (by conv => lhs; whnf)) ?_
                        refine L.nil ?_
                        refine J.ite rfl (fun hh => ?_) (fun hh => ?_)
                        · have hh2 : hasK la x.1 = false := by simpa using hh
                          refine J.skip ?_
                          refine J.ite rfl (fun hT => ?_) (fun hT => ?_)
                          · refine J.seq ?_
                            refine J.region ?_
                            refine L.va rfl (X.assign (by conv => lhs; whnf)) ?_
                            refine L.va rfl (X.assign (by conv => lhs; whnf)) ?_
                            refine L.nil ?_
                            refine J.ret ?_
                            refine inB_ret <|  thn_ret <|  inB_ret <|  thn_ret <|  thn_ret <|  inB_ret <|  thn_ret <| ?_
                            refine fin2 ?_
                            have ef : fault la lb x = 11 := if_pos (.inl ⟨k2, hh2⟩)
                            rw [hx] at ef
                            exact PatR.none_ ((patE_f hrs hK hin hF (by rw [ef]; decide)).trans ef) (by decide) rfl H10.he
                          · rw [hh] at hT
                            cases hT
                        · have hh2 : hasK la x.1 = true := by simpa using hh
                          refine J.region ?_
                          refine L.va rfl (X.fieldAddr rfl Try.underlying38 rfl sz_3 (by decide)) ?_
                          refine L.va rfl (X.load rfl sc_3 (by first | exact Ld.blk hk9 rfl)) ?_
                          refine L.va rfl (X.neq rfl rfl) ?_
                          refine L.va rfl (X.move (by conv => lhs; whnf)) ?_
                          refine L.caseNdec (k := 100) rfl (fun k1 => ?_) (fun k1 => ?_)
                          · refine L.va rfl (X.move (by conv => lhs; whnf)) ?_
                            refine L.va rfl (X.not rfl) ?_
                            refine L.va rfl (X.pickT rfl (by conv => lhs; whnf)) ?_
                            refine L.va rfl (X.assign (by conv => lhs; whnf)) ?_
                            refine L.nil ?_
                            refine J.ite rfl (fun hz1 => ?_) (fun hz1 => ?_)
                            · have hz2 : hasK lb x.1 = false := by rw [← hz]; simpa using hz1
                              refine J.seq ?_
                              refine J.region ?_
                              refine L.va rfl (X.assign (by conv => lhs; whnf)) ?_
                              refine L.va rfl (X.assign (by conv => lhs; whnf)) ?_
                              refine L.nil ?_
                              refine J.ret ?_
                              refine inB_ret <|  thn_ret <|  inB_ret <|  thn_ret <|  thn_ret <|  inB_ret <|  thn_ret <| ?_
                              refine fin2 ?_
                              have ef : fault la lb x = 11 := if_pos (.inr ⟨k1, hz2⟩)
                              rw [hx] at ef
                              exact PatR.none_ ((patE_f hrs hK hin hF (by rw [ef]; decide)).trans ef) (by decide) rfl H10.he
                            · have hz2 : hasK lb x.1 = true := by rw [← hz]; simpa using hz1
                              refine J.seq ?_
                              refine J.region ?_
                              refine L.va rfl (X.fieldAddr rfl Try.underlying38 rfl sz_3 (by decide)) ?_
                              refine L.va rfl (X.load rfl sc_3 (by first | exact Ld.blk hk9 rfl)) ?_
                              refine L.va rfl (X.eql rfl rfl) ?_
                              refine L.va rfl (X.move (by conv => lhs; whnf)) ?_
                              refine L.caseDecF (k := 108) rfl (by exact k2) ?_
                              refine L.no rfl ?_
                              refine L.va rfl (X.pickF rfl (by conv => lhs; whnf)) ?_
                              refine L.va rfl (X.assign (by conv => lhs; whnf)) ?_
                              refine L.nil ?_
                              refine J.iteF rfl ?_
                              refine J.skip ?_
                              refine ⟨(), At0 , (by (iterate 26 refine Agr.lk rfl ?_); exact Agr.rfl'), ?_⟩
                              refine ⟨?_, rfl⟩
                              unfold fault
                              rw [if_neg, if_neg]
                              · rintro ⟨h, _⟩
                                exact k2 h
                              · rintro (⟨_, h⟩ | ⟨_, h⟩)
                                · rw [hh2] at h; cases h
                                · rw [hz2] at h; cases h
                          · refine L.no rfl ?_
                            refine L.no rfl ?_
                            refine L.va rfl (X.pickF rfl (by conv => lhs; whnf)) ?_
                            refine L.va rfl (X.assign (by conv => lhs; whnf)) ?_
                            refine L.nil ?_
                            refine J.iteF rfl ?_
                            refine J.seq ?_
                            refine J.region ?_
                            refine L.va rfl (X.fieldAddr rfl Try.underlying38 rfl sz_3 (by decide)) ?_
                            refine L.va rfl (X.load rfl sc_3 (by first | exact Ld.blk hk9 rfl)) ?_
                            refine L.va rfl (X.eql rfl rfl) ?_
                            refine L.va rfl (X.move (by conv => lhs; whnf)) ?_
                            refine L.caseDecF (k := 108) rfl (by exact k2) ?_
                            refine L.no rfl ?_
                            refine L.va rfl (X.pickF rfl (by conv => lhs; whnf)) ?_
                            refine L.va rfl (X.assign (by conv => lhs; whnf)) ?_
                            refine L.nil ?_
                            refine J.iteF rfl ?_
                            refine J.skip ?_
                            refine ⟨(), At0 , (by (iterate 26 refine Agr.lk rfl ?_); exact Agr.rfl'), ?_⟩
                            refine ⟨?_, rfl⟩
                            unfold fault
                            rw [if_neg, if_neg]
                            · rintro ⟨h, _⟩
                              exact k2 h
                            · rintro (⟨_, h⟩ | ⟨h, _⟩)
                              · rw [hh2] at h; cases h
                              · exact h k1
                    · rintro ⟨⟩ g w11 ⟨hf0, rfl⟩
                      have hra10 := H10.ra
                      have z10 := H10.he.le
                      refine J.cut (X := Nat × Option Addr × Nat) [0, 111, 112, 113] (fun (p', Aa', ca') => [(0, .slice Aa' (la.length - p') ca')]) (fun (p', Aa', ca') w' => ((p' = p + 1 ∧ p < la.length ∧ (la.getD p ce0).key = x.1) ∨ (p' = p ∧ ¬ (p < la.length ∧ (la.getD p ce0).key = x.1))) ∧ Reads w' N 4 Aa' (la.length - p') ((la.drop p').flatMap Ce.vs) ∧ la.length - p' ≤ ca' ∧ w10 = w') ?_ ?_
                      · refine J.seq ?_
                        refine J.region ?_
                        refine L.va rfl (X.move (by conv => lhs; whnf)) ?_
                        refine L.nil ?_
                        refine J.ite rfl (fun hh => ?_) (fun hh => ?_)
                        · obtain ⟨q1, q2⟩ := hH.1 (hasK_t.1 hh)
                          refine J.region ?_
                          refine L.va rfl (X.move (by conv => lhs; whnf)) ?_
                          refine L.va rfl ((by first | exact X.sliceFromn (i := 1) rfl rfl Try.underlying22 sz_61 (by omega) | exact X.sliceFrom rfl rfl Try.underlying22 sz_61 (by omega))) ?_
                          refine L.va rfl (X.assign (by conv => lhs; whnf)) ?_
                          refine L.nil ?_
                          refine ⟨(p + 1, (if ca = 1 then Aa else Aa.map (·.add (1 * 4))), ca - 1), At1 (by first | rfl | exact at_int rfl (by omega) | exact at_slice rfl (by omega) | exact at_int rfl (by simp)), (by (iterate 4 refine Agr.lk rfl ?_); exact Agr.rfl'), ?_⟩
                          exact ⟨.inl ⟨rfl, q1, q2⟩, cutC hra10 q1 hc8, Nat.sub_le_sub_right hc8 1, rfl⟩
                        · refine J.skip ?_
                          refine ⟨(p, Aa, ca), At1 (by first | rfl | exact at_int rfl (by omega) | exact at_slice rfl (by omega) | exact at_int rfl (by simp)), (by (iterate 1 refine Agr.lk rfl ?_); exact Agr.rfl'), ?_⟩
                          refine ⟨.inr ⟨rfl, fun h => ?_⟩, hra10, hc8, rfl⟩
                          have := hasK_t.2 (hH.2 h)
                          rw [hh] at this
                          cases this
                      · rintro ⟨p', Aa', ca'⟩ g w11 ⟨hp', hra', hc', rfl⟩
                        have hp2 : p' ≤ la.length ∧ p ≤ p' := by rcases hp' with ⟨rfl, h, _⟩ | ⟨rfl, _⟩ <;> omega
                        have hge' : p < la.length → (l.getD i (0, 0)).1 ≤ (la.getD p ce0).key := by rw [← hx]; exact hge
                        refine J.seq ?_
                        refine J.region ?_
                        refine L.va rfl (X.fieldAddr rfl Try.underlying38 rfl sz_3 (by decide)) ?_
                        refine L.va rfl (X.load rfl sc_3 (by first | exact Ld.blk hk9 rfl)) ?_
                        refine L.va rfl (X.neq rfl rfl) ?_
                        refine L.nil ?_
                        refine J.ndec rfl (fun k1 => ?_) (fun k1 => ?_)
                        · have hb1 : hasK lb x.1 = true := by
                            cases hq : hasK lb x.1
                            · unfold fault at hf0
                              rw [if_pos (.inr ⟨k1, hq⟩)] at hf0
                              cases hf0
                            · rfl
                          rw [← hz] at hb1
                          obtain ⟨hk1, hk2⟩ := hzt hb1
                          obtain ⟨y, hy⟩ : ∃ y, y = lb.getD k ce0 := ⟨_, rfl⟩
                          have gy := gtX hk1
                          have my := memD (l := lb) (i := k) (d := ce0) hk1
                          rw [← hy] at gy hk2 my
                          have hrb10 := hrb.low (Below.mono H10.he hN) (Nat.le_refl _)
                          have hAb := hrb10.some_ (by omega)
                          refine J.region ?_
                          refine L.va rfl (X.move (by conv => lhs; whnf)) ?_
                          refine L.va rfl (X.move (by conv => lhs; whnf)) ?_
                          refine L.va rfl (X.move (by conv => lhs; whnf)) ?_
                          refine L.va rfl ((by first | exact X.indexAddrn rfl rfl Try.underlying22 sz_61 (by first | exact Option.some_ne_none _ | exact hAb) (by omega) | exact X.indexAddr rfl rfl Try.underlying22 sz_61 (by first | exact Option.some_ne_none _ | exact hAb) (by omega))) ?_
                          refine L.va rfl (X.loadRow (cs := y.vs) rfl hrb10 (fun r u hu => flat_row ce_len gy r u hu) (Nat.zero_lt_succ _) Try.underlying61 rfl (by kernel_rfl)) ?_
                          refine L.bslice1 (l := [_, _, _, _]) rfl rfl rfl Try.underlying22 sz_61 zr_61 rfl ?_
                          intro b12 w12 hb12 hs12 hk12 he12
                          have H12 := H10.ext he12
                          have z12 := H12.he.le
                          have ho12 := H12.ho
                          refine L.appendV (q := out.length + 1) (ys := ((out ++ [y]).flatMap Ce.vs)) rfl rfl rfl Try.underlying22 el_61 (ho12) ((blk_readsN (sz := 4) (q := 1) (l := y.vs) hk12 hk12.lt rfl)) (by first | rfl | exact strs_ones _ | assumption) (by omega) (by simp) (by unfold maxLen; omega) (by omega) ?_
                          intro o13 d13 w13 ho13 hg13 hb13 hor13
                          have he13 := H12.he.grw hg13 (fun g hg => (ho12.lt g hg).1)
                          have hra13 := (hra'.ext he12).low (Below.mono hb13 hN) (Nat.le_refl _)
                          have eo : (out ++ [y]).length = out.length + 1 := by rw [List.length_append]; rfl
                          refine L.va rfl (X.assign (by conv => lhs; whnf)) ?_
                          refine L.nil ?_
                          refine J.region ?_
                          refine L.va rfl (X.add rfl rfl (by omega)) ?_
                          refine L.va rfl (X.move (by conv => lhs; whnf)) ?_
                          refine L.nil ?_
                          refine ⟨(i + 1, p', Aa', ca', o13, d13, out ++ [y]), At3 (rfl) (rfl) (at_slice rfl eo.symm), (by (iterate 13 refine Agr.lk rfl ?_); refine Agr.lk rfl ?_; refine Agr.hav rfl ?_; refine Agr.lk rfl ?_; refine Agr.hav rfl ?_; (iterate 9 refine Agr.lk rfl ?_); refine Agr.lk rfl ?_; refine Agr.hav rfl ?_; refine Agr.lk rfl ?_; refine Agr.hav rfl ?_; (iterate 4 refine Agr.lk rfl ?_); exact Agr.lk rfl (Agr.hav rfl Agr.rfl')), ?_⟩
                          refine ⟨⟨by omega, fun j hj => ?_, ⟨hp2.1, hra13, hc', by rw [eo]; exact ho13, ?_, by rw [eo]; omega, he13⟩⟩, by show l.length - (i + 1) < l.length - i; omega⟩
                          · rcases Nat.lt_or_ge j i with h | h
                            · exact hF j h
                            · obtain rfl : j = i := by omega
                              rw [← hx]
                              exact hf0
                          · exact H8.ps.put Ra Rb Rl hin hge' (by rw [← hx]; exact hp') my (by rw [← hx]; exact hk2) (by rw [← hx]; exact k1)
                        · have ha1 : hasK la x.1 = true := by
                            cases hq : hasK la x.1
                            · unfold fault at hf0
                              rw [if_pos (.inl ⟨by omega, hq⟩)] at hf0
                              cases hf0
                            · rfl
                          obtain ⟨q1, q2⟩ := hH.1 (hasK_t.1 ha1)
                          have ep : p' = p + 1 := by
                            rcases hp' with ⟨h, _⟩ | ⟨_, h⟩
                            · exact h
                            · exact absurd ⟨q1, q2⟩ h
                          refine J.skip ?_
                          refine J.region ?_
                          refine L.va rfl (X.add rfl rfl (by omega)) ?_
                          refine L.va rfl (X.move (by conv => lhs; whnf)) ?_
                          refine L.nil ?_
                          refine ⟨(i + 1, p', Aa', ca', oA, od, out), At3 (by first | rfl | exact at_int rfl (by omega) | exact at_slice rfl (by omega) | exact at_int rfl (by simp)) (by first | rfl | exact at_int rfl (by omega) | exact at_slice rfl (by omega) | exact at_int rfl (by simp)) (by first | rfl | exact at_int rfl (by omega) | exact at_slice rfl (by omega) | exact at_int rfl (by simp)), (by (iterate 5 refine Agr.lk rfl ?_); refine Agr.lk rfl ?_; refine Agr.hav rfl ?_; refine Agr.lk rfl ?_; refine Agr.hav rfl ?_; (iterate 9 refine Agr.lk rfl ?_); refine Agr.lk rfl ?_; refine Agr.hav rfl ?_; refine Agr.lk rfl ?_; refine Agr.hav rfl ?_; (iterate 4 refine Agr.lk rfl ?_); exact Agr.lk rfl (Agr.hav rfl Agr.rfl')), ?_⟩
                          refine ⟨⟨by omega, fun j hj => ?_, ⟨hp2.1, hra', hc', H10.ho, ?_, by omega, H10.he⟩⟩, by show l.length - (i + 1) < l.length - i; omega⟩
                          · rcases Nat.lt_or_ge j i with h | h
                            · exact hF j h
                            · obtain rfl : j = i := by omega
                              rw [← hx]
                              exact hf0
                          · rw [ep]
                            exact H8.ps.gone Ra Rl hin q1 (by rw [← hx]; exact q2) (by rw [← hx]; exact k1)
              · obtain rfl : i = l.length := by omega
                refine J.exit ?_
                refine ⟨(p, Aa, ca, oA, od, out), At2 (by first | rfl | exact at_int rfl (by omega) | exact at_slice rfl (by omega) | exact at_int rfl (by simp)) (by first | rfl | exact at_int rfl (by omega) | exact at_slice rfl (by omega) | exact at_int rfl (by simp)), (by (iterate 1 refine Agr.lk rfl ?_); refine Agr.lk rfl ?_; refine Agr.hav rfl ?_; (iterate 3 refine Agr.lk rfl ?_); exact Agr.rfl'), ?_⟩
                exact ⟨H, patE_0 hrs hK hF⟩
          · rintro ⟨p, Aa, ca, oA, od, out⟩ g w5 ⟨H, hE⟩
            have hp := H.hp
            have hl := H.len
            have z5 := H.he.le
            have ho5 := H.ho
            have hones := ces_ones (la.drop p)
            have hPat := H.ps.all Ra
            refine J.seq ?_
            refine J.region ?_
            refine L.va rfl (X.move (by conv => lhs; whnf)) ?_
            refine L.va rfl (X.move (by conv => lhs; whnf)) ?_
            refine L.appendV (q := out.length + (la.length - p)) (ys := ((out ++ la.drop p).flatMap Ce.vs)) rfl rfl rfl Try.underlying22 el_61 (ho5) (H.ra) (by first | rfl | exact strs_ones _ | assumption) (by omega) (by simp) (by unfold maxLen; omega) (by omega) ?_
            intro A6 c6 w6 ho6 hg6 hb6 hor6
            have he6 := H.he.grw hg6 (fun g hg => (ho5.lt g hg).1)
            have z6 := he6.le
            have hall : ∀ y ∈ out ++ la.drop p, y.At N w ∧ y.Lt := fun y hy => by
              rcases (hPat.mem y).1 hy with ⟨h, _⟩ | ⟨h, _⟩
              · exact hLa y h
              · exact hLb y h
            have c7 := cmerge ⟨A6, out.length + (la.length - p), c6, out ++ la.drop p⟩ w6 ⟨Reads.of_own ho6, fun y hy => (((hall y hy).1.ext he6).more (by omega)), by rw [List.length_append, List.length_drop], by show out.length + (la.length - p) ≤ maxLen; unfold maxLen; omega⟩ (by show out.length + (la.length - p) ≤ 1000; omega) (own_le' ho6) (rise_of hPat.ris) (fun y hy => (hall y hy).2)
            refine L.call rfl en_30 rfl (c7) ?_
            rintro e w7 ⟨t, rfl, hcon, hat, htc, htL, he7⟩
            refine ⟨_, rfl, ?_⟩
            refine L.va rfl (X.extract rfl rfl) ?_
            refine L.va rfl (X.extract rfl rfl) ?_
            refine L.va rfl (X.assign (by conv => lhs; whnf)) ?_
            refine L.va rfl (X.assign (by conv => lhs; whnf)) ?_
            refine L.nil ?_
            refine J.ret ?_
            refine fin2 ?_
            refine ⟨t, ?_, hat, htc, ?_, htL, fun h => absurd hE h, fun _ => ⟨_, hPat, hcon⟩, he6.trans he7⟩
            · rw [hE]
              rfl
            have e1 := congrArg List.length hcon
            have e2 := hat.l
            have e3 : t.l.length = (out ++ la.drop p).length := by simpa [Ces.con] using e1
            rw [List.length_append, List.length_drop] at e3
            omega
end Go.Proofs.Ytpomklkfedpkfaa
namespace Go.Proofs.Ytpomklkfedpkfaa
set_option maxRecDepth 100000
open Go.RowKit H
set_option linter.unusedVariables false
theorem con_atC {l : List Ce} (i : Nat) : (l.map Ce.con).getD i con0 = (l.getD i ce0).con := by
  rw [List.getD, List.getD, List.getElem?_map]
  cases l[i]? <;> rfl
theorem rsame15 {a b : Ces} {w : World} {N : Nat} (ha : a.At N w) (hb : b.At N w) (hN : N ≤ w.heap.size) (hm : a.n ≤ 1000000) (hs : ∀ x ∈ a.l, x.ni ≤ 1000000 ∧ x.nr ≤ 1000000) : Calls Try.prog 12 #[a.val, b.val] w fun e w' => e = .returned (.bool (sameL a.con b.con)) ∧ Ext w w' := by
  have la := ha.l
  have lb := hb.l
  refine enter Try.func12 rfl (by kernel_rfl) ?_
  refine J.seq ?_
  refine J.region ?_
  refine L.va rfl (X.assign (by conv => lhs; whnf)) ?_
  refine L.nil ?_
  refine J.seq ?_
  refine J.seq ?_
  refine J.region ?_
  refine L.va rfl (X.move (by conv => lhs; whnf)) ?_
  refine L.va rfl (X.len rfl Try.underlying22) ?_
  refine L.va rfl (X.move (by conv => lhs; whnf)) ?_
  refine L.va rfl (X.len rfl Try.underlying22) ?_
  refine L.va rfl (X.neq rfl rfl) ?_
  refine L.nil ?_
  refine J.ndec rfl (fun h1 => ?_) (fun h1 => ?_)
  · have e : sameL a.con b.con = false := eqL_len (by show (a.l.map Ce.con).length ≠ (b.l.map Ce.con).length; rw [List.length_map, List.length_map]; omega)
    rw [e]
    refine J.seq ?_
    refine J.region ?_
    refine L.va rfl (X.assign (by conv => lhs; whnf)) ?_
    refine L.nil ?_
    refine J.ret ?_
    refine thn_ret <| ?_
    refine fin1 ?_
    exact ⟨rfl, Ext.refl _⟩
  · have hn : a.n = b.n := by omega
    refine J.skip ?_
    refine J.seq ?_
    refine J.seq ?_
    refine J.region ?_
    refine L.va rfl (X.assign (by conv => lhs; whnf)) ?_
    refine L.nil ?_
    refine J.block ?_
    refine J.loop (X := Nat) [4, 5, 11, 12, 13, 14, 15, 16, 17, 18, 19, 20, 21, 22, 23, 24, 25, 26] (fun i => [(5, .int .i64 (i : Int))]) (fun i w' => i ≤ a.n ∧ (∀ j, j < i → sameC (a.l.getD j ce0).con (b.l.getD j ce0).con = true) ∧ Ext w w') (fun i => a.n - i) (0) (At1 (by first | rfl | exact at_int rfl (by omega) | exact at_slice rfl (by omega) | exact at_int rfl (by simp))) ?_ ?_
    · exact ⟨Nat.zero_le _, fun j hj => absurd hj (by omega), Ext.refl _⟩
    · rintro i g w2 ⟨hi, hP, he⟩
      have z := he.le
      have hra := ha.r.ext he
      have hrb := hb.r.ext he
      refine J.seq ?_
      refine J.seq ?_
      refine J.region ?_
      refine L.va rfl (X.move (by conv => lhs; whnf)) ?_
      refine L.va rfl (X.move (by conv => lhs; whnf)) ?_
      refine L.va rfl (X.len rfl Try.underlying22) ?_
      refine L.va rfl (X.lss rfl rfl) ?_
      refine L.nil ?_
      refine J.dec rfl (fun hlt => ?_) (fun hlt => ?_)
      · have hin : i < a.n := by omega
        have hA := hra.some_ (by omega)
        have hB := hrb.some_ (by omega)
        have gx := gtX (l := a.l) (i := i) (by omega)
        have gy := gtX (l := b.l) (i := i) (by omega)
        have hX := (ha.one (i := i) hin).ext he
        have hY := (hb.one (i := i) (by omega)).ext he
        have hmx := hs _ (memD (d := ce0) (show i < a.l.length by omega))
        generalize ex : a.l.getD i ce0 = p at gx hX hmx
        generalize ey : b.l.getD i ce0 = q at gy hY
        have cS : ∀ w', Ext w2 w' → Calls Try.prog 26 #[p.val, q.val] w' fun e w'' => e = .returned (.bool (sameC p.con q.con)) ∧ Ext w' w'' := fun w' hw => rsame14 (hX.ext hw) (hY.ext hw) (by have := hw.le; omega) hmx
        refine J.skip ?_
        refine J.seq ?_
        refine J.block ?_
        refine J.seq ?_
        refine J.quiet mixed (by kernel_rfl) ?_
        refine Qt.va rfl (fun w' hw => X.move (by conv => lhs; whnf)) ?_
        refine Qt.va rfl (fun w' hw => X.move (by conv => lhs; whnf)) ?_
        refine Qt.va rfl (fun w' hw => (by first | exact X.indexAddrn rfl rfl Try.underlying22 sz_61 (by first | exact Option.some_ne_none _ | exact hA | exact hB) (by omega) | exact X.indexAddr rfl rfl Try.underlying22 sz_61 (by first | exact Option.some_ne_none _ | exact hA | exact hB) (by omega))) ?_
        refine Qt.va rfl (fun w' hw => X.loadRow (cs := p.vs) rfl (hra.ext hw) (fun r u hu => flat_row ce_len gx r u hu) (Nat.zero_lt_succ _) Try.underlying61 rfl (by kernel_rfl)) ?_
        refine Qt.va rfl (fun w' hw => X.move (by conv => lhs; whnf)) ?_
        refine Qt.va rfl (fun w' hw => X.move (by conv => lhs; whnf)) ?_
        refine Qt.va rfl (fun w' hw => (by first | exact X.indexAddrn rfl rfl Try.underlying22 sz_61 (by first | exact Option.some_ne_none _ | exact hA | exact hB) (by omega) | exact X.indexAddr rfl rfl Try.underlying22 sz_61 (by first | exact Option.some_ne_none _ | exact hA | exact hB) (by omega))) ?_
        refine Qt.va rfl (fun w' hw => X.loadRow (cs := q.vs) rfl (hrb.ext hw) (fun r u hu => flat_row ce_len gy r u hu) (Nat.zero_lt_succ _) Try.underlying61 rfl (by kernel_rfl)) ?_
        refine Qt.call rfl en_26 rfl (fun w' hw => calls_ext hw (cS w' hw)) ?_
        refine Qt.va rfl (fun w' hw => X.not rfl) ?_
        refine Qt.nil (fun w3 hq => ?_)
        have he3 := he.trans hq
        cases hk : sameC p.con q.con
        · refine J.iteT rfl ?_
          have e : sameL a.con b.con = false := eqL_no (i := i) (by show i < (a.l.map Ce.con).length; rw [List.length_map]; omega) (by
            show sameC ((a.l.map Ce.con).getD i con0) ((b.l.map Ce.con).getD i con0) = false
            rw [con_atC, con_atC, ex, ey]
            exact hk)
          rw [e]
          refine J.seq ?_
          refine J.region ?_
          refine L.va rfl (X.assign (by conv => lhs; whnf)) ?_
          refine L.nil ?_
          refine J.ret ?_
          refine inB_ret <|  thn_ret <|  thn_ret <|  inB_ret <|  thn_ret <| ?_
          refine fin1 ?_
          exact ⟨rfl, he3⟩
        · refine J.iteF rfl ?_
          refine J.skip ?_
          refine J.region ?_
          refine L.va rfl (X.move (by conv => lhs; whnf)) ?_
          refine L.va rfl (X.add rfl rfl (by omega)) ?_
          refine L.va rfl (X.assign (by conv => lhs; whnf)) ?_
          refine L.nil ?_
          refine ⟨i + 1, At1 (by first | rfl | exact at_int rfl (by omega) | exact at_slice rfl (by omega) | exact at_int rfl (by simp)), (by (iterate 17 refine Agr.lk rfl ?_); exact Agr.lk rfl (Agr.hav rfl Agr.rfl')), ?_⟩
          refine ⟨⟨by omega, fun j hj => ?_, he3⟩, by omega⟩
          rcases Nat.lt_or_ge j i with h | h
          · exact hP j h
          · obtain rfl : j = i := by omega
            rw [ex, ey]
            exact hk
      · obtain rfl : i = a.n := by omega
        have e : sameL a.con b.con = true := eqL_yes (by show (a.l.map Ce.con).length = (b.l.map Ce.con).length; rw [List.length_map, List.length_map]; omega) (fun j hj => by
          show sameC ((a.l.map Ce.con).getD j con0) ((b.l.map Ce.con).getD j con0) = true
          rw [con_atC, con_atC]
          exact hP j (by have : j < (a.l.map Ce.con).length := hj; rw [List.length_map] at this; omega))
        rw [e]
        refine J.exit ?_
        refine J.seq ?_
        refine J.region ?_
        refine L.va rfl (X.assign (by conv => lhs; whnf)) ?_
        refine L.nil ?_
        refine J.ret ?_
        refine fin1 ?_
        exact ⟨rfl, he⟩
end Go.Proofs.Ytpomklkfedpkfaa
namespace Go.Proofs.Ytpomklkfedpkfaa
set_option maxRecDepth 100000
open Go.RowKit H
set_option linter.unusedVariables false
theorem zsOf_u32b (xs : List (Nm .u32)) : InB 4294967296 (zsOf xs) := by
  intro z hz
  unfold zsOf at hz
  obtain ⟨a, _, rfl⟩ := List.mem_map.1 hz
  exact a.u32
theorem zsOf_u8b (xs : List (Nm .u8)) : InB 256 (zsOf xs) := zsOf_u8 xs
theorem flB (x : Fl) : x.b < 18446744073709551616 := of_decide_eq_true x.ok
abbrev WhT := (Nm .i64) × (Nm .i64) × (List (Nm .u32)) × (Nm .i64) × (Nm .i64)
abbrev ReT := (List (Nm .u8)) × (Fl) × (Fl)
abbrev CeT := (Nm .u64) × (Nm .i64) × (List WhT) × (List ReT)
theorem whs_of {w : World} {B n : Nat} {A : Option Addr} {xs : List WhT} (h : LiesSlice w B A n xs) : ∃ l : List Wh, l.length = n ∧ Reads w B 5 A n (l.flatMap Wh.vs) ∧ ∀ x ∈ l, x.At B w := by
  obtain ⟨l, h1, h2, h3⟩ := h.rows (X := Wh) (f := Wh.vs) (g := fun v => v.At B w) (fun _ => rfl) (fun us a hl => by
    obtain ⟨u1, u2, rfl, k1, ⟨v1, v2, rfl, k2, ⟨x1, x2, rfl, ⟨A, n, c, rfl, hn, hc, _, hl⟩, ⟨y1, y2, rfl, k3, k4⟩⟩⟩⟩ := hl
    refine ⟨⟨a.1.z, a.2.1.z, A, n, c, zsOf a.2.2.1, a.2.2.2.1.z, a.2.2.2.2.z⟩, ?_, hl.reads, Nat.le_trans hn hc, a.1.i64, a.2.1.i64, zsOf_u32b _, a.2.2.2.1.i64, a.2.2.2.2.i64⟩
    rw [show u1 = [.int .i64 a.1.z] from k1, show v1 = [.int .i64 a.2.1.z] from k2, show y1 = [.int .i64 a.2.2.2.1.z] from k3, show y2 = [.int .i64 a.2.2.2.2.z] from k4]
    rfl)
  exact ⟨l, h1, h2, h3⟩
theorem res_of {w : World} {B n : Nat} {A : Option Addr} {xs : List ReT} (h : LiesSlice w B A n xs) : ∃ l : List Re, l.length = n ∧ Reads w B 3 A n (l.flatMap Re.vs) ∧ ∀ x ∈ l, x.At B w := by
  obtain ⟨l, h1, h2, h3⟩ := h.rows (X := Re) (f := Re.vs) (g := fun v => v.At B w) (fun _ => rfl) (fun us a hl => by
    obtain ⟨u1, u2, rfl, ⟨A, n, c, rfl, hn, hc, _, hl⟩, ⟨v1, v2, rfl, k2, k3⟩⟩ := hl
    refine ⟨⟨A, n, c, zsOf a.1, a.2.1.b, a.2.2.b⟩, ?_, hl.reads, Nat.le_trans hn hc, zsOf_u8b _, flB _, flB _⟩
    rw [show v1 = [.float .f64 a.2.1.b] from k2, show v2 = [.float .f64 a.2.2.b] from k3]
    rfl)
  exact ⟨l, h1, h2, h3⟩
theorem ce_of {w : World} {B : Nat} {us : List Value} {x : CeT} (h : Lay.lies w B us x) : ∃ r : Ce, us = r.vs ∧ r.At B w := by
  obtain ⟨u1, u2, rfl, k1, ⟨v1, v2, rfl, k2, ⟨x1, x2, rfl, ⟨A, n, c, rfl, hn, hc, _, hl⟩, ⟨A', n', c', rfl, hn', hc', _, hl'⟩⟩⟩⟩ := h
  obtain ⟨li, h1, h2, h3⟩ := whs_of hl
  obtain ⟨lr, h4, h5, h6⟩ := res_of hl'
  obtain ⟨m, hm⟩ := Int.eq_ofNat_of_zero_le x.1.u64.1
  refine ⟨⟨m, x.2.1.z, A, n, c, li, A', n', c', lr⟩, ?_, (by show m < 18446744073709551616; have := x.1.u64.2; omega), x.2.1.i64, h2, h3, h1, Nat.le_trans hn hc, h5, h6, h4, Nat.le_trans hn' hc'⟩
  rw [show u1 = [.int .u64 x.1.z] from k1, show v1 = [.int .i64 x.2.1.z] from k2, hm]
  rfl
theorem ces_of {w : World} {B n c : Nat} {A : Option Addr} {xs : List CeT} (h : LiesSlice w B A n xs) (hm : n ≤ maxLen) : ∃ l : List Ce, (Ces.mk A n c l).At B w := by
  obtain ⟨l, h1, h2, h3⟩ := h.rows (X := Ce) (f := Ce.vs) (g := fun r => r.At B w) (fun _ => rfl) (fun us a hl => ce_of hl)
  exact ⟨l, h2, h3, h1, hm⟩
end Go.Proofs.Ytpomklkfedpkfaa
namespace Go.Proofs.Ytpomklkfedpkfaa
set_option maxRecDepth 100000
open Go.RowKit H
open Dfp
set_option linter.unusedVariables false
def insE (l : List Ce) (p : Ce) : List Ce := l.takeWhile (fun q => decide (q.key < p.key)) ++ [p] ++ l.dropWhile (fun q => decide (q.key < p.key))
theorem tw_atE {l : List Ce} {p : Ce} {k : Nat} (hk : k ≤ l.length) (h1 : ∀ j, j < k → (l.getD j ce0).key < p.key) (h2 : k < l.length → ¬ (l.getD k ce0).key < p.key) : insE l p = l.take k ++ [p] ++ l.drop k := by
  have key : ∀ (l : List Ce) (k : Nat), k ≤ l.length → (∀ j, j < k → (l.getD j ce0).key < p.key) → (k < l.length → ¬ (l.getD k ce0).key < p.key) → l.takeWhile (fun q => decide (q.key < p.key)) = l.take k ∧ l.dropWhile (fun q => decide (q.key < p.key)) = l.drop k := by
    intro l
    induction l with
    | nil => intro k hk _ _; simp
    | cons a t ih =>
      intro k hk h1 h2
      rcases k with _ | k
      · have h0 : ¬ a.key < p.key := h2 (by simp)
        rw [List.takeWhile_cons, List.dropWhile_cons, decide_eq_false h0]
        simp
      · have h0 : a.key < p.key := h1 0 (by omega)
        obtain ⟨e1, e2⟩ := ih k (by simpa using hk) (fun j hj => h1 (j + 1) (by omega)) (fun hj => h2 (by simpa using hj))
        rw [List.takeWhile_cons, List.dropWhile_cons, decide_eq_true h0, e1, e2]
        simp
  obtain ⟨e1, e2⟩ := key l k hk h1 h2
  unfold insE
  rw [e1, e2]
theorem insE_ok {l : List Ce} {p : Ce} (hl : RisC l) (hp : ∀ q ∈ l, q.key ≠ p.key) : RisC (insE l p) ∧ ∀ q, q ∈ insE l p ↔ q ∈ l ∨ q = p := by
  have hlt : ∀ q ∈ l.takeWhile (fun q => decide (q.key < p.key)), q.key < p.key := fun q hq => by
    have key : ∀ l : List Ce, q ∈ l.takeWhile (fun q => decide (q.key < p.key)) → q.key < p.key := by
      intro l
      induction l with
      | nil => intro h; simp at h
      | cons a t ih =>
        intro h
        by_cases ha : a.key < p.key
        · rw [List.takeWhile_cons, if_pos (decide_eq_true ha)] at h
          rcases List.mem_cons.1 h with h1 | h1
          · rw [h1]; exact ha
          · exact ih h1
        · rw [List.takeWhile_cons, decide_eq_false ha] at h
          simp at h
    exact key l hq
  have hgt : ∀ q ∈ l.dropWhile (fun q => decide (q.key < p.key)), p.key < q.key := by
    have key : ∀ l : List Ce, RisC l → (∀ q ∈ l, q.key ≠ p.key) → ∀ q ∈ l.dropWhile (fun q => decide (q.key < p.key)), p.key < q.key := by
      intro l
      induction l with
      | nil => intro _ _ q hq; simp at hq
      | cons a t ih =>
        intro hr hne q hq
        have hr' := List.pairwise_cons.1 hr
        by_cases ha : a.key < p.key
        · rw [List.dropWhile_cons, if_pos (decide_eq_true ha)] at hq
          exact ih hr'.2 (fun q hq => hne q (by simp [hq])) q hq
        · rw [List.dropWhile_cons, decide_eq_false ha] at hq
          have h0 := hne a (by simp)
          have hq : q ∈ a :: t := hq
          rcases List.mem_cons.1 hq with h1 | h1
          · rw [h1]
            omega
          · have := hr'.1 q h1
            omega
    exact key l hl hp
  refine ⟨?_, fun q => ?_⟩
  · unfold insE
    rw [RisC, List.pairwise_append, List.pairwise_append]
    refine ⟨⟨hl.sublist (List.takeWhile_sublist _), by simp, fun x hx y hy => ?_⟩, hl.sublist (List.dropWhile_sublist _), fun x hx y hy => ?_⟩
    · rw [List.mem_singleton] at hy
      rw [hy]
      exact hlt x hx
    · rcases List.mem_append.1 hx with h | h
      · exact Int.lt_trans (hlt x h) (hgt y hy)
      · rw [List.mem_singleton] at h
        rw [h]
        exact hgt y hy
  · unfold insE
    conv => rhs; rw [← List.takeWhile_append_dropWhile (p := fun q => decide (q.key < p.key)) (l := l)]
    simp only [List.mem_append, List.mem_singleton]
    constructor
    · rintro ((h | h) | h)
      · exact .inl (.inl h)
      · exact .inr h
      · exact .inl (.inr h)
    · rintro ((h | h) | h)
      · exact .inl (.inl h)
      · exact .inr h
      · exact .inl (.inr h)
theorem insE_len (l : List Ce) (p : Ce) : (insE l p).length = l.length + 1 := by
  unfold insE
  have := congrArg List.length (List.takeWhile_append_dropWhile (p := fun q : Ce => decide (q.key < p.key)) (l := l))
  rw [List.length_append] at this
  rw [List.length_append, List.length_append, List.length_singleton]
  omega
theorem rwith15 {w : World} (A : Option Addr) (n c : Nat) (l : List Ce) (p : Ce) (hp : p.k < 18446744073709551616) (hr : Reads w w.heap.size 4 A n (l.flatMap Ce.vs)) (hl : l.length = n) (hn : n ≤ 1000000) (hc : n ≤ c) (hcm : c ≤ maxLen) (hne : ∀ q ∈ l, q.key ≠ p.key) : Calls Try.prog 31 #[.slice A n c, p.val] w fun e w' => ∃ A' c', e = .returned (.tuple #[.slice A' (n + 1) c', .int .i64 0]) ∧ w'.ownsRow w.heap.size 61 4 (.slice A' (n + 1) c') (n + 1) ((insE l p).flatMap Ce.vs) ∧ Ext w w' := by
  have hcm' := hcm
  unfold maxLen at hcm'
  refine enter Try.func31 rfl (by kernel_rfl) ?_
  refine J.seq ?_
  refine J.region ?_
  refine L.boxA (l := [_, _, _, _]) rfl rfl ?_
  intro b1 w1 hb1 hs1 hk1 he1
  have hk1 : Blk w1 b1 61 p.vs.toArray := hk1
  have z1 := he1.le
  have hr1 := hr.ext he1
  refine L.va rfl (X.assign (by conv => lhs; whnf)) ?_
  refine L.va rfl (X.assign (by conv => lhs; whnf)) ?_
  refine L.nil ?_
  refine J.seq ?_
  refine J.region ?_
  refine L.va rfl (X.assign (by conv => lhs; whnf)) ?_
  refine L.nil ?_
  refine J.cut (X := Nat) [6, 10, 11, 12, 13, 14, 15, 16, 17, 18, 19, 20, 21, 22, 23, 24, 25] (fun k => [(6, .int .i64 (k : Int))]) (fun k w' => k ≤ n ∧ (∀ j, j < k → (l.getD j ce0).key < p.key) ∧ (k < l.length → ¬ (l.getD k ce0).key < p.key) ∧ Ext w1 w') ?_ ?_
  · refine J.block ?_
    refine J.loop (X := Nat) [6, 10, 11, 12, 13, 14, 15, 16, 17, 18, 19, 20, 21, 22, 23, 24, 25] (fun k => [(6, .int .i64 (k : Int))]) (fun k w' => k ≤ n ∧ (∀ j, j < k → (l.getD j ce0).key < p.key) ∧ Ext w1 w') (fun k => n - k) (0) (At1 (by first | rfl | exact at_int rfl (by omega) | exact at_slice rfl (by omega) | exact at_int rfl (by simp))) ?_ ?_
    · exact ⟨Nat.zero_le _, fun j hj => absurd hj (by omega), Ext.refl _⟩
    · rintro k g w2 ⟨hk, hP, he2⟩
      have hr2 := hr1.ext he2
      have hk2 := hk1.ext he2
      refine J.seq ?_
      refine J.seq ?_
      by_cases hlt : k < n
      · have hA := hr2.some_ (by omega)
        have gk := gtX (l := l) (i := k) (by omega)
        refine J.draw (ℓ := 1000000) (S := Ext w2) mixed (fun w3 hS hS_h => ?_)
        refine D.va 0 rfl (by kernel_rfl) (fun _ _ _ h => h) rfl (fun w' hw => X.move (by conv => lhs; whnf)) hS ?_
        refine D.va 1 rfl (by kernel_rfl) (fun _ _ _ h => h) rfl (fun w' hw => X.move (by conv => lhs; whnf)) hS ?_
        refine D.va 2 rfl (by kernel_rfl) (fun _ _ _ h => h) rfl (fun w' hw => X.len rfl Try.underlying22) hS ?_
        refine D.va 3 rfl (by kernel_rfl) (fun _ _ _ h => h) rfl (fun w' hw => X.lss rfl rfl) hS ?_
        refine D.va 4 rfl (by kernel_rfl) (fun _ _ _ h => h) rfl (fun w' hw => X.move (by conv => lhs; whnf)) hS ?_
        refine D.caseDecT (k := 14) rfl (by omega) ?_
        refine D.va 5 rfl (by kernel_rfl) (fun _ _ _ h => h) rfl (fun w' hw => X.move (by conv => lhs; whnf)) hS ?_
        refine D.va 6 rfl (by kernel_rfl) (fun _ _ _ h => h) rfl (fun w' hw => X.move (by conv => lhs; whnf)) hS ?_
        refine D.va 7 rfl (by kernel_rfl) (fun _ _ _ h => h) rfl (fun w' hw => (by first | exact X.indexAddrn rfl rfl Try.underlying22 sz_61 (by first | exact Option.some_ne_none _ | exact hA) (by omega) | exact X.indexAddr rfl rfl Try.underlying22 sz_61 (by first | exact Option.some_ne_none _ | exact hA) (by omega))) hS ?_
        refine D.va 8 rfl (by kernel_rfl) (fun _ _ _ h => h) rfl (fun w' hw => X.fieldP rfl Try.underlying61 rfl sz_36 (by decide) (by first | exact Option.some_ne_none _ | exact hA)) hS ?_
        refine D.va 9 rfl (by kernel_rfl) (fun _ _ _ h => h) rfl (fun w' hw => X.load rfl sc_36 (Ld.flat2 ce_len (hr2.ext hw) gk (r := 0) rfl)) hS ?_
        refine D.va 10 rfl (by kernel_rfl) (fun _ _ _ h => h) rfl (fun w' hw => X.fieldAddr rfl Try.underlying61 rfl sz_36 (by decide)) hS ?_
        refine D.va 11 rfl (by kernel_rfl) (fun _ _ _ h => h) rfl (fun w' hw => X.load rfl sc_36 (by first | exact Ld.blk (hk2.ext hw) rfl | exact hA)) hS ?_
        refine D.va 12 rfl (by kernel_rfl) (fun _ _ _ h => h) rfl (fun w' hw => X.lss rfl rfl) hS ?_
        refine D.va 13 rfl (by kernel_rfl) (fun _ _ _ h => h) rfl (fun w' hw => X.pickT rfl (by conv => lhs; whnf)) hS ?_
        refine D.done (by kernel_rfl) ?_
        replace hk2 := hk2.ext hS
        have he3 := he2.trans hS
        refine J.dec rfl (fun hv => ?_) (fun hv => ?_)
        · skip
          refine J.skip ?_
          refine J.block ?_
          refine J.region ?_
          refine L.va rfl (X.move (by conv => lhs; whnf)) ?_
          refine L.va rfl (X.add rfl rfl (by omega)) ?_
          refine L.va rfl (X.assign (by conv => lhs; whnf)) ?_
          refine L.nil ?_
          refine ⟨k + 1, At1 (by first | rfl | exact at_int rfl (by omega) | exact at_slice rfl (by omega) | exact at_int rfl (by simp)), (by (iterate 18 refine Agr.lk rfl ?_); exact Agr.lk rfl (Agr.hav rfl Agr.rfl')), ?_⟩
          refine ⟨⟨by omega, fun j hj => ?_, he3⟩, by omega⟩
          rcases Nat.lt_or_ge j k with h | h
          · exact hP j h
          · obtain rfl : j = k := by omega
            exact hv
        · skip
          refine J.exit ?_
          refine ⟨k, At1 (by first | rfl | exact at_int rfl (by omega) | exact at_slice rfl (by omega) | exact at_int rfl (by simp)), (by (iterate 15 refine Agr.lk rfl ?_); refine Agr.lk rfl ?_; refine Agr.hav rfl ?_; exact Agr.rfl'), ?_⟩
          exact ⟨hk, hP, fun _ => hv, he3⟩
      · refine J.draw (ℓ := 1000000) (S := Ext w2) mixed (fun w3 hS hS_h => ?_)
        refine D.va 0 rfl (by kernel_rfl) (fun _ _ _ h => h) rfl (fun w' hw => X.move (by conv => lhs; whnf)) hS ?_
        refine D.va 1 rfl (by kernel_rfl) (fun _ _ _ h => h) rfl (fun w' hw => X.move (by conv => lhs; whnf)) hS ?_
        refine D.va 2 rfl (by kernel_rfl) (fun _ _ _ h => h) rfl (fun w' hw => X.len rfl Try.underlying22) hS ?_
        refine D.va 3 rfl (by kernel_rfl) (fun _ _ _ h => h) rfl (fun w' hw => X.lss rfl rfl) hS ?_
        refine D.va 4 rfl (by kernel_rfl) (fun _ _ _ h => h) rfl (fun w' hw => X.move (by conv => lhs; whnf)) hS ?_
        refine D.caseDecF (k := 14) rfl (by omega) ?_
        refine D.no 5 rfl (by kernel_rfl) (fun _ _ _ h => h) rfl hS ?_
        refine D.no 6 rfl (by kernel_rfl) (fun _ _ _ h => h) rfl hS ?_
        refine D.no 7 rfl (by kernel_rfl) (fun _ _ _ h => h) rfl hS ?_
        refine D.no 8 rfl (by kernel_rfl) (fun _ _ _ h => h) rfl hS ?_
        refine D.no 9 rfl (by kernel_rfl) (fun _ _ _ h => h) rfl hS ?_
        refine D.no 10 rfl (by kernel_rfl) (fun _ _ _ h => h) rfl hS ?_
        refine D.no 11 rfl (by kernel_rfl) (fun _ _ _ h => h) rfl hS ?_
        refine D.no 12 rfl (by kernel_rfl) (fun _ _ _ h => h) rfl hS ?_
        refine D.va 13 rfl (by kernel_rfl) (fun _ _ _ h => h) rfl (fun w' hw => X.pickF rfl (by conv => lhs; whnf)) hS ?_
        refine D.done (by kernel_rfl) ?_
        replace hk2 := hk2.ext hS
        refine J.iteF rfl ?_
        refine J.exit ?_
        refine ⟨k, At1 (by first | rfl | exact at_int rfl (by omega) | exact at_slice rfl (by omega) | exact at_int rfl (by simp)), (by (iterate 15 refine Agr.lk rfl ?_); refine Agr.lk rfl ?_; refine Agr.hav rfl ?_; exact Agr.rfl'), ?_⟩
        exact ⟨hk, hP, fun _ => by omega, he2.trans hS⟩
  · rintro k g w2 ⟨hk, hP, hQ, he2⟩
    have e := tw_atE (l := l) (p := p) (k := k) (by omega) hP hQ
    have he02 := he1.trans he2
    have z2 := he02.le
    have hr2 := hr1.ext he2
    have hk2 := hk1.ext he2
    have hb1 := hr2.first hk
    have hb2 := part_reads hr2 (i := k) (j := n) (by omega) (Nat.le_refl _) hc
    have on1 := ces_ones (l.take k)
    have on2 := ces_ones (l.drop k)
    have eF : (insE l p).flatMap Ce.vs = (l.take k ++ [p]).flatMap Ce.vs ++ (l.drop k).flatMap Ce.vs := by rw [e, List.flatMap_append]
    rw [flat_take' ce_len] at hb1
    rw [flat_drop' ce_len, List.take_of_length_le (by rw [flat_length ce_len, List.length_drop]; omega)] at hb2
    refine J.seq ?_
    refine J.region ?_
    refine L.bsliceR (ls := []) rfl Evs.nil rfl rfl rfl rfl Try.underlying22 sz_61 zr_61 (by decide) ?_
    intro b4 w4 hb4 hs4 hk4 he4
    have ho4 : w4.ownsRow w2.heap.size 61 4 (.slice (some ⟨b4, 0, none⟩) 0 0) 0 [] := blk_own (size := 4) (q := 0) (l := []) hk4 (by omega) (Nat.zero_le _) (Nat.zero_le _) rfl
    have z4 := he4.le
    refine L.va rfl (X.move (by conv => lhs; whnf)) ?_
    refine L.va rfl (X.move (by conv => lhs; whnf)) ?_
    refine L.va rfl ((by first | exact X.sliceTon rfl rfl Try.underlying22 sz_61 (by omega) | exact X.sliceTo rfl rfl Try.underlying22 sz_61 (by omega))) ?_
    refine L.appendV (q := k) (ys := (l.take k).flatMap Ce.vs) rfl rfl rfl Try.underlying22 el_61 (ho4) (hb1.ext he4) (by first | rfl | exact strs_ones _ | assumption) (by omega) (by simp) (by unfold maxLen; omega) (by omega) ?_
    intro A5 c5 w5 ho5 hg5 hb5 hor5
    have he25 : Ext w2 w5 := he4.grw hg5 (fun g hg => (ho4.lt g hg).1)
    have z5 := he25.le
    have hk5 := hk2.ext he25
    have hr5 := hr2.ext he25
    refine L.va rfl (X.assign (by conv => lhs; whnf)) ?_
    refine L.nil ?_
    refine J.cut (X := Unit) [4, 5, 8, 9, 31, 32, 33, 34, 35, 36, 37, 38, 39, 40, 41, 42, 43, 44, 45, 46, 47, 48, 49, 50, 51, 52, 53, 54, 55, 56, 57, 58, 59, 60, 61, 62, 63, 64, 65] (fun _ => []) (fun _ w' => Ext w5 w') ?_ ?_
    · skip
      by_cases hlt : k < n
      · have hA := hr5.some_ (by omega)
        have gk := gtX (l := l) (i := k) (by omega)
        have hkn := hne _ (memD (l := l) (i := k) (d := ce0) (by omega))
        refine J.seq ?_
        refine J.draw (ℓ := 1000000) (S := Ext w5) mixed (fun w6 hS hS_h => ?_)
        refine D.va 0 rfl (by kernel_rfl) (fun _ _ _ h => h) rfl (fun w' hw => X.move (by conv => lhs; whnf)) hS ?_
        refine D.va 1 rfl (by kernel_rfl) (fun _ _ _ h => h) rfl (fun w' hw => X.move (by conv => lhs; whnf)) hS ?_
        refine D.va 2 rfl (by kernel_rfl) (fun _ _ _ h => h) rfl (fun w' hw => X.len rfl Try.underlying22) hS ?_
        refine D.va 3 rfl (by kernel_rfl) (fun _ _ _ h => h) rfl (fun w' hw => X.lss rfl rfl) hS ?_
        refine D.va 4 rfl (by kernel_rfl) (fun _ _ _ h => h) rfl (fun w' hw => X.move (by conv => lhs; whnf)) hS ?_
        refine D.caseDecT (k := 35) rfl (by omega) ?_
        refine D.va 5 rfl (by kernel_rfl) (fun _ _ _ h => h) rfl (fun w' hw => X.move (by conv => lhs; whnf)) hS ?_
        refine D.va 6 rfl (by kernel_rfl) (fun _ _ _ h => h) rfl (fun w' hw => X.move (by conv => lhs; whnf)) hS ?_
        refine D.va 7 rfl (by kernel_rfl) (fun _ _ _ h => h) rfl (fun w' hw => (by first | exact X.indexAddrn rfl rfl Try.underlying22 sz_61 (by first | exact Option.some_ne_none _ | exact hA) (by omega) | exact X.indexAddr rfl rfl Try.underlying22 sz_61 (by first | exact Option.some_ne_none _ | exact hA) (by omega))) hS ?_
        refine D.va 8 rfl (by kernel_rfl) (fun _ _ _ h => h) rfl (fun w' hw => X.fieldP rfl Try.underlying61 rfl sz_36 (by decide) (by first | exact Option.some_ne_none _ | exact hA)) hS ?_
        refine D.va 9 rfl (by kernel_rfl) (fun _ _ _ h => h) rfl (fun w' hw => X.load rfl sc_36 (Ld.flat2 ce_len (hr5.ext hw) gk (r := 0) rfl)) hS ?_
        refine D.va 10 rfl (by kernel_rfl) (fun _ _ _ h => h) rfl (fun w' hw => X.fieldAddr rfl Try.underlying61 rfl sz_36 (by decide)) hS ?_
        refine D.va 11 rfl (by kernel_rfl) (fun _ _ _ h => h) rfl (fun w' hw => X.load rfl sc_36 (by first | exact Ld.blk (hk5.ext hw) rfl | exact hA)) hS ?_
        refine D.va 12 rfl (by kernel_rfl) (fun _ _ _ h => h) rfl (fun w' hw => X.eql rfl rfl) hS ?_
        refine D.va 13 rfl (by kernel_rfl) (fun _ _ _ h => h) rfl (fun w' hw => X.pickT rfl (by conv => lhs; whnf)) hS ?_
        refine D.done (by kernel_rfl) ?_
        replace hk5 := hk5.ext hS
        refine J.decF rfl (by exact hkn) ?_
        refine J.skip ?_
        refine ⟨(), At0 , (by (iterate 15 refine Agr.lk rfl ?_); exact Agr.rfl'), ?_⟩
        exact hS
      · refine J.seq ?_
        refine J.draw (ℓ := 1000000) (S := Ext w5) mixed (fun w6 hS hS_h => ?_)
        refine D.va 0 rfl (by kernel_rfl) (fun _ _ _ h => h) rfl (fun w' hw => X.move (by conv => lhs; whnf)) hS ?_
        refine D.va 1 rfl (by kernel_rfl) (fun _ _ _ h => h) rfl (fun w' hw => X.move (by conv => lhs; whnf)) hS ?_
        refine D.va 2 rfl (by kernel_rfl) (fun _ _ _ h => h) rfl (fun w' hw => X.len rfl Try.underlying22) hS ?_
        refine D.va 3 rfl (by kernel_rfl) (fun _ _ _ h => h) rfl (fun w' hw => X.lss rfl rfl) hS ?_
        refine D.va 4 rfl (by kernel_rfl) (fun _ _ _ h => h) rfl (fun w' hw => X.move (by conv => lhs; whnf)) hS ?_
        refine D.caseDecF (k := 35) rfl (by omega) ?_
        refine D.no 5 rfl (by kernel_rfl) (fun _ _ _ h => h) rfl hS ?_
        refine D.no 6 rfl (by kernel_rfl) (fun _ _ _ h => h) rfl hS ?_
        refine D.no 7 rfl (by kernel_rfl) (fun _ _ _ h => h) rfl hS ?_
        refine D.no 8 rfl (by kernel_rfl) (fun _ _ _ h => h) rfl hS ?_
        refine D.no 9 rfl (by kernel_rfl) (fun _ _ _ h => h) rfl hS ?_
        refine D.no 10 rfl (by kernel_rfl) (fun _ _ _ h => h) rfl hS ?_
        refine D.no 11 rfl (by kernel_rfl) (fun _ _ _ h => h) rfl hS ?_
        refine D.no 12 rfl (by kernel_rfl) (fun _ _ _ h => h) rfl hS ?_
        refine D.va 13 rfl (by kernel_rfl) (fun _ _ _ h => h) rfl (fun w' hw => X.pickF rfl (by conv => lhs; whnf)) hS ?_
        refine D.done (by kernel_rfl) ?_
        replace hk5 := hk5.ext hS
        refine J.iteF rfl ?_
        refine J.skip ?_
        refine ⟨(), At0 , (by (iterate 15 refine Agr.lk rfl ?_); exact Agr.rfl'), ?_⟩
        exact hS
    · rintro ⟨⟩ g w6 he6
      have ho6 := ho5.ext he6
      have he26 := he25.trans he6
      have z6 := he26.le
      refine J.seq ?_
      refine J.draw (ℓ := 1000000) (S := (fun w' => Ext w2 w')) mixed (fun w7 hSE hS_h => ?_)
      have hS : ((fun w' => Ext w2 w')) w7 := he26.trans hSE
      have ho7 := ho6.ext hSE
      have z7 := hS.le
      refine D.va 0 rfl (by kernel_rfl) (fun _ _ _ h => h) rfl (fun w' hw => X.move (by conv => lhs; whnf)) hS ?_
      refine D.va 1 rfl (by kernel_rfl) (fun _ _ _ h => h) rfl (fun w' hw => (by first | exact X.loadAgg rfl (range_l (hk2.ext hw)) Try.underlying61 rfl (by kernel_rfl) | exact X.loadAgg rfl (range_blk (hk2.ext hw)) Try.underlying61 rfl (by kernel_rfl))) hS ?_
      refine D.va 4 rfl (by kernel_rfl) (fun _ _ _ h => h) rfl (fun w' hw => X.move (by conv => lhs; whnf)) hS ?_
      refine D.va 5 rfl (by kernel_rfl) (fun _ _ _ h => h) rfl (fun w' hw => X.move (by conv => lhs; whnf)) hS ?_
      refine D.va 6 rfl (by kernel_rfl) (fun _ _ _ h => h) rfl (fun w' hw => (by first | exact X.sliceFromn rfl rfl Try.underlying22 sz_61 (by omega) | exact X.sliceFrom rfl rfl Try.underlying22 sz_61 (by omega))) hS ?_
      refine D.one 2 (by kernel_rfl) rfl ?_
      refine L.bslice1 (l := [_, _, _, _]) rfl rfl rfl Try.underlying22 sz_61 zr_61 rfl ?_
      intro b8 w8 hb8 hs8 hk8 he8
      have hS1 := hS.trans he8
      refine L.nil ?_
      refine ⟨fun _ => hS1, ?_⟩
      have ho8 := ho7.ext he8
      have z8 := hS1.le
      refine D.one 3 (by kernel_rfl) rfl ?_
      refine L.appendV (q := k + 1) (ys := ((l.take k ++ [p]).flatMap Ce.vs)) rfl rfl rfl Try.underlying22 el_61 (ho8) ((blk_readsN (sz := 4) (q := 1) (l := p.vs) hk8 hk8.lt rfl)) (by first | rfl | exact strs_ones _ | assumption) (by omega) (by simp) (by unfold maxLen; omega) (by omega) ?_
      intro A9 c9 w9 ho9 hg9 hb9 hor9
      have hS2 := hS1.grw hg9 (fun g hg ↦ (ho8.lt g hg).1)
      refine L.nil ?_
      refine ⟨fun _ => hS2, ?_⟩
      have z9 := hS2.le
      refine D.one 7 (by kernel_rfl) rfl ?_
      refine L.appendV (q := n + 1) (ys := ((l.take k ++ [p]).flatMap Ce.vs ++ (l.drop k).flatMap Ce.vs)) rfl rfl rfl Try.underlying22 el_61 (ho9) (hb2.ext hS2) (by first | rfl | exact strs_ones _ | assumption) (by omega) (by simp) (by unfold maxLen; omega) (by omega) ?_
      intro A10 c10 w10 ho10 hg10 hb10 hor10
      have hS3 := hS2.grw hg10 (fun g hg ↦ (ho9.lt g hg).1)
      refine L.nil ?_
      refine ⟨fun _ => hS3, ?_⟩
      refine D.va 8 rfl (by kernel_rfl) (fun _ _ _ h => h) rfl (fun w' hw => X.assign (by conv => lhs; whnf)) hS3 ?_
      refine D.va 9 rfl (by kernel_rfl) (fun _ _ _ h => h) rfl (fun w' hw => X.assign (by conv => lhs; whnf)) hS3 ?_
      refine D.done (by kernel_rfl) ?_
      replace hk2 := hk2.ext hS3
      refine J.ret ?_
      refine fin2 ?_
      exact ⟨A10, c10, rfl, by rw [eF]; exact own_lowB ho10 z2, he02.trans hS3⟩
end Go.Proofs.Ytpomklkfedpkfaa
