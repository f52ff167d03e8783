import Derived.Test.YtjdimgigbgafbaaDoorZLogSurvives3
/-
  What the law leans on, part 4: WLogJ, LLogSurvives.
-/
namespace Go.Proofs.YtjdimgigbgafbaaDoor
set_option maxRecDepth 100000
open Go.RowKit H
open Lo Byts Seal Fram
set_option linter.unusedVariables false
theorem at_ptr {f : Fr} {k : Nat} {p p' : Nat} (h : f k = .pointer (some ⟨p, 0, none⟩)) (e : p = p') : f k = .pointer (some ⟨p', 0, none⟩) := by rw [h, e]
theorem Lg.At.side {G : Lg} {v : Dk} {N : Nat} {C : Nat → Prop} {w w' : World} {r : Option Nat} (h : G.At v N C w) (hg : w.grownBy w' r) (hr : ∀ g, r = some g → IsT w g 39 ∧ g ≠ v.kb ∧ N ≤ g) : G.At v N C w' := by
  cases r with
  | none => exact h.ext (grown_none hg)
  | some b =>
    obtain ⟨hT, hk, hN⟩ := hr b rfl
    have nT : ∀ {g : Nat} {t : TypeId}, IsT w g t → t ≠ 39 → some b ≠ some g := fun ht hne e => by
      injection e with e
      subst e
      exact hne (ht.fun_ hT)
    have hB : Below N w w' := ⟨hg.os, hg.tape, hg.output, hg.size, fun i hi => hg.block i (Nat.lt_of_lt_of_le hi h.hd.nsz) (fun e => by injection e with e; omega)⟩
    refine ⟨h.hd.grownF hg (.inr ⟨hk, fun e => nT h.hd.dT (by decide) (by rw [e]), fun e => nT (own_isT h.hd.hp e).1 (by decide) rfl⟩) (fun x hx e => ?_), h.hb.grown hg (nT h.hb.isT (by decide)).symm, h.hs.kept hg (fun g hg2 => nT (h.hs.own hg2).1 (by decide)), h.ht.kept hg (.inr fun e => nT (own_isT h.ht e).1 (by decide) rfl), h.sep, h.hN, h.tab.low hB h.tN, h.tN⟩
    have dat : ∀ zs, Dat w x zs → False := by
      rintro zs ⟨b2, off, c, cs, rfl, hl, hb, hc⟩
      obtain rfl : b2 = b := by injection e
      exact absurd (hb.isT.fun_ hT) (by decide)
    rcases hx with ⟨y, hy, rfl⟩ | ⟨y, hy, rfl⟩
    · exact dat _ (h.hd.kd y hy)
    · exact dat _ (h.hd.pd y hy).2
structure De where
  (kind n b : Int) (kA : Option Addr) (kn kc : Nat) (keep : List Bool)
abbrev De.vals (x : De) : List Value := [.int .i64 x.kind, .int .i64 x.n, .int .u8 x.b, .slice x.kA x.kn x.kc]
abbrev De.v (x : De) : Value := .agg x.vals.toArray
structure De.At (x : De) (N : Nat) (w : World) : Prop where
  hk : Reads w N 1 x.kA x.kn (x.keep.map Value.bool)
  hn : -9223372036854775808 ≤ x.n ∧ x.n ≤ 9223372036854775807
  hb : 0 ≤ x.b ∧ x.b < 256
  hl : x.kn ≤ maxLen
theorem De.At.low {x : De} {N : Nat} {w w' : World} (h : x.At N w) (hb : Below N w w') : x.At N w' := ⟨h.hk.low hb (Nat.le_refl _), h.hn, h.hb, h.hl⟩
structure DesAt (xs : List De) (A : Option Addr) (n N : Nat) (w : World) : Prop where
  hr : Reads w N 4 A n (xs.flatMap De.vals)
  hx : ∀ x ∈ xs, x.At N w
  hn : xs.length = n
theorem DesAt.low {xs : List De} {A : Option Addr} {n N : Nat} {w w' : World} (h : DesAt xs A n N w) (hb : Below N w w') : DesAt xs A n N w' := ⟨h.hr.low hb (Nat.le_refl _), fun x hx => (h.hx x hx).low hb, h.hn⟩
theorem DesAt.row {xs : List De} {A : Option Addr} {n N : Nat} {w : World} (h : DesAt xs A n N w) {i : Nat} (hi : i < n) : ∃ x, xs[i]? = some x ∧ x ∈ xs ∧ x.At N w := by
  have hlt : i < xs.length := by rw [h.hn]; exact hi
  exact ⟨xs[i], List.getElem?_eq_getElem hlt, List.getElem_mem hlt, h.hx _ (List.getElem_mem hlt)⟩
theorem de_len (x : De) : x.vals.length = 4 := rfl
theorem des_of {w : World} {N n : Nat} {A : Option Addr} {xs : List ((Nm .i64) × (Nm .i64) × (Nm .u8) × (List (Bool)))} (h : LiesSlice w N A n xs) : ∃ ds : List De, DesAt ds A n N w := by
  obtain ⟨l, h1, h2, h3⟩ := h.rows (X := De) (f := De.vals) (g := fun x => x.At N w) (fun x => rfl) (fun us a hl => by
    obtain ⟨u1, v1, rfl, e1, u2, v2, rfl, e2, u3, v3, rfl, e3, kA, kn, kc, rfl, m1, m2, _, m3⟩ := hl
    obtain rfl : u1 = [.int .i64 a.1.z] := e1
    obtain rfl : u2 = [.int .i64 a.2.1.z] := e2
    obtain rfl : u3 = [.int .u8 a.2.2.1.z] := e3
    exact ⟨⟨a.1.z, a.2.1.z, a.2.2.1.z, kA, kn, kc, a.2.2.2⟩, rfl, m3.bools, a.2.1.i64, a.2.2.1.u8, by dsimp only; omega⟩)
  exact ⟨l, h2, h3, h1⟩
def lightL (xs : List De) : Bool := decide (xs.length ≤ 40) && xs.all fun x => decide (x.kn ≤ 100)
theorem lightL_of {xs : List De} (h : lightL xs = true) : xs.length ≤ 40 ∧ ∀ x ∈ xs, x.kn ≤ 100 := by
  unfold lightL at h
  rw [Bool.and_eq_true, List.all_eq_true] at h
  exact ⟨of_decide_eq_true h.1, fun x hx => of_decide_eq_true (h.2 x hx)⟩
theorem light22 {xs : List De} {A : Option Addr} {n c N : Nat} {w : World} (h : DesAt xs A n N w) (hn : n ≤ maxLen) : Calls Tryd.prog 6 #[.slice A n c] w fun e w' => e = .returned (.bool (lightL xs)) ∧ w = w' := by
  unfold maxLen at hn
  have hlen := h.hn
  have hR := h.hr
  refine enter Tryd.func6 rfl (by kernel_rfl) ?_
  refine J.seq ?_
  refine J.region ?_
  refine L.va rfl (X.assign (by conv => lhs; whnf)) ?_
  refine L.nil ?_
  refine J.seq ?_
  refine J.seq ?_
  refine J.region ?_
  refine L.va rfl (X.move (by conv => lhs; whnf)) ?_
  refine L.va rfl (X.len rfl Tryd.underlying22) ?_
  refine L.va rfl (X.gtr rfl rfl) ?_
  refine L.nil ?_
  refine J.dec rfl (fun h60 => ?_) (fun h60 => ?_)
  · have e : lightL xs = false := by unfold lightL; rw [decide_eq_false (by omega)]; rfl
    rw [e]
    refine J.seq ?_
    refine J.region ?_
    refine L.va rfl (X.assign (by conv => lhs; whnf)) ?_
    refine L.nil ?_
    refine J.ret ?_
    refine thn_ret <| ?_
    refine fin1 ?_
    exact ⟨rfl, rfl⟩
  · refine J.skip ?_
    refine J.seq ?_
    refine J.seq ?_
    refine J.region ?_
    refine L.va rfl (X.assign (by conv => lhs; whnf)) ?_
    refine L.nil ?_
    refine J.block ?_
    refine J.loop (X := Nat) [2, 3, 7, 8, 9, 10, 11, 12, 13, 14, 15, 16, 17, 18, 19] (fun i => [(3, .int .i64 (i : Int))]) (fun i w' => w' = w ∧ i ≤ n ∧ ∀ j x, j < i → xs[j]? = some x → x.kn ≤ 100) (fun i => n - i) (0) (At1 (by first | rfl | exact at_int rfl (by omega) | exact at_slice rfl (by omega) | exact at_int rfl (by simp))) ?_ ?_
    · exact ⟨rfl, Nat.zero_le _, fun j x hj => absurd hj (Nat.not_lt_zero _)⟩
    · rintro i g w2 ⟨rfl, hi, hall⟩
      refine J.seq ?_
      refine J.seq ?_
      refine J.region ?_
      refine L.va rfl (X.move (by conv => lhs; whnf)) ?_
      refine L.va rfl (X.move (by conv => lhs; whnf)) ?_
      refine L.va rfl (X.len rfl Tryd.underlying22) ?_
      refine L.va rfl (X.lss rfl rfl) ?_
      refine L.nil ?_
      refine J.dec rfl (fun hlt => ?_) (fun hlt => ?_)
      · obtain ⟨x, hxi, hxm, hxA⟩ := h.row (show i < n by omega)
        have hl := hxA.hl
        unfold maxLen at hl
        refine J.skip ?_
        refine J.seq ?_
        refine J.block ?_
        refine J.seq ?_
        refine J.region ?_
        refine L.va rfl (X.move (by conv => lhs; whnf)) ?_
        refine L.va rfl (X.move (by conv => lhs; whnf)) ?_
        refine L.va rfl ((by first | exact X.indexAddrn rfl rfl Tryd.underlying22 sz_47 (by first | exact Option.some_ne_none _ | exact hR.some_ (by omega)) (by omega) | exact X.indexAddr rfl rfl Tryd.underlying22 sz_47 (by first | exact Option.some_ne_none _ | exact hR.some_ (by omega)) (by omega))) ?_
        refine L.va rfl (X.fieldP rfl Tryd.underlying47 rfl sz_45 (by decide) (by first | exact Option.some_ne_none _ | exact hR.some_ (by omega))) ?_
        refine L.va rfl (X.load rfl sc_45 (Ld.flat de_len hR hxi (r := 3) rfl)) ?_
        refine L.va rfl (X.len rfl Tryd.underlying45) ?_
        refine L.va rfl (X.gtr rfl rfl) ?_
        refine L.nil ?_
        refine J.dec rfl (fun h10 => ?_) (fun h10 => ?_)
        · have e : lightL xs = false := by
            unfold lightL
            rw [Bool.and_eq_false_iff]
            refine .inr ?_
            rw [List.all_eq_false]
            exact ⟨x, hxm, by simp; omega⟩
          rw [e]
          refine J.seq ?_
          refine J.region ?_
          refine L.va rfl (X.assign (by conv => lhs; whnf)) ?_
          refine L.nil ?_
          refine J.ret ?_
          refine inB_ret <|  thn_ret <|  thn_ret <|  inB_ret <|  thn_ret <| ?_
          refine fin1 ?_
          exact ⟨rfl, rfl⟩
        · refine J.skip ?_
          refine J.region ?_
          refine L.va rfl (X.move (by conv => lhs; whnf)) ?_
          refine L.va rfl (X.add rfl rfl (by omega)) ?_
          refine L.va rfl (X.assign (by conv => lhs; whnf)) ?_
          refine L.nil ?_
          refine ⟨i + 1, At1 (by first | rfl | exact at_int rfl (by omega) | exact at_slice rfl (by omega) | exact at_int rfl (by simp)), (by (iterate 14 refine Agr.lk rfl ?_); exact Agr.lk rfl (Agr.hav rfl Agr.rfl')), ?_⟩
          refine ⟨⟨rfl, by omega, fun j y hj hy => ?_⟩, by omega⟩
          rcases Nat.lt_or_ge j i with hj2 | hj2
          · exact hall j y hj2 hy
          · obtain rfl : j = i := by omega
            rw [hxi] at hy
            injection hy with hy
            subst hy
            omega
      · have e : lightL xs = true := by
          unfold lightL
          rw [Bool.and_eq_true]
          refine ⟨decide_eq_true (by omega), ?_⟩
          rw [List.all_eq_true]
          intro x hx
          obtain ⟨j, hj, rfl⟩ := List.getElem_of_mem hx
          have := hall j _ (by omega) (List.getElem?_eq_getElem hj)
          simp
          omega
        rw [e]
        refine J.exit ?_
        refine J.seq ?_
        refine J.region ?_
        refine L.va rfl (X.assign (by conv => lhs; whnf)) ?_
        refine L.nil ?_
        refine J.ret ?_
        refine fin1 ?_
        exact ⟨rfl, rfl⟩
def De.body (x : De) : List Int := [IntKind.u8.wrap x.n, IntKind.u8.wrap (IntKind.i64.wrap (x.n.tdiv 256))] ++ List.replicate (min x.n.toNat 3000) x.b
theorem De.body_len (x : De) : x.body.length = 2 + min x.n.toNat 3000 := by
  unfold De.body
  rw [List.length_append, List.length_replicate]
  rfl
theorem wu8_bd (z : Int) : 0 ≤ IntKind.u8.wrap z ∧ IntKind.u8.wrap z < 256 := by
  have e : IntKind.u8.wrap z = z % 256 := rfl
  rw [e]
  omega
theorem De.body_bytes {x : De} (hb : 0 ≤ x.b ∧ x.b < 256) : Bytes x.body := by
  intro z hz
  unfold De.body at hz
  rcases List.mem_append.1 hz with hz | hz
  · have hz : z ∈ [IntKind.u8.wrap x.n, IntKind.u8.wrap (IntKind.i64.wrap (x.n.tdiv 256))] := hz
    simp only [List.mem_cons, List.not_mem_nil, or_false] at hz
    rcases hz with rfl | rfl
    · exact wu8_bd _
    · exact wu8_bd _
  · obtain ⟨_, rfl⟩ := List.mem_replicate.1 hz
    exact hb
theorem body22 (x : De) (w : World) (hn : -9223372036854775808 ≤ x.n ∧ x.n ≤ 9223372036854775807) (hb : 0 ≤ x.b ∧ x.b < 256) :
    Calls Tryd.prog 13 #[x.v] w fun e w' => ∃ A c, e = .returned (.slice A x.body.length c) ∧ w'.ownsRow w.heap.size 5 1 (.slice A x.body.length c) x.body.length (nums .u8 x.body) ∧ Ext w w' := by
  rw [De.body_len]
  obtain ⟨pre, hpre⟩ : ∃ p, p = [IntKind.u8.wrap x.n, IntKind.u8.wrap (IntKind.i64.wrap (x.n.tdiv 256))] := ⟨_, rfl⟩
  have hpl : pre.length = 2 := by rw [hpre]; rfl
  have eB : x.body = pre ++ List.replicate (min x.n.toNat 3000) x.b := by rw [hpre]; rfl
  rw [eB]
  refine enter Tryd.func13 rfl (by kernel_rfl) ?_
  refine J.seq ?_
  refine J.region ?_
  refine L.boxA (l := [_, _, _, _]) rfl rfl ?_
  intro b1 w1 hb1 hs1 hk1 he1
  have hk1 : Blk w1 b1 47 #[.int .i64 x.kind, .int .i64 x.n, .int .u8 x.b, .slice x.kA x.kn x.kc] := hk1
  refine L.va rfl (X.assign (by conv => lhs; whnf)) ?_
  refine L.nil ?_
  refine J.seq ?_
  refine J.region ?_
  refine L.va rfl (X.fieldAddr rfl Tryd.underlying47 rfl sz_3 (by decide)) ?_
  refine L.va rfl (X.load rfl sc_3 (by first | exact Ld.blk hk1 rfl)) ?_
  refine L.va rfl ((by first | exact X.conv8 rfl is_3 Tryd.underlying5 (by omega) | exact X.convw rfl is_3 Tryd.underlying5)) ?_
  refine L.va rfl (X.fieldAddr rfl Tryd.underlying47 rfl sz_3 (by decide)) ?_
  refine L.va rfl (X.load rfl sc_3 (by first | exact Ld.blk hk1 rfl)) ?_
  refine L.va rfl (X.quow rfl rfl (by decide)) ?_
  refine L.va rfl ((by first | exact X.conv8 rfl is_3 Tryd.underlying5 (by omega) | exact X.convw rfl is_3 Tryd.underlying5)) ?_
  refine L.bslice (vs := [_, _]) rfl (Evs.cons (by conv => lhs; whnf) (Evs.cons (by conv => lhs; whnf) Evs.nil)) rfl rfl rfl rfl Tryd.underlying39 sz_5 zr_5 (by decide) ?_
  intro b2 w2 hb2 hs2 hk2 he2
  have hk12 : Blk w2 b1 47 #[.int .i64 x.kind, .int .i64 x.n, .int .u8 x.b, .slice x.kA x.kn x.kc] := hk1.ext he2
  have ho2 : w2.ownsRow w1.heap.size 5 1 (.slice (some ⟨b2, 0, none⟩) 2 2) 2 (nums .u8 pre) := blk_own1 (q := 2) (show Blk w2 b2 5 (nums .u8 pre).toArray by rw [hpre]; exact hk2) (by omega) (by decide) (by rw [hpre]; rfl)
  have he02 := he1.trans he2
  refine L.va rfl (X.assign (by conv => lhs; whnf)) ?_
  refine L.nil ?_
  refine J.seq ?_
  refine J.seq ?_
  refine J.region ?_
  refine L.va rfl (X.assign (by conv => lhs; whnf)) ?_
  refine L.nil ?_
  refine J.block ?_
  refine J.loop (X := Nat × (Option Addr × Nat)) [3, 4, 13, 14, 15, 16, 17, 18, 19, 20, 21, 22, 23, 24, 25, 26, 27] (fun (i, A, c) => [(4, .int .i64 (i : Int)), (3, .slice A (2 + i) c)]) (fun (i, A, c) w' => i ≤ min x.n.toNat 3000 ∧ w'.ownsRow w1.heap.size 5 1 (.slice A (2 + i) c) (2 + i) (nums .u8 (pre ++ List.replicate i x.b)) ∧ Ext w w' ∧ Blk w' b1 47 #[.int .i64 x.kind, .int .i64 x.n, .int .u8 x.b, .slice x.kA x.kn x.kc]) (fun (i, A, c) => min x.n.toNat 3000 - i) ((0, some ⟨b2, 0, none⟩, 2)) (At2 (by first | rfl | exact at_int rfl (by omega) | exact at_slice rfl (by omega) | exact at_int rfl (by simp)) (by first | rfl | exact at_int rfl (by omega) | exact at_slice rfl (by omega) | exact at_int rfl (by simp))) ?_ ?_
  · exact ⟨Nat.zero_le _, by simpa using ho2, he02, hk12⟩
  · rintro ⟨i, A, c⟩ g w3 ⟨hi, ho3, he3, hk3⟩
    have he3 : Ext w w3 := he3
    have z1 := he1.le
    refine J.seq ?_
    refine J.seq ?_
    refine J.region ?_
    refine L.va rfl (X.move (by conv => lhs; whnf)) ?_
    refine L.va rfl (X.fieldAddr rfl Tryd.underlying47 rfl sz_3 (by decide)) ?_
    refine L.va rfl (X.load rfl sc_3 (by first | exact Ld.blk hk3 rfl)) ?_
    refine L.va rfl (X.lss rfl rfl) ?_
    refine L.va rfl (X.move (by conv => lhs; whnf)) ?_
    refine L.caseDec (k := 17) rfl (fun h1 => ?_) (fun h1 => ?_)
    · refine L.va rfl (X.move (by conv => lhs; whnf)) ?_
      refine L.va rfl (X.lss rfl rfl) ?_
      refine L.va rfl (X.pickT rfl (by conv => lhs; whnf)) ?_
      refine L.nil ?_
      refine J.dec rfl (fun h2 => ?_) (fun h2 => ?_)
      · refine J.skip ?_
        refine J.seq ?_
        refine J.block ?_
        refine J.region ?_
        refine L.va rfl (X.move (by conv => lhs; whnf)) ?_
        refine L.va rfl (X.fieldAddr rfl Tryd.underlying47 rfl sz_5 (by decide)) ?_
        refine L.va rfl (X.load rfl sc_5 (by first | exact Ld.blk hk3 rfl)) ?_
        refine L.bslice (vs := [_]) rfl (Evs.cons (by conv => lhs; whnf) Evs.nil) rfl rfl rfl rfl Tryd.underlying39 sz_5 zr_5 (by decide) ?_
        intro b4 w4 hb4 hs4 hk4 he4
        have hk34 := hk3.ext he4
        have z3 := hk3.lt
        have z4 := he4.le
        refine L.appendQ (q := 2 + i + 1) (ys := (pre ++ List.replicate i x.b) ++ [x.b]) rfl rfl rfl Tryd.underlying39 el_5 ((ho3.ext he4)) ((blk_reads (q := 1) (l := nums .u8 [x.b]) hk4 hk4.lt rfl)) (by omega) (by simp) (by unfold maxLen; omega) (by omega) ?_
        intro A5 c5 w5 ho5 hg5 hb5 hor5
        have hk5 := hk34.grown hg5 (fun e => by have h1 := (own_isT ho3 e.symm).2; have h2 := hk1.lt; have h3 : b1 < w1.heap.size := h2; omega)
        have he45 : Ext w w5 := (he3.trans he4).low (hb5.mono z1) (Nat.le_refl _)
        refine L.va rfl (X.assign (by conv => lhs; whnf)) ?_
        refine L.nil ?_
        refine J.region ?_
        refine L.va rfl (X.move (by conv => lhs; whnf)) ?_
        refine L.va rfl (X.add rfl rfl (by omega)) ?_
        refine L.va rfl (X.assign (by conv => lhs; whnf)) ?_
        refine L.nil ?_
        refine ⟨(i + 1, A5, c5), At2 (by first | rfl | exact at_int rfl (by omega) | exact at_slice rfl (by omega) | exact at_int rfl (by simp)) (by first | rfl | exact at_int rfl (by omega) | exact at_slice rfl (by omega) | exact at_int rfl (by simp)), (by (iterate 18 refine Agr.lk rfl ?_); exact Agr.lk rfl (Agr.hav rfl Agr.rfl')), ?_⟩
        refine ⟨⟨by omega, ?_, he45, hk5⟩, by show min x.n.toNat 3000 - (i + 1) < min x.n.toNat 3000 - i; omega⟩
        rw [List.replicate_succ', ← List.append_assoc]
        exact ho5
      · obtain rfl : i = min x.n.toNat 3000 := by omega
        refine J.exit ?_
        refine J.seq ?_
        refine J.region ?_
        refine L.va rfl (X.move (by conv => lhs; whnf)) ?_
        refine L.va rfl (X.assign (by conv => lhs; whnf)) ?_
        refine L.nil ?_
        refine J.ret ?_
        refine fin1 ?_
        exact ⟨A, c, rfl, ho3.mono z1, he3⟩
    · refine L.no rfl ?_
      refine L.no rfl ?_
      refine L.va rfl (X.pickF rfl (by conv => lhs; whnf)) ?_
      refine L.nil ?_
      refine J.iteF rfl ?_
      obtain rfl : i = min x.n.toNat 3000 := by omega
      refine J.exit ?_
      refine J.seq ?_
      refine J.region ?_
      refine L.va rfl (X.move (by conv => lhs; whnf)) ?_
      refine L.va rfl (X.assign (by conv => lhs; whnf)) ?_
      refine L.nil ?_
      refine J.ret ?_
      refine fin1 ?_
      exact ⟨A, c, rfl, ho3.mono z1, he3⟩
structure Bos (w : World) (B : Nat) (A : Option Addr) (bs : List Bo) : Prop where
  hr : Reads w B 1 A bs.length (bs.map Bo.v)
  el : ∀ b ∈ bs, Reads w B 1 b.A b.l.length (nums .u8 b.l)
theorem bytes22 {A B : Option Addr} {cA cB M : Nat} {as_ bs : List Bo} {w : World} (h1 : Bos w M A as_) (h2 : Bos w M B bs) (hM : M ≤ w.heap.size) (he : as_.map Bo.l = bs.map Bo.l) (hl : bs.length ≤ 1000000) :
    Calls Tryd.prog 19 #[.slice A as_.length cA, .slice B bs.length cB] w fun e w' => e = .returned (.bool true) ∧ Ext w w' := by
  have hlen : as_.length = bs.length := by have := congrArg List.length he; simpa using this
  have hR1 := h1.hr
  have hR2 := h2.hr
  rw [hlen] at hR1 ⊢
  obtain ⟨n, hn⟩ : ∃ n, n = bs.length := ⟨_, rfl⟩
  rw [← hn] at hR1 hR2 hl hlen ⊢
  refine enter Tryd.func19 rfl (by kernel_rfl) ?_
  refine J.seq ?_
  refine J.region ?_
  refine L.va rfl (X.assign (by conv => lhs; whnf)) ?_
  refine L.nil ?_
  refine J.seq ?_
  refine J.seq ?_
  refine J.region ?_
  refine L.va rfl (X.move (by conv => lhs; whnf)) ?_
  refine L.va rfl (X.len rfl Tryd.underlying30) ?_
  refine L.va rfl (X.move (by conv => lhs; whnf)) ?_
  refine L.va rfl (X.len rfl Tryd.underlying30) ?_
  refine L.va rfl (X.neq rfl rfl) ?_
  refine L.nil ?_
  refine J.ndecF rfl (by omega) ?_
  refine J.skip ?_
  refine J.seq ?_
  refine J.seq ?_
  refine J.region ?_
  refine L.va rfl (X.assign (by conv => lhs; whnf)) ?_
  refine L.nil ?_
  refine J.block ?_
  refine J.loop (X := Nat) [4, 5, 11, 12, 13, 14, 15, 16, 17, 18, 19, 20, 21, 22, 23, 24, 25, 26, 27] (fun i => [(5, .int .i64 (i : Int))]) (fun i w' => i ≤ n ∧ Ext w w') (fun i => n - i) (0) (At1 (by first | rfl | exact at_int rfl (by omega) | exact at_slice rfl (by omega) | exact at_int rfl (by simp))) ?_ ?_
  · exact ⟨Nat.zero_le _, Ext.refl _⟩
  · rintro i g w2 ⟨hi, he2⟩
    have he2 : Ext w w2 := he2
    have hR12 := hR1.low he2 hM
    have hR22 := hR2.low he2 hM
    refine J.seq ?_
    refine J.seq ?_
    refine J.region ?_
    refine L.va rfl (X.move (by conv => lhs; whnf)) ?_
    refine L.va rfl (X.move (by conv => lhs; whnf)) ?_
    refine L.va rfl (X.len rfl Tryd.underlying30) ?_
    refine L.va rfl (X.lss rfl rfl) ?_
    refine L.nil ?_
    refine J.dec rfl (fun hlt => ?_) (fun hlt => ?_)
    · have hi' : i < n := by omega
      obtain ⟨a, ha⟩ : ∃ a, as_[i]? = some a := ⟨_, List.getElem?_eq_getElem (by omega)⟩
      obtain ⟨b, hb⟩ : ∃ b, bs[i]? = some b := ⟨_, List.getElem?_eq_getElem (by omega)⟩
      have eab : a.l = b.l := by
        have e1 := congrArg (fun l => l[i]?) he
        simp only [List.getElem?_map, ha, hb, Option.map_some] at e1
        injection e1
      have ra := (h1.el a (List.mem_of_getElem? ha)).low he2 hM
      have rb := (h2.el b (List.mem_of_getElem? hb)).low he2 hM
      have va : (as_.map Bo.v).getD i undef = a.v := by simp [List.getD, ha]
      have vb : (bs.map Bo.v).getD i undef = b.v := by simp [List.getD, hb]
      have z2 := he2.le
      refine J.skip ?_
      refine J.seq ?_
      refine J.block ?_
      refine J.seq ?_
      have la : ∀ {w' : World}, Ext w2 w' → Ld w' (pA A i) a.v := fun h => by rw [← va]; exact Ld.rd (hR12.ext h) (by omega)
      have lb : ∀ {w' : World}, Ext w2 w' → Ld w' (pA B i) b.v := fun h => by rw [← vb]; exact Ld.rd (hR22.ext h) (by omega)
      have nA : A ≠ none := hR12.some_ (by omega)
      have nB : B ≠ none := hR22.some_ (by omega)
      refine J.draw (ℓ := 1000000) (S := Ext w2) mixed (fun w3 hS hS_h => ?_)
      refine D.va 0 rfl (by kernel_rfl) (fun _ _ _ h => h) rfl (fun w' hw => X.move (by conv => lhs; whnf)) hS ?_
      refine D.va 1 rfl (by kernel_rfl) (fun _ _ _ h => h) rfl (fun w' hw => X.move (by conv => lhs; whnf)) hS ?_
      refine D.va 2 rfl (by kernel_rfl) (fun _ _ _ h => h) rfl (fun w' hw => (by first | exact X.index1n rfl rfl Tryd.underlying30 sz_39 (by first | exact Option.some_ne_none _ | exact la hw | exact lb hw | exact nA | exact nB) (by omega) | exact X.index1 rfl rfl Tryd.underlying30 sz_39 (by first | exact Option.some_ne_none _ | exact la hw | exact lb hw | exact nA | exact nB) (by omega))) hS ?_
      refine D.va 3 rfl (by kernel_rfl) (fun _ _ _ h => h) rfl (fun w' hw => X.load rfl sc_39 (by first | exact la hw | exact lb hw | exact nA | exact nB)) hS ?_
      refine D.va 4 rfl (by kernel_rfl) (fun _ _ _ h => h) rfl (fun w' hw => X.conv rfl (((ra.ext hw).more (Nat.le_trans (Nat.le_trans hM z2) (Ext.le hw))).conv (c := a.c) Tryd.underlying39 Tryd.underlying5 Tryd.underlying9)) hS ?_
      refine D.va 5 rfl (by kernel_rfl) (fun _ _ _ h => h) rfl (fun w' hw => X.move (by conv => lhs; whnf)) hS ?_
      refine D.va 6 rfl (by kernel_rfl) (fun _ _ _ h => h) rfl (fun w' hw => X.move (by conv => lhs; whnf)) hS ?_
      refine D.va 7 rfl (by kernel_rfl) (fun _ _ _ h => h) rfl (fun w' hw => (by first | exact X.index1n rfl rfl Tryd.underlying30 sz_39 (by first | exact Option.some_ne_none _ | exact la hw | exact lb hw | exact nA | exact nB) (by omega) | exact X.index1 rfl rfl Tryd.underlying30 sz_39 (by first | exact Option.some_ne_none _ | exact la hw | exact lb hw | exact nA | exact nB) (by omega))) hS ?_
      refine D.va 8 rfl (by kernel_rfl) (fun _ _ _ h => h) rfl (fun w' hw => X.load rfl sc_39 (by first | exact la hw | exact lb hw | exact nA | exact nB)) hS ?_
      refine D.va 9 rfl (by kernel_rfl) (fun _ _ _ h => h) rfl (fun w' hw => X.conv rfl (((rb.ext hw).more (Nat.le_trans (Nat.le_trans hM z2) (Ext.le hw))).conv (c := b.c) Tryd.underlying39 Tryd.underlying5 Tryd.underlying9)) hS ?_
      refine D.va 10 rfl (by kernel_rfl) (fun _ _ _ h => h) rfl (fun w' hw => X.neqS rfl rfl) hS ?_
      refine D.done (by kernel_rfl) ?_
      refine J.ndecF rfl (by rw [eab]) ?_
      refine J.skip ?_
      refine J.region ?_
      refine L.va rfl (X.move (by conv => lhs; whnf)) ?_
      refine L.va rfl (X.add rfl rfl (by omega)) ?_
      refine L.va rfl (X.assign (by conv => lhs; whnf)) ?_
      refine L.nil ?_
      refine ⟨i + 1, At1 (by first | rfl | exact at_int rfl (by omega) | exact at_slice rfl (by omega) | exact at_int rfl (by simp)), (by (iterate 18 refine Agr.lk rfl ?_); exact Agr.lk rfl (Agr.hav rfl Agr.rfl')), ?_⟩
      exact ⟨⟨by omega, he2.trans hS⟩, by omega⟩
    · refine J.exit ?_
      refine J.seq ?_
      refine J.region ?_
      refine L.va rfl (X.assign (by conv => lhs; whnf)) ?_
      refine L.nil ?_
      refine J.ret ?_
      refine fin1 ?_
      exact ⟨rfl, he2⟩
end Go.Proofs.YtjdimgigbgafbaaDoor
namespace Go.Proofs.YtjdimgigbgafbaaDoor
set_option maxRecDepth 100000
open Go.RowKit H
open Lo Byts Seal Fram
set_option linter.unusedVariables false
structure SvAt (w0 : World) (v0 : Dk) (i : Nat) (G : Lg) (v : Dk) (kA : Option Addr) (kc : Nat) (bs : List Bo) (r0 : List (List Int)) (w : World) : Prop where
  at_ : G.At v w0.heap.size (· < w0.heap.size) w
  d : v.d = v0.d
  kb : v.kb = v0.kb
  inv : ∃ nx0, Inv 1 5 7 v.abs G.st r0 (bs.map Bo.l) nx0
  both : Both v.abs G.st 6 (8 * i + 10)
  row : w.ownsRow w0.heap.size 39 1 (.slice kA bs.length kc) bs.length (bs.map Bo.v)
  els : ∀ b ∈ bs, w.ownsRow w0.heap.size 5 1 b.v b.l.length (nums .u8 b.l)
  sep : ∀ b ∈ bs, ∀ g, b.v.ownBlock = some g → G.ss.ownBlock ≠ some g
  sepk : ∀ g, Value.ownBlock (.slice kA bs.length kc) = some g → g ≠ v.kb
  low : Ext w0 w
  few : bs.length ≤ 1000 + i
structure Bes (N : Nat) (kb : Nat) (ss : Value) (kA : Option Addr) (kc : Nat) (bs : List Bo) (w : World) : Prop where
  row : w.ownsRow N 39 1 (.slice kA bs.length kc) bs.length (bs.map Bo.v)
  els : ∀ b ∈ bs, w.ownsRow N 5 1 b.v b.l.length (nums .u8 b.l)
  sep : ∀ b ∈ bs, ∀ g, b.v.ownBlock = some g → ss.ownBlock ≠ some g
  sepk : ∀ g, Value.ownBlock (.slice kA bs.length kc) = some g → g ≠ kb
theorem Bes.ext {N kb : Nat} {ss : Value} {kA : Option Addr} {kc : Nat} {bs : List Bo} {w w' : World} (h : Bes N kb ss kA kc bs w) (he : Ext w w') : Bes N kb ss kA kc bs w' :=
  ⟨h.row.ext he, fun b hb => (h.els b hb).ext he, h.sep, h.sepk⟩
theorem Bes.chg {N : Nat} {C : Nat → Prop} {G G' : Lg} {v v' : Dk} {kA : Option Addr} {kc : Nat} {bs : List Bo} {w w' : World} (h : Bes N v.kb G.ss kA kc bs w) (hA : G.At v N C w) (hC : Chg (G.LS v C w) w w') (hg : Lg.Gr G G' w.heap.size) (hk : v'.kb = v.kb) : Bes N v'.kb G'.ss kA kc bs w' := by
  refine ⟨hC.own h.row fun g hg hS => ?_, fun b hb => hC.own (h.els b hb) fun g hg hS => ?_, fun b hb g hgb hs => ?_, fun g hgk => by rw [hk]; exact h.sepk g hgk⟩
  · have hT := (own_isT h.row hg).1
    rcases hS with h1 | h1 | ⟨h1, _⟩ | h1 | h1 | h1
    · exact h.sepk g hg h1
    · subst h1; exact absurd (hT.fun_ hA.hd.dT) (by decide)
    · exact absurd (hT.fun_ h1) (by decide)
    · subst h1; exact absurd (hT.fun_ hA.hb.isT) (by decide)
    · exact absurd (hT.fun_ (hA.hs.own h1).1) (by decide)
    · exact absurd (hT.fun_ (own_isT hA.ht h1).1) (by decide)
  · have hT := (own_isT (h.els b hb) hg).1
    rcases hS with h1 | h1 | ⟨h1, _⟩ | h1 | h1 | h1
    · subst h1; exact absurd (hT.fun_ hA.hd.kT.1) (by decide)
    · subst h1; exact absurd (hT.fun_ hA.hd.dT) (by decide)
    · exact absurd (hT.fun_ h1) (by decide)
    · subst h1; exact absurd (hT.fun_ hA.hb.isT) (by decide)
    · exact h.sep b hb g hg h1
    · exact absurd (hT.fun_ (own_isT hA.ht h1).1) (by decide)
  · rcases hg.s g hs with h1 | h1
    · exact h.sep b hb g hgb h1
    · obtain ⟨cs, hcs⟩ := (own_isT (h.els b hb) hgb).1
      have hcs : Blk w g 5 cs := hcs
      have := hcs.lt
      omega
theorem Kq.ls {G : Lg} {v : Dk} {C : Nat → Prop} {w w' : World} (k : Kq v.kb v.d C w w') : Chg (G.LS v C w) w w' := k.chg.mono fun g hS => by
  rcases hS with h | h | h
  · exact .inl h
  · exact .inr (.inl h)
  · exact .inr (.inr (.inl h))
theorem SvAt.bes {w0 : World} {v0 : Dk} {i : Nat} {G : Lg} {v : Dk} {kA : Option Addr} {kc : Nat} {bs : List Bo} {r0 : List (List Int)} {w : World} (h : SvAt w0 v0 i G v kA kc bs r0 w) : Bes w0.heap.size v.kb G.ss kA kc bs w := ⟨h.row, h.els, h.sep, h.sepk⟩
theorem SvAt.of {w0 : World} {v0 : Dk} {i : Nat} {G : Lg} {v : Dk} {kA : Option Addr} {kc : Nat} {bs : List Bo} {r0 : List (List Int)} {w : World} (hb : Bes w0.heap.size v.kb G.ss kA kc bs w) (h1 : G.At v w0.heap.size (· < w0.heap.size) w) (h2 : v.d = v0.d) (h3 : v.kb = v0.kb) (h4 : ∃ nx0, Inv 1 5 7 v.abs G.st r0 (bs.map Bo.l) nx0) (h5 : Both v.abs G.st 6 (8 * i + 10)) (h6 : Ext w0 w) (h7 : bs.length ≤ 1000 + i) : SvAt w0 v0 i G v kA kc bs r0 w :=
  ⟨h1, h2, h3, h4, h5, hb.row, hb.els, hb.sep, hb.sepk, h6, h7⟩
def z6 : Ds := ⟨List.replicate 6 zZ2, [], false, -1, 0, 0, 0⟩
theorem z6_now (a : Nat) (h : a < 6) : z6.now a = zZ2 := by
  show (List.replicate 6 zZ2).getD a [] = zZ2
  rw [List.getD, List.getElem?_replicate, if_pos h]
  rfl
theorem z6_open : opK (kp z6 1) 7 5 = ⟨1, false, [], []⟩ := by
  have e : ∀ (i : Nat) (o : Lo.Os), opStep 7 i zZ2 o = ⟨o.nx, false, o.tm, o.sm⟩ := by
    intro i o
    unfold opStep opNx
    rw [zZ2_no, Bool.and_false, Bool.false_and]
    rfl
  have h : ∀ j < 5, kp z6 1 j = (fun _ => zZ2) j := fun j hj => z6_now (1 + j) (by omega)
  have h2 : opK (kp z6 1) 7 5 = opK (fun _ => zZ2) 7 5 := opK_same h
  rw [h2]
  show opStep 7 4 zZ2 (opStep 7 3 zZ2 (opStep 7 2 zZ2 (opStep 7 1 zZ2 (opStep 7 0 zZ2 ⟨1, true, [], []⟩)))) = _
  rw [e, e, e, e, e]
theorem z6_inv : Inv 1 5 7 z6 (openL z6 1 5 7) [] [] (opK (kp z6 1) 7 5).nx ∧ recs (opI z6 1 7 5).sm = [] := by
  have h : ∀ j < 5, kp z6 1 j = zZ2 := fun j hj => z6_now (1 + j) (by omega)
  refine open_inv (t := []) rfl (by decide) (fun j hj => by rw [h j hj]; exact zZ2_bytes) ?_ (fun j hj hk => ?_)
  · rw [z6_open]
    exact ⟨rfl, (fun b hb => by cases hb), gE_nil⟩
  · rw [h j hj, zZ2_no] at hk
    cases hk
theorem z6_ok : z6.Ok 5 := by
  refine ⟨by decide, ?_, (fun x hx => by cases hx), by decide, by decide⟩
  intro x hx
  obtain ⟨_, rfl⟩ := List.mem_replicate.1 hx
  exact zZ2_len
theorem z6_by : Byte z6 := by
  refine ⟨?_, (fun x hx => by cases hx)⟩
  intro x hx
  obtain ⟨_, rfl⟩ := List.mem_replicate.1 hx
  exact zZ2_bytes
theorem law_LogSurvives (w : World) (ht : Tab w) (A0 : Option Addr) (n0 c0 : Nat) (xs0 : List ((Nm .i64) × (Nm .i64) × (Nm .u8) × (List (Bool)))) (hn0 : n0 ≤ c0) (hc0 : c0 ≤ maxLen) (hA0 : A0 = none → c0 = 0) (hl0 : LiesSlice w w.heap.size A0 n0 xs0) :
    Calls Tryd.prog 5 #[.slice A0 n0 c0] w fun e w' => e = .returned (.bool true) ∧ Below w.heap.size w w' := by
  obtain ⟨ds, hds⟩ := des_of hl0
  have hdn := hds.hn
  refine enter Tryd.func5 rfl (by kernel_rfl) ?_
  refine J.seq ?_
  refine J.region ?_
  refine L.va rfl (X.assign (by conv => lhs; whnf)) ?_
  refine L.nil ?_
  refine J.seq ?_
  refine J.seq ?_
  refine J.region ?_
  refine L.va rfl (X.move (by conv => lhs; whnf)) ?_
  refine L.call rfl en_6 rfl ((light22 hds (by omega))) ?_
  rintro e _ ⟨rfl, rfl⟩
  refine ⟨_, rfl, ?_⟩
  refine L.va rfl (X.not rfl) ?_
  refine L.nil ?_
  cases hL : lightL ds
  · refine J.iteT rfl ?_
    refine J.seq ?_
    refine J.region ?_
    refine L.call rfl en_7 rfl (awake22 w ht) ?_
    rintro e w1 ⟨rfl, he1⟩
    refine ⟨_, rfl, ?_⟩
    refine L.va rfl (X.assign (by conv => lhs; whnf)) ?_
    refine L.nil ?_
    refine J.ret ?_
    refine thn_ret <| ?_
    refine fin1 ?_
    exact ⟨rfl, he1⟩
  · obtain ⟨l40, lk100⟩ := lightL_of hL
    refine J.iteF rfl ?_
    refine J.skip ?_
    refine J.seq ?_
    refine J.region ?_
    refine L.call rfl en_8 rfl (new_ok 6 (by omega)) ?_
    rintro e w1 ⟨v0, rfl, hv0, k1, k2, k3, k4, k5, k6, k7, he1⟩
    refine ⟨_, rfl, ?_⟩
    have he1 : Ext w w1 := he1
    have a0 : v0.abs = z6 := by
      unfold Dk.abs abs_
      rw [show v0.kp.map (·.2) = v0.dat from rfl, k7, k1, k2, k3, k4, k5, k6]
      rfl
    have hkl : v0.kp.length = 6 := by rw [← v0.klen, a0]; rfl
    refine L.va rfl (X.move (by conv => lhs; whnf)) ?_
    refine L.va rfl (X.extract rfl rfl) ?_
    refine L.va rfl (X.extract rfl rfl) ?_
    refine L.va rfl (X.assign (by conv => lhs; whnf)) ?_
    refine L.va rfl (X.assign (by conv => lhs; whnf)) ?_
    refine L.nil ?_
    refine J.seq ?_
    refine J.region ?_
    refine L.va rfl (X.move (by conv => lhs; whnf)) ?_
    refine L.call rfl en_10 rfl (lopen hv0 (by rw [a0]; exact z6_ok) (by omega) k1 (by rw [a0]; exact z6_by) (tabx ht he1) ht.size 1 5 (by omega) (by omega) (by omega) 7 (by omega)) ?_
    rintro e w2 ⟨G2, v2, A2, c2, bs2, rfl, O2⟩
    refine ⟨_, rfl, ?_⟩
    have B2 : Ext w w2 := Below.trans he1 (hv0.below O2.kq)
    have eb2 : bs2 = [] := by
      have h := O2.rec_
      rw [a0, z6_inv.2] at h
      exact List.map_eq_nil_iff.1 h
    subst eb2
    have S0 : SvAt w v0 0 G2 v2 A2 c2 [] [] w2 := by
      have hs := O2.st
      have ha := O2.ab
      rw [a0] at hs ha
      refine ⟨O2.at_, O2.d, O2.kb, ⟨_, by rw [ha, hs]; exact z6_inv.1.same rfl rfl⟩, by rw [ha, hs]; exact (Both.open_ (n := 6) z6_ok z6_by rfl (by omega) (by omega) (by omega)).more (by omega), O2.row.mono he1.le, (fun b hb => by cases hb), (fun b hb => by cases hb), fun g hg => ?_, B2, by show 0 ≤ _; omega⟩
      have h1 := (own_isT O2.row hg).2
      have h2 := (hv0.hk.lt v0.kb rfl).2
      rw [O2.kb]
      omega
    refine L.va rfl (X.move (by conv => lhs; whnf)) ?_
    refine L.va rfl (X.extract rfl rfl) ?_
    refine L.va rfl (X.extract rfl rfl) ?_
    refine L.va rfl (X.extract rfl rfl) ?_
    refine L.va rfl (X.assign (by conv => lhs; whnf)) ?_
    refine L.va rfl (X.assign (by conv => lhs; whnf)) ?_
    refine L.va rfl (X.assign (by conv => lhs; whnf)) ?_
    refine L.nil ?_
    refine J.seq ?_
    refine J.seq ?_
    refine J.region ?_
    refine L.va rfl (X.move (by conv => lhs; whnf)) ?_
    refine L.va rfl (X.neq rfl rfl) ?_
    refine L.va rfl (X.move (by conv => lhs; whnf)) ?_
    refine L.caseNdecF (k := 33) rfl (by rfl) ?_
    refine L.va rfl (X.move (by conv => lhs; whnf)) ?_
    refine L.va rfl (X.neq rfl rfl) ?_
    refine L.va rfl (X.pickF rfl (by conv => lhs; whnf)) ?_
    refine L.va rfl (X.move (by conv => lhs; whnf)) ?_
    refine L.caseNdecF (k := 37) rfl (by rfl) ?_
    refine L.va rfl (X.move (by conv => lhs; whnf)) ?_
    refine L.va rfl (X.len rfl Tryd.underlying30) ?_
    refine L.va rfl (X.neq rfl rfl) ?_
    refine L.va rfl (X.pickF rfl (by conv => lhs; whnf)) ?_
    refine L.nil ?_
    refine J.iteF rfl ?_
    refine J.skip ?_
    refine J.seq ?_
    refine J.region ?_
    refine L.va rfl (X.assign (by conv => lhs; whnf)) ?_
    refine L.va rfl (X.assign (by conv => lhs; whnf)) ?_
    refine L.nil ?_
    refine J.seq ?_
    refine J.seq ?_
    refine J.region ?_
    refine L.va rfl (X.assign (by conv => lhs; whnf)) ?_
    refine L.nil ?_
    refine J.block ?_
    refine J.loop (X := Nat × Lg × Dk × (Option Addr × Nat × Nat) × List Bo × List (List Int) × Bool) [2, 5, 6, 8, 9, 10, 11, 12, 13, 14, 15, 16, 42, 43, 44, 45, 46, 47, 48, 49, 50, 51, 52, 53, 54, 55, 56, 57, 58, 59, 60, 61, 62, 63, 64, 65, 66, 67, 68, 69, 70, 71, 72, 73, 74, 75, 76, 77, 78, 79, 80, 81, 82, 83, 84, 85, 86, 87, 88, 89, 90, 91, 92, 93, 94, 95, 96, 97, 98, 99, 100, 101, 102, 103, 104, 105, 106, 107, 108, 109, 110, 111, 112, 113, 114, 115, 116, 117, 118, 119, 120, 121, 122, 123, 124, 125, 126, 127, 128, 129, 130, 131, 132, 133, 134, 135, 136, 137, 138, 139] (fun (i, G, v, (kA, kc, m), bs, r0, o) => [(10, .int .i64 (i : Int)), (5, G.ptr), (6, .slice kA m kc), (8, .int .i64 (r0.length : Int)), (9, .bool o)]) (fun (i, G, v, (kA, kc, m), bs, r0, o) w' => i ≤ n0 ∧ o = decide (G.st.bad ≠ 0) ∧ m = bs.length ∧ SvAt w v0 i G v kA kc bs r0 w') (fun (i, _) => n0 - i) ((0, G2, v2, (A2, c2, 0), [], [], false)) (At5 (by first | rfl | exact at_int rfl (by omega) | exact at_slice rfl (by omega) | exact at_int rfl (by simp)) (by first | rfl | exact at_int rfl (by omega) | exact at_slice rfl (by omega) | exact at_int rfl (by simp)) (by first | rfl | exact at_int rfl (by omega) | exact at_slice rfl (by omega) | exact at_int rfl (by simp)) (by first | rfl | exact at_int rfl (by omega) | exact at_slice rfl (by omega) | exact at_int rfl (by simp)) (by first | rfl | exact at_int rfl (by omega) | exact at_slice rfl (by omega) | exact at_int rfl (by simp))) ?_ ?_
    · exact ⟨Nat.zero_le _, by rw [O2.st]; rfl, rfl, S0⟩
    · rintro ⟨i, G, v, ⟨kA, kc, m⟩, bs, r0, o⟩ g w3 ⟨hi, ho, rfl, H⟩
      have hds3 := hds.low H.low
      have hR3 := hds3.hr
      have e0 : v.ptr = v0.ptr := by unfold Dk.ptr; rw [H.d]
      have hfb : o = false → G.st.bad = 0 := fun h => by rw [ho] at h; exact Decidable.byContradiction fun q => absurd h (by simp [q])
      have hft : o = true → G.st.bad ≠ 0 := fun h => by rw [ho] at h; exact of_decide_eq_true h
      refine J.seq ?_
      refine J.seq ?_
      refine J.region ?_
      refine L.va rfl (X.move (by conv => lhs; whnf)) ?_
      refine L.va rfl (X.move (by conv => lhs; whnf)) ?_
      refine L.va rfl (X.len rfl Tryd.underlying22) ?_
      refine L.va rfl (X.lss rfl rfl) ?_
      refine L.nil ?_
      refine J.dec rfl (fun hlt => ?_) (fun hlt => ?_)
      · have hlt : i < n0 := by omega
        obtain ⟨x, hxi, hxm, hxA⟩ := hds3.row hlt
        have hxk := lk100 x hxm
        refine J.skip ?_
        refine J.seq ?_
        refine J.block ?_
        refine J.seq ?_
        refine J.region ?_
        refine L.va rfl (X.move (by conv => lhs; whnf)) ?_
        refine L.va rfl (X.move (by conv => lhs; whnf)) ?_
        refine L.va rfl ((by first | exact X.indexAddrn rfl rfl Tryd.underlying22 sz_47 (by first | exact Option.some_ne_none _ | exact hR3.some_ (by omega)) (by omega) | exact X.indexAddr rfl rfl Tryd.underlying22 sz_47 (by first | exact Option.some_ne_none _ | exact hR3.some_ (by omega)) (by omega))) ?_
        refine L.va rfl (X.loadRow (cs := x.vals) rfl hR3 (fun r u hu => flat_row de_len hxi r u hu) (Nat.zero_lt_succ _) Tryd.underlying47 rfl (by kernel_rfl)) ?_
        refine L.alloc rfl zr_47 ?_
        intro b4 w4 hb4 hs4 hk4 he4
        refine L.storeAgg (vs := [_, _, _, _]) rfl rfl rfl rfl sz_47 (hk4) rfl ?_
        intro w5 hk5 hg5 hs5
        have he35 : Ext w3 w5 := he4.grw hg5 (by intro g hg; injection hg with hg; omega)
        have hk5 : Blk w5 b4 47 #[.int .i64 x.kind, .int .i64 x.n, .int .u8 x.b, .slice x.kA x.kn x.kc] := hk5
        have A5 := H.at_.ext he35
        have E5 := H.bes.ext he35
        have Bo5 := H.both
        obtain ⟨nx0, I5⟩ := H.inv
        have low5 : Ext w w5 := H.low.trans he35
        have few := H.few
        have hkT : ∀ {G' : Lg} {v' : Dk} {u u' : World}, G'.At v' w.heap.size (· < w.heap.size) u → Chg (G'.LS v' (· < w.heap.size) u) u u' → Blk u b4 47 x.vals.toArray → Blk u' b4 47 x.vals.toArray := fun hA hC hb => hC.blk hb (by
          rintro (h1 | h1 | ⟨h1, _⟩ | h1 | h1 | h1)
          · subst h1; exact absurd (hb.isT.fun_ hA.hd.kT.1) (by decide)
          · subst h1; exact absurd (hb.isT.fun_ hA.hd.dT) (by decide)
          · exact absurd (hb.isT.fun_ h1) (by decide)
          · subst h1; exact absurd (hb.isT.fun_ hA.hb.isT) (by decide)
          · exact absurd (hb.isT.fun_ (hA.hs.own h1).1) (by decide)
          · exact absurd (hb.isT.fun_ (own_isT hA.ht h1).1) (by decide))
        refine L.nil ?_
        refine J.cut (X := Lg × Dk × (Option Addr × Nat × Nat) × List Bo × List (List Int) × Bool) [6, 8, 9, 12, 13, 52, 53, 54, 55, 56, 57, 58, 59, 60, 61, 62, 63, 64, 65, 66, 67, 68, 69, 70, 71, 72, 73, 74, 75, 76, 77, 78, 79, 80, 81, 82, 83, 84, 85, 86, 87, 88, 89, 90, 91, 92, 93, 94, 95, 96, 97, 98] (fun (G', v', (kA', kc', m'), bs', r0', o') => [(5, G'.ptr), (6, .slice kA' m' kc'), (8, .int .i64 (r0'.length : Int)), (9, .bool o')]) (fun (G', v', (kA', kc', m'), bs', r0', o') w' => o' = decide (G'.st.bad ≠ 0) ∧ m' = bs'.length ∧ ((x.kind ≠ 2 ∧ SvAt w v0 (i + 1) G' v' kA' kc' bs' r0' w') ∨ (x.kind = 2 ∧ SvAt w v0 i G' v' kA' kc' bs' r0' w')) ∧ Blk w' b4 47 x.vals.toArray) ?_ ?_
        · refine J.seq ?_
          refine J.region ?_
          refine L.va rfl (X.fieldAddr rfl Tryd.underlying47 rfl sz_3 (by decide)) ?_
          refine L.va rfl (X.load rfl sc_3 (by first | exact Ld.rd hR3 (by omega) | exact Ld.blk hk5 rfl)) ?_
          refine L.nil ?_
          refine J.block ?_
          refine J.seq ?_
          refine J.region ?_
          refine L.va rfl (X.eql rfl rfl) ?_
          refine L.va rfl (X.assign (by conv => lhs; whnf)) ?_
          refine L.nil ?_
          refine J.dec rfl (fun h0 => ?_) (fun h0 => ?_)
          · refine J.seq ?_
            refine J.region ?_
            refine L.va rfl (X.move (by conv => lhs; whnf)) ?_
            refine L.va rfl ((by first | exact X.loadAgg rfl (range_l hk5) Tryd.underlying47 rfl (by kernel_rfl) | exact X.loadAgg rfl (range_blk hk5) Tryd.underlying47 rfl (by kernel_rfl))) ?_
            refine L.call rfl en_13 rfl (body22 x w5 hxA.hn hxA.hb) ?_
            rintro e w6 ⟨A6, c6, rfl, ho6, he6⟩
            refine ⟨_, rfl, ?_⟩
            have he6 : Ext w5 w6 := he6
            have A6' := A5.ext he6
            have E6 := E5.ext he6
            have bl := x.body_len
            obtain ⟨R, hR⟩ : ∃ R, R = appL v.abs G.st x.body := ⟨_, rfl⟩
            have K := lappend A6' Bo5.ok (by omega) (by rw [show v.kp.length = 6 from by rw [← v.klen]; exact Bo5.kl]; exact Bo5.lo) A6 x.body.length c6 x.body (Reads.of_own ho6) (De.body_bytes hxA.hb) (by omega)
            rw [← hR] at K
            have IA := I5.app (by omega) (by omega) Bo5.lo.sb x.body (De.body_bytes hxA.hb)
            have BA := Bo5.app x.body (De.body_bytes hxA.hb)
            rw [← hR] at IA BA
            refine L.call rfl en_12 rfl (K) ?_
            rintro e w7 ⟨rfl, G7, v7, A7, d7, kk7, a7, s7, ch7, g7⟩
            refine ⟨_, rfl, ?_⟩
            have E7 := E6.chg A6' ch7 g7 kk7
            have k7 := hkT A6' ch7 (hk5.ext he6)
            have k7 : Blk w7 b4 47 #[.int .i64 x.kind, .int .i64 x.n, .int .u8 x.b, .slice x.kA x.kn x.kc] := k7
            have low7 : Ext w w7 := Below.trans (low5.trans he6) (A6'.below ch7)
            have eP7 : G.ptr = G7.ptr := by unfold Lg.ptr; rw [g7.p]
            obtain ⟨Bz, hBz⟩ : ∃ Bz : World → Prop, Bz = fun w' => G7.At v7 w.heap.size (· < w.heap.size) w' ∧ Blk w' b4 47 #[.int .i64 x.kind, .int .i64 x.n, .int .u8 x.b, .slice x.kA x.kn x.kc] ∧ Ext w w' := ⟨_, rfl⟩
            have eBz : ∀ u, (G7.At v7 w.heap.size (· < w.heap.size) u ∧ Blk u b4 47 #[.int .i64 x.kind, .int .i64 x.n, .int .u8 x.b, .slice x.kA x.kn x.kc] ∧ Ext w u) = Bz u := fun u => by rw [hBz]
            refine L.va rfl (X.assign (by conv => lhs; whnf)) ?_
            refine L.nil ?_
            refine J.cut (X := (Option Addr × Nat × Nat) × List Bo) [6, 60, 61, 62, 63, 64, 65, 66, 67, 68, 69, 70, 71, 72, 73, 74] (fun ((kA', kc', m'), bs') => [(6, .slice kA' m' kc')]) (fun ((kA', kc', m'), bs') w' => m' = bs'.length ∧ bs'.map Bo.l = (if R.2.2 = 0 ∨ (R.2.2 = 14 ∧ G.st.bad = 0) then bs.map Bo.l ++ [x.body] else bs.map Bo.l) ∧ Bes w.heap.size v7.kb G7.ss kA' kc' bs' w' ∧ Bz w' ∧ bs'.length ≤ bs.length + 1) ?_ ?_
            · have PUSH : ∀ {A8 c8 w8 w9 w10 A10 c10}, w8.ownsRow w7.heap.size 5 1 (.slice A8 x.body.length c8) x.body.length (nums .u8 x.body) → Ext w7 w8 → Ext w8 w9 → w9.grownBy w10 (Value.ownBlock (.slice kA bs.length kc)) → w10.ownsRow w.heap.size 39 1 (.slice A10 (bs.length + 1) c10) (bs.length + 1) (bs.map Bo.v ++ [.slice A8 x.body.length c8]) → (Value.ownBlock (.slice A10 (bs.length + 1) c10) = Value.ownBlock (.slice kA bs.length kc) ∨ Value.ownBlock (.slice A10 (bs.length + 1) c10) = some w9.heap.size) → (R.2.2 = 0 ∨ (R.2.2 = 14 ∧ G.st.bad = 0)) →
                  bs.length + 1 = (bs ++ [(⟨A8, c8, x.body⟩ : Bo)]).length ∧ (bs ++ [(⟨A8, c8, x.body⟩ : Bo)]).map Bo.l = (if R.2.2 = 0 ∨ (R.2.2 = 14 ∧ G.st.bad = 0) then bs.map Bo.l ++ [x.body] else bs.map Bo.l) ∧ Bes w.heap.size v7.kb G7.ss A10 c10 (bs ++ [(⟨A8, c8, x.body⟩ : Bo)]) w10 ∧ Bz w10 ∧ (bs ++ [(⟨A8, c8, x.body⟩ : Bo)]).length ≤ bs.length + 1 := by
                intro A8 c8 w8 w9 w10 A10 c10 ho8 he8 he9 hg10 ho10 hor10 hc
                have hl1 : (bs ++ [(⟨A8, c8, x.body⟩ : Bo)]).length = bs.length + 1 := by simp
                have E9 := (E7.ext he8).ext he9
                have z7 := low7.le
                have z8 := he8.le
                have z9 := he9.le
                have kbl : v7.kb < w7.heap.size := (A7.hd.hk.lt v7.kb rfl).2
                have hC : Chg (fun g => Value.ownBlock (.slice kA bs.length kc) = some g) w9 w10 := Chg.of_grown hg10 fun g e => e
                have hkeep : ∀ {n : Nat} {u : Value} {xs : List Value}, w9.ownsRow w.heap.size 5 1 u n xs → w10.ownsRow w.heap.size 5 1 u n xs := fun hb => hC.own hb fun g hg hS => by
                  obtain ⟨⟨cs, h5⟩, _⟩ := own_blk hb hg
                  obtain ⟨⟨cs', h6⟩, _⟩ := own_blk E9.row hS
                  exact absurd (blk_one h5 h6) (by decide)
                refine ⟨hl1.symm, by rw [if_pos hc, List.map_append]; rfl, ⟨?_, fun b hb => ?_, fun b hb g hg hs => ?_, fun g hg => ?_⟩, ?_, by omega⟩
                · rw [hl1, List.map_append]
                  exact ho10
                · rcases List.mem_append.1 hb with hb | hb
                  · exact hkeep (E9.els b hb)
                  · obtain rfl : b = ⟨A8, c8, x.body⟩ := by simpa using hb
                    exact hkeep ((ho8.mono z7).ext he9)
                · rcases List.mem_append.1 hb with hb | hb
                  · exact E7.sep b hb g hg hs
                  · obtain rfl : b = ⟨A8, c8, x.body⟩ := by simpa using hb
                    have h1 := (own_isT ho8 hg).2
                    obtain ⟨cs, hcs⟩ := (A7.hs.own hs).1
                    have hcs : Blk w7 g 5 cs := hcs
                    have := hcs.lt
                    omega
                · rw [show Value.ownBlock (.slice A10 (bs ++ [(⟨A8, c8, x.body⟩ : Bo)]).length c10) = Value.ownBlock (.slice A10 (bs.length + 1) c10) from ob_len _ _ _ _ _] at hg
                  rcases hor10 with h | h
                  · rw [h] at hg
                    exact E7.sepk g hg
                  · rw [h] at hg
                    injection hg with hg
                    omega
                · rw [← eBz]
                  refine ⟨((A7.ext he8).ext he9).side hg10 fun g hg => ⟨(own_isT E9.row hg).1, E7.sepk g hg, (own_isT E9.row hg).2⟩, ((k7.ext he8).ext he9).grown hg10 (fun e => ?_), ((low7.trans he8).trans he9).grw hg10 fun g hg => (own_isT E9.row hg).2⟩
                  exact absurd ((own_isT E9.row e.symm).1.fun_ ((k7.ext he8).ext he9).isT) (by decide)
              refine J.seq ?_
              refine J.region ?_
              refine L.va rfl (X.move (by conv => lhs; whnf)) ?_
              refine L.va rfl (X.eql rfl rfl) ?_
              refine L.va rfl (X.move (by conv => lhs; whnf)) ?_
              refine L.caseDec (k := 62) rfl (fun q1 => ?_) (fun q1 => ?_)
              · refine L.no rfl ?_
                refine L.no rfl ?_
                refine L.no rfl ?_
                refine L.no rfl ?_
                refine L.no rfl ?_
                refine L.no rfl ?_
                refine L.va rfl (X.pickT rfl (by conv => lhs; whnf)) ?_
                refine L.nil ?_
                refine J.iteT rfl ?_
                refine J.region ?_
                refine L.va rfl (X.move (by conv => lhs; whnf)) ?_
                refine L.va rfl ((by first | exact X.loadAgg rfl (range_l k7) Tryd.underlying47 rfl (by kernel_rfl) | exact X.loadAgg rfl (range_blk k7) Tryd.underlying47 rfl (by kernel_rfl))) ?_
                refine L.call rfl en_13 rfl (body22 x w7 hxA.hn hxA.hb) ?_
                rintro e w8 ⟨A8, c8, rfl, ho8, he8⟩
                refine ⟨_, rfl, ?_⟩
                have he8 : Ext w7 w8 := he8
                have E8 := E7.ext he8
                refine L.bslice (vs := [_]) rfl (Evs.cons (by conv => lhs; whnf) Evs.nil) rfl rfl rfl rfl Tryd.underlying30 sz_39 zr_39 (by decide) ?_
                intro b9 w9 hb9 hs9 hk9 he9
                have E9 := E8.ext he9
                have zz : w.heap.size ≤ w9.heap.size := Nat.le_trans low7.le (Nat.le_trans he8.le he9.le)
                refine L.appendV (q := bs.length + 1) (ys := bs.map Bo.v ++ [.slice A8 x.body.length c8]) rfl rfl rfl Tryd.underlying30 el_39 (E9.row) ((blk_reads (q := 1) (l := [.slice A8 x.body.length c8]) hk9 hk9.lt rfl)) (by first | rfl | exact strs_ones _ | assumption) (by omega) (by simp) (by unfold maxLen; omega) (by omega) ?_
                intro A10 c10 w10 ho10 hg10 hb10 hor10
                refine L.va rfl (X.assign (by conv => lhs; whnf)) ?_
                refine L.nil ?_
                refine ⟨((A10, c10, bs.length + 1), bs ++ [⟨A8, c8, x.body⟩]), At1 (by first | rfl | exact at_int rfl (by omega) | exact at_slice rfl (by omega) | exact at_int rfl (by simp)), (by (iterate 17 refine Agr.lk rfl ?_); exact Agr.rfl'), ?_⟩
                exact PUSH ho8 he8 he9 hg10 ho10 hor10 (.inl q1)
              · refine L.va rfl (X.move (by conv => lhs; whnf)) ?_
                refine L.va rfl (X.eql rfl rfl) ?_
                refine L.va rfl (X.move (by conv => lhs; whnf)) ?_
                refine L.caseDec (k := 65) rfl (fun q2 => ?_) (fun q2 => ?_)
                · refine L.va rfl (X.move (by conv => lhs; whnf)) ?_
                  refine L.va rfl (X.not rfl) ?_
                  refine L.va rfl (X.pickT rfl (by conv => lhs; whnf)) ?_
                  refine L.va rfl (X.pickF rfl (by conv => lhs; whnf)) ?_
                  refine L.nil ?_
                  cases o
                  · refine J.iteT rfl ?_
                    refine J.region ?_
                    refine L.va rfl (X.move (by conv => lhs; whnf)) ?_
                    refine L.va rfl ((by first | exact X.loadAgg rfl (range_l k7) Tryd.underlying47 rfl (by kernel_rfl) | exact X.loadAgg rfl (range_blk k7) Tryd.underlying47 rfl (by kernel_rfl))) ?_
                    refine L.call rfl en_13 rfl (body22 x w7 hxA.hn hxA.hb) ?_
                    rintro e w8 ⟨A8, c8, rfl, ho8, he8⟩
                    refine ⟨_, rfl, ?_⟩
                    have he8 : Ext w7 w8 := he8
                    have E8 := E7.ext he8
                    refine L.bslice (vs := [_]) rfl (Evs.cons (by conv => lhs; whnf) Evs.nil) rfl rfl rfl rfl Tryd.underlying30 sz_39 zr_39 (by decide) ?_
                    intro b9 w9 hb9 hs9 hk9 he9
                    have E9 := E8.ext he9
                    have zz : w.heap.size ≤ w9.heap.size := Nat.le_trans low7.le (Nat.le_trans he8.le he9.le)
                    refine L.appendV (q := bs.length + 1) (ys := bs.map Bo.v ++ [.slice A8 x.body.length c8]) rfl rfl rfl Tryd.underlying30 el_39 (E9.row) ((blk_reads (q := 1) (l := [.slice A8 x.body.length c8]) hk9 hk9.lt rfl)) (by first | rfl | exact strs_ones _ | assumption) (by omega) (by simp) (by unfold maxLen; omega) (by omega) ?_
                    intro A10 c10 w10 ho10 hg10 hb10 hor10
                    refine L.va rfl (X.assign (by conv => lhs; whnf)) ?_
                    refine L.nil ?_
                    refine ⟨((A10, c10, bs.length + 1), bs ++ [⟨A8, c8, x.body⟩]), At1 (by first | rfl | exact at_int rfl (by omega) | exact at_slice rfl (by omega) | exact at_int rfl (by simp)), (by (iterate 18 refine Agr.lk rfl ?_); exact Agr.rfl'), ?_⟩
                    exact PUSH ho8 he8 he9 hg10 ho10 hor10 (.inr ⟨q2, hfb rfl⟩)
                  · refine J.iteF rfl ?_
                    refine J.skip ?_
                    refine ⟨((kA, kc, bs.length), bs), At1 (by first | rfl | exact at_int rfl (by omega) | exact at_slice rfl (by omega) | exact at_int rfl (by simp)), (by (iterate 12 refine Agr.lk rfl ?_); exact Agr.rfl'), ?_⟩
                    exact ⟨rfl, by rw [if_neg (fun h => h.elim q1 (fun h => hft rfl h.2))], E7, eBz _ ▸ ⟨A7, k7, low7⟩, Nat.le_succ _⟩
                · refine L.no rfl ?_
                  refine L.no rfl ?_
                  refine L.va rfl (X.pickF rfl (by conv => lhs; whnf)) ?_
                  refine L.va rfl (X.pickF rfl (by conv => lhs; whnf)) ?_
                  refine L.nil ?_
                  refine J.iteF rfl ?_
                  refine J.skip ?_
                  refine ⟨((kA, kc, bs.length), bs), At1 (by first | rfl | exact at_int rfl (by omega) | exact at_slice rfl (by omega) | exact at_int rfl (by simp)), (by (iterate 12 refine Agr.lk rfl ?_); exact Agr.rfl'), ?_⟩
                  exact ⟨rfl, by rw [if_neg (fun h => h.elim q1 (fun h => q2 h.1))], E7, eBz _ ▸ ⟨A7, k7, low7⟩, Nat.le_succ _⟩
            · rintro ⟨⟨kA', kc', m'⟩, bs'⟩ g w8 ⟨rfl, hl8, E8, he8, few8⟩
              rw [← eBz] at he8
              obtain ⟨A8, k8, low8⟩ := he8
              have hct := I5.e2
              have fin : ∀ o', o' = decide (G7.st.bad ≠ 0) → o' = decide (G7.st.bad ≠ 0) ∧ bs'.length = bs'.length ∧ ((x.kind ≠ 2 ∧ SvAt w v0 (i + 1) G7 v7 kA' kc' bs' r0 w8) ∨ (x.kind = 2 ∧ SvAt w v0 i G7 v7 kA' kc' bs' r0 w8)) ∧ Blk w8 b4 47 x.vals.toArray := fun o' hoo =>
                ⟨hoo, rfl, .inl ⟨by omega, SvAt.of E8 A8 (d7.trans H.d) (kk7.trans H.kb) ⟨nx0, by rw [a7, s7, hl8]; exact IA.1⟩ (by rw [a7, s7]; exact BA.1.more (by omega)) low8 (by omega)⟩, k8⟩
              have hbad : G7.st.bad ≠ 0 ↔ G.st.bad ≠ 0 ∨ R.2.2 = 14 := by rw [s7]; exact IA.2
              refine J.region ?_
              refine L.va rfl (X.move (by conv => lhs; whnf)) ?_
              refine L.va rfl (X.move (by conv => lhs; whnf)) ?_
              cases o
              · have h0 := hfb rfl
                refine L.caseBF (k := 76) rfl (by rfl) ?_
                refine L.va rfl (X.move (by conv => lhs; whnf)) ?_
                refine L.va rfl (X.eql rfl rfl) ?_
                refine L.va rfl (X.pickF rfl (by conv => lhs; whnf)) ?_
                refine L.va rfl (X.assign (by conv => lhs; whnf)) ?_
                refine L.nil ?_
                refine ⟨(G7, v7, (kA', kc', bs'.length), bs', r0, decide (R.2.2 = 14)), At4 (at_ptr rfl g7.p.symm) (rfl) (rfl) (rfl), (by (iterate 7 refine Agr.lk rfl ?_); refine Agr.lk rfl ?_; refine Agr.hav rfl ?_; (iterate 9 refine Agr.lk rfl ?_); exact Agr.rfl'), ?_⟩
                exact fin _ (decide_eq_decide.2 ⟨fun h => hbad.2 (.inr h), fun h => (hbad.1 h).elim (fun q => absurd h0 q) id⟩)
              · refine L.caseBT (k := 76) rfl (by rfl) ?_
                refine L.no rfl ?_
                refine L.no rfl ?_
                refine L.va rfl (X.pickT rfl (by conv => lhs; whnf)) ?_
                refine L.va rfl (X.assign (by conv => lhs; whnf)) ?_
                refine L.nil ?_
                refine ⟨(G7, v7, (kA', kc', bs'.length), bs', r0, true), At4 (at_ptr rfl g7.p.symm) (rfl) (rfl) (rfl), (by (iterate 7 refine Agr.lk rfl ?_); refine Agr.lk rfl ?_; refine Agr.hav rfl ?_; (iterate 9 refine Agr.lk rfl ?_); exact Agr.rfl'), ?_⟩
                exact fin _ (decide_eq_true (hbad.2 (.inl (hft rfl)))).symm
          · refine J.seq ?_
            refine J.region ?_
            refine L.va rfl (X.eql rfl rfl) ?_
            refine L.va rfl (X.assign (by conv => lhs; whnf)) ?_
            refine L.nil ?_
            refine J.dec rfl (fun h1 => ?_) (fun h1 => ?_)
            · obtain ⟨R, hR⟩ : ∃ R, R = syncL v.abs G.st := ⟨_, rfl⟩
              have K := lsync A5 Bo5.ok (by omega)
              rw [← hR] at K
              have IA := I5.sync
              have BA := Bo5.sync
              rw [← hR] at IA BA
              obtain ⟨nx1, IA1, IA2, IA3⟩ := IA
              refine J.seq ?_
              refine J.region ?_
              refine L.va rfl (X.move (by conv => lhs; whnf)) ?_
              refine L.call rfl en_15 rfl (K) ?_
              rintro e w7 ⟨rfl, G7, v7, A7, d7, kk7, a7, s7, ch7, g7⟩
              refine ⟨_, rfl, ?_⟩
              have E7 := E5.chg A5 ch7 g7 kk7
              have k7 := hkT A5 ch7 hk5
              have k7 : Blk w7 b4 47 #[.int .i64 x.kind, .int .i64 x.n, .int .u8 x.b, .slice x.kA x.kn x.kc] := k7
              have low7 : Ext w w7 := Below.trans low5 (A5.below ch7)
              have eP7 : G.ptr = G7.ptr := by unfold Lg.ptr; rw [g7.p]
              have fin : ∀ r1 o', r1 = (if R.2.2 = 0 then bs.map Bo.l else r0) → o' = decide (G7.st.bad ≠ 0) → o' = decide (G7.st.bad ≠ 0) ∧ bs.length = bs.length ∧ ((x.kind ≠ 2 ∧ SvAt w v0 (i + 1) G7 v7 kA kc bs r1 w7) ∨ (x.kind = 2 ∧ SvAt w v0 i G7 v7 kA kc bs r1 w7)) ∧ Blk w7 b4 47 x.vals.toArray := fun r1 o' hr1 hoo =>
                ⟨hoo, rfl, .inl ⟨by omega, SvAt.of E7 A7 (d7.trans H.d) (kk7.trans H.kb) ⟨nx1, by rw [a7, s7, hr1]; exact IA1⟩ (by rw [a7, s7]; exact BA.1.more (by omega)) low7 (by omega)⟩, k7⟩
              have hbad : G7.st.bad ≠ 0 ↔ G.st.bad ≠ 0 ∨ R.2.2 = 14 := by rw [s7]; exact IA2
              refine L.va rfl (X.assign (by conv => lhs; whnf)) ?_
              refine L.nil ?_
              refine J.seq ?_
              refine J.seq ?_
              refine J.region ?_
              refine L.va rfl (X.move (by conv => lhs; whnf)) ?_
              refine L.va rfl (X.eql rfl rfl) ?_
              refine L.nil ?_
              refine J.dec rfl (fun q => ?_) (fun q => ?_)
              · refine J.region ?_
                refine L.va rfl (X.move (by conv => lhs; whnf)) ?_
                refine L.va rfl (X.len rfl Tryd.underlying30) ?_
                refine L.va rfl (X.assign (by conv => lhs; whnf)) ?_
                refine L.nil ?_
                refine J.region ?_
                refine L.va rfl (X.move (by conv => lhs; whnf)) ?_
                refine L.va rfl (X.move (by conv => lhs; whnf)) ?_
                cases o
                · have h0 := hfb rfl
                  refine L.caseBF (k := 89) rfl (by rfl) ?_
                  refine L.va rfl (X.move (by conv => lhs; whnf)) ?_
                  refine L.va rfl (X.eql rfl rfl) ?_
                  refine L.va rfl (X.pickF rfl (by conv => lhs; whnf)) ?_
                  refine L.va rfl (X.assign (by conv => lhs; whnf)) ?_
                  refine L.nil ?_
                  refine ⟨(G7, v7, (kA, kc, bs.length), bs, bs.map Bo.l, decide (R.2.2 = 14)), At4 (at_ptr rfl g7.p.symm) (rfl) (at_int rfl (by simp)) (rfl), (by (iterate 21 refine Agr.lk rfl ?_); exact Agr.rfl'), ?_⟩
                  exact fin _ _ (by rw [if_pos q]) (decide_eq_decide.2 ⟨fun h => hbad.2 (.inr h), fun h => (hbad.1 h).elim (fun q => absurd h0 q) id⟩)
                · refine L.caseBT (k := 89) rfl (by rfl) ?_
                  refine L.no rfl ?_
                  refine L.no rfl ?_
                  refine L.va rfl (X.pickT rfl (by conv => lhs; whnf)) ?_
                  refine L.va rfl (X.assign (by conv => lhs; whnf)) ?_
                  refine L.nil ?_
                  refine ⟨(G7, v7, (kA, kc, bs.length), bs, bs.map Bo.l, true), At4 (at_ptr rfl g7.p.symm) (rfl) (at_int rfl (by simp)) (rfl), (by (iterate 21 refine Agr.lk rfl ?_); exact Agr.rfl'), ?_⟩
                  exact fin _ _ (by rw [if_pos q]) (decide_eq_true (hbad.2 (.inl (hft rfl)))).symm
              · refine J.skip ?_
                refine J.region ?_
                refine L.va rfl (X.move (by conv => lhs; whnf)) ?_
                refine L.va rfl (X.move (by conv => lhs; whnf)) ?_
                cases o
                · have h0 := hfb rfl
                  refine L.caseBF (k := 89) rfl (by rfl) ?_
                  refine L.va rfl (X.move (by conv => lhs; whnf)) ?_
                  refine L.va rfl (X.eql rfl rfl) ?_
                  refine L.va rfl (X.pickF rfl (by conv => lhs; whnf)) ?_
                  refine L.va rfl (X.assign (by conv => lhs; whnf)) ?_
                  refine L.nil ?_
                  refine ⟨(G7, v7, (kA, kc, bs.length), bs, r0, decide (R.2.2 = 14)), At4 (at_ptr rfl g7.p.symm) (rfl) (rfl) (rfl), (by (iterate 18 refine Agr.lk rfl ?_); exact Agr.rfl'), ?_⟩
                  exact fin _ _ (by rw [if_neg q]) (decide_eq_decide.2 ⟨fun h => hbad.2 (.inr h), fun h => (hbad.1 h).elim (fun q => absurd h0 q) id⟩)
                · refine L.caseBT (k := 89) rfl (by rfl) ?_
                  refine L.no rfl ?_
                  refine L.no rfl ?_
                  refine L.va rfl (X.pickT rfl (by conv => lhs; whnf)) ?_
                  refine L.va rfl (X.assign (by conv => lhs; whnf)) ?_
                  refine L.nil ?_
                  refine ⟨(G7, v7, (kA, kc, bs.length), bs, r0, true), At4 (at_ptr rfl g7.p.symm) (rfl) (rfl) (rfl), (by (iterate 18 refine Agr.lk rfl ?_); exact Agr.rfl'), ?_⟩
                  exact fin _ _ (by rw [if_neg q]) (decide_eq_true (hbad.2 (.inl (hft rfl)))).symm
            · refine J.seq ?_
              refine J.region ?_
              refine L.va rfl (X.eql rfl rfl) ?_
              refine L.va rfl (X.assign (by conv => lhs; whnf)) ?_
              refine L.nil ?_
              refine J.dec rfl (fun h3 => ?_) (fun h3 => ?_)
              · have K := A5.hd.stop_anyF ⟨3, x.n, [], true, []⟩ rfl hxA.hn.2
                rw [e0] at K
                have BA := Bo5.stop x.n hxA.hn.2
                refine J.region ?_
                refine L.va rfl (X.move (by conv => lhs; whnf)) ?_
                refine L.va rfl (X.fieldAddr rfl Tryd.underlying47 rfl sz_3 (by decide)) ?_
                refine L.va rfl (X.load rfl sc_3 (by first | exact Ld.rd hR3 (by omega) | exact Ld.blk hk5 rfl)) ?_
                refine L.call rfl en_20 rfl (K) ?_
                rintro e w7 ⟨rfl, v7, p1, p2, p3, p4, p5, p6⟩
                refine ⟨_, rfl, ?_⟩
                have A7 := A5.disk p1 p2 p5 p6
                have E7 := E5.chg A5 (Kq.ls p5) (Lg.Gr.refl _ _) p3
                have k7 := hkT A5 (Kq.ls p5) hk5
                have low7 : Ext w w7 := Below.trans low5 (A5.hd.below p5)
                refine L.nil ?_
                refine ⟨(G, v7, (kA, kc, bs.length), bs, r0, o), At4 (by first | rfl | exact at_int rfl (by omega) | exact at_slice rfl (by omega) | exact at_int rfl (by simp)) (by first | rfl | exact at_int rfl (by omega) | exact at_slice rfl (by omega) | exact at_int rfl (by simp)) (by first | rfl | exact at_int rfl (by omega) | exact at_slice rfl (by omega) | exact at_int rfl (by simp)) (by first | rfl | exact at_int rfl (by omega) | exact at_slice rfl (by omega) | exact at_int rfl (by simp)), (by (iterate 12 refine Agr.lk rfl ?_); exact Agr.rfl'), ?_⟩
                exact ⟨ho, rfl, .inl ⟨by omega, SvAt.of E7 A7 (p2.trans H.d) (p3.trans H.kb) ⟨nx0, by rw [p4]; exact I5.same BA.2.1 BA.2.2⟩ (by rw [p4]; exact BA.1.more (by omega)) low7 (by omega)⟩, k7⟩
              · refine J.skip ?_
                refine ⟨(G, v, (kA, kc, bs.length), bs, r0, o), At4 (by first | rfl | exact at_int rfl (by omega) | exact at_slice rfl (by omega) | exact at_int rfl (by simp)) (by first | rfl | exact at_int rfl (by omega) | exact at_slice rfl (by omega) | exact at_int rfl (by simp)) (by first | rfl | exact at_int rfl (by omega) | exact at_slice rfl (by omega) | exact at_int rfl (by simp)) (by first | rfl | exact at_int rfl (by omega) | exact at_slice rfl (by omega) | exact at_int rfl (by simp)), (by (iterate 8 refine Agr.lk rfl ?_); exact Agr.rfl'), ?_⟩
                refine ⟨ho, rfl, ?_, hk5⟩
                by_cases h2 : x.kind = 2
                · exact .inr ⟨h2, SvAt.of E5 A5 H.d H.kb H.inv Bo5 low5 few⟩
                · exact .inl ⟨h2, SvAt.of E5 A5 H.d H.kb H.inv (Bo5.more (by omega)) low5 (by omega)⟩
        · rintro ⟨G', v', ⟨kA', kc', m'⟩, bs', r0', o'⟩ g w6 ⟨ho', rfl, hS, hk6⟩
          have hk6 : Blk w6 b4 47 #[.int .i64 x.kind, .int .i64 x.n, .int .u8 x.b, .slice x.kA x.kn x.kc] := hk6
          refine J.seq ?_
          refine J.seq ?_
          refine J.region ?_
          refine L.va rfl (X.fieldAddr rfl Tryd.underlying47 rfl sz_3 (by decide)) ?_
          refine L.va rfl (X.load rfl sc_3 (by first | exact Ld.rd hR3 (by omega) | exact Ld.blk hk6 rfl)) ?_
          refine L.va rfl (X.neq rfl rfl) ?_
          refine L.nil ?_
          refine J.ndec rfl (fun hk2 => ?_) (fun hk2 => ?_)
          · refine J.exit ?_
            refine J.region ?_
            refine L.va rfl (X.move (by conv => lhs; whnf)) ?_
            refine L.va rfl (X.add rfl rfl (by omega)) ?_
            refine L.va rfl (X.assign (by conv => lhs; whnf)) ?_
            refine L.nil ?_
            refine ⟨(i + 1, G', v', (kA', kc', bs'.length), bs', r0', o'), At5 (by first | rfl | exact at_int rfl (by omega) | exact at_slice rfl (by omega) | exact at_int rfl (by simp)) (by first | rfl | exact at_int rfl (by omega) | exact at_slice rfl (by omega) | exact at_int rfl (by simp)) (by first | rfl | exact at_int rfl (by omega) | exact at_slice rfl (by omega) | exact at_int rfl (by simp)) (by first | rfl | exact at_int rfl (by omega) | exact at_slice rfl (by omega) | exact at_int rfl (by simp)) (by first | rfl | exact at_int rfl (by omega) | exact at_slice rfl (by omega) | exact at_int rfl (by simp)), (by (iterate 6 refine Agr.lk rfl ?_); refine Agr.lk rfl ?_; refine Agr.hav rfl ?_; (iterate 9 refine Agr.lk rfl ?_); exact Agr.lk rfl (Agr.hav rfl Agr.rfl')), ?_⟩
            exact ⟨⟨by omega, ho', rfl, hS.elim (fun h => h.2) (fun h => absurd h.1 hk2)⟩, by show n0 - (i + 1) < n0 - i; omega⟩
          · have H6 : SvAt w v0 i G' v' kA' kc' bs' r0' w6 := hS.elim (fun h => absurd hk2 h.1) (fun h => h.2)
            obtain ⟨nx6, I6⟩ := H6.inv
            have few6 := H6.few
            have e6 : v'.ptr = v0.ptr := by unfold Dk.ptr; rw [H6.d]
            have hx6 := (hds.low H6.low).hx x hxm
            have K := H6.at_.hd.crash_anyF H6.both.ok (by omega) ⟨4, 0, [], true, x.keep⟩ rfl x.kA x.kn x.kc hx6.hk (by omega)
            rw [e6] at K
            obtain ⟨c1, c2, c3, c4, c5, c6⟩ := H6.both.crash x.keep
            refine J.skip ?_
            refine J.seq ?_
            refine J.region ?_
            refine L.va rfl (X.move (by conv => lhs; whnf)) ?_
            refine L.va rfl (X.fieldAddr rfl Tryd.underlying47 rfl sz_45 (by decide)) ?_
            refine L.va rfl (X.load rfl sc_45 (by first | exact Ld.rd hR3 (by omega) | exact Ld.blk hk6 rfl)) ?_
            refine L.call rfl en_17 rfl (K) ?_
            rintro e w7 ⟨rfl, v7, p1, p2, p3, p4, p5, p6⟩
            refine ⟨_, rfl, ?_⟩
            have A7 := H6.at_.disk p1 p2 p5 p6
            have E7 := H6.bes.chg H6.at_ (Kq.ls p5) (Lg.Gr.refl _ _) p3
            have low7 : Ext w w7 := Below.trans H6.low (H6.at_.hd.below p5)
            rw [← p4] at c1 c2 c3 c4 c5 c6
            obtain ⟨r', nx', j1, j2, j3, j4⟩ := I6.crash (s' := v7.abs) (Dk.kpF x.keep) c4 c5
            have hk7 : v7.kp.length = 6 := by rw [← v7.klen]; exact c3
            have e7 : v7.ptr = v0.ptr := by rw [← e6]; unfold Dk.ptr; rw [p2]
            have K8 := lopen p1 c1 (by omega) c6 c2 A7.tab ht.size 1 5 (by omega) (by omega) (by omega) 7 (by omega)
            rw [e7] at K8
            refine L.nil ?_
            refine J.seq ?_
            refine J.region ?_
            refine L.va rfl (X.move (by conv => lhs; whnf)) ?_
            refine L.call rfl en_10 rfl (K8) ?_
            rintro e w8 ⟨G8, v8, A8, c8, bs8, rfl, O8⟩
            refine ⟨_, rfl, ?_⟩
            have eR : bs8.map Bo.l = r' := O8.rec_.trans j3
            have l1 : r0'.length ≤ bs8.length := by have := j1.length_le; rw [← eR, List.length_map] at this; exact this
            have l2 : bs8.length ≤ bs'.length := by have := j2.length_le; rw [← eR, List.length_map, List.length_map] at this; exact this
            have E8 := E7.chg A7 (Kq.ls O8.kq) (Lg.Gr.refl _ _) O8.kb
            have low8 : Ext w w8 := Below.trans low7 (p1.below O8.kq)
            have z7 := low7.le
            have hrow := Reads.of_own E8.row
            have hcap := own_bd E8.row
            have K9 := fun w' (hw : Ext w8 w') => bytes22 (A := A8) (B := kA') (cA := c8) (cB := kc') (M := w8.heap.size) (as_ := bs8) (bs := bs'.take bs8.length) (w := w') ⟨(Reads.of_own O8.row).ext hw, fun b hb => (own_reads (O8.els b hb)).ext hw⟩ ⟨by
              have h := hrow.first (k := bs8.length) l2
              rw [Nat.mul_one, ← List.map_take] at h
              rw [List.length_take, Nat.min_eq_left l2]
              exact h.ext hw, fun b hb => (own_reads (E8.els b (List.mem_of_mem_take hb))).ext hw⟩ (Ext.le hw) (by
              rw [eR, List.map_take]
              have h := List.prefix_iff_eq_take.1 j2
              rw [← eR, List.length_map] at h
              rw [← eR]
              exact h) (by rw [List.length_take]; omega)
            rw [List.length_take, Nat.min_eq_left l2] at K9
            refine L.va rfl (X.move (by conv => lhs; whnf)) ?_
            refine L.va rfl (X.extract rfl rfl) ?_
            refine L.va rfl (X.extract rfl rfl) ?_
            refine L.va rfl (X.extract rfl rfl) ?_
            refine L.va rfl (X.assign (by conv => lhs; whnf)) ?_
            refine L.va rfl (X.assign (by conv => lhs; whnf)) ?_
            refine L.va rfl (X.assign (by conv => lhs; whnf)) ?_
            refine L.nil ?_
            refine J.seq ?_
            refine J.seq ?_
            refine J.region ?_
            refine L.va rfl (X.move (by conv => lhs; whnf)) ?_
            refine L.va rfl (X.neq rfl rfl) ?_
            refine L.va rfl (X.move (by conv => lhs; whnf)) ?_
            refine L.caseNdecF (k := 114) rfl (by rfl) ?_
            refine L.va rfl (X.move (by conv => lhs; whnf)) ?_
            refine L.va rfl (X.len rfl Tryd.underlying30) ?_
            refine L.va rfl (X.move (by conv => lhs; whnf)) ?_
            refine L.va rfl (X.lss rfl rfl) ?_
            refine L.va rfl (X.pickF rfl (by conv => lhs; whnf)) ?_
            refine L.va rfl (X.move (by conv => lhs; whnf)) ?_
            refine L.caseDecF (k := 120) rfl (by omega) ?_
            refine L.va rfl (X.move (by conv => lhs; whnf)) ?_
            refine L.va rfl (X.len rfl Tryd.underlying30) ?_
            refine L.va rfl (X.move (by conv => lhs; whnf)) ?_
            refine L.va rfl (X.len rfl Tryd.underlying30) ?_
            refine L.va rfl (X.gtr rfl rfl) ?_
            refine L.va rfl (X.pickF rfl (by conv => lhs; whnf)) ?_
            refine L.va rfl (X.move (by conv => lhs; whnf)) ?_
            refine L.caseDecF (k := 127) rfl (by omega) ?_
            refine L.va rfl (X.move (by conv => lhs; whnf)) ?_
            refine L.va rfl (X.move (by conv => lhs; whnf)) ?_
            refine L.va rfl (X.move (by conv => lhs; whnf)) ?_
            refine L.va rfl (X.len rfl Tryd.underlying30) ?_
            refine L.va rfl ((by first | exact X.sliceTon rfl rfl Tryd.underlying30 sz_39 (by omega) | exact X.sliceTo rfl rfl Tryd.underlying30 sz_39 (by omega))) ?_
            refine L.call rfl en_19 rfl (K9 w8 (Ext.refl w8)) ?_
            rintro e w9 ⟨rfl, he9⟩
            refine ⟨_, rfl, ?_⟩
            have he9 : Ext w8 w9 := he9
            refine L.va rfl (X.not rfl) ?_
            refine L.va rfl (X.pickF rfl (by conv => lhs; whnf)) ?_
            refine L.nil ?_
            refine J.iteF rfl ?_
            refine J.skip ?_
            refine J.region ?_
            refine L.va rfl (X.move (by conv => lhs; whnf)) ?_
            refine L.va rfl (X.move (by conv => lhs; whnf)) ?_
            refine L.va rfl (X.move (by conv => lhs; whnf)) ?_
            refine L.va rfl (X.len rfl Tryd.underlying30) ?_
            refine L.va rfl (X.assign (by conv => lhs; whnf)) ?_
            refine L.va rfl (X.assign (by conv => lhs; whnf)) ?_
            refine L.va rfl (X.assign (by conv => lhs; whnf)) ?_
            refine L.va rfl (X.assign (by conv => lhs; whnf)) ?_
            refine L.nil ?_
            refine J.region ?_
            refine L.va rfl (X.move (by conv => lhs; whnf)) ?_
            refine L.va rfl (X.add rfl rfl (by omega)) ?_
            refine L.va rfl (X.assign (by conv => lhs; whnf)) ?_
            refine L.nil ?_
            refine ⟨(i + 1, G8, v8, (A8, c8, bs8.length), bs8, bs8.map Bo.l, false), At5 (rfl) (rfl) (rfl) (at_int rfl (by simp)) (rfl), (by (iterate 54 refine Agr.lk rfl ?_); refine Agr.lk rfl ?_; refine Agr.hav rfl ?_; (iterate 9 refine Agr.lk rfl ?_); exact Agr.lk rfl (Agr.hav rfl Agr.rfl')), ?_⟩
            have kbl : v7.kb < w7.heap.size := (p1.hk.lt v7.kb rfl).2
            have B8 : Bes w.heap.size v8.kb G8.ss A8 c8 bs8 w8 := ⟨O8.row.mono z7, fun b hb => (O8.els b hb).mono z7, O8.sep, fun g hg => by
              have h1 := (own_isT O8.row hg).2
              rw [O8.kb]
              omega⟩
            refine ⟨⟨by omega, by rw [O8.st]; rfl, rfl, SvAt.of (B8.ext he9) (O8.at_.ext he9) (O8.d.trans (p2.trans H6.d)) (O8.kb.trans (p3.trans H6.kb)) ⟨nx', ?_⟩ ?_ (low8.trans he9) (by omega)⟩, by show n0 - (i + 1) < n0 - i; omega⟩
            · rw [O8.ab, O8.st, eR]
              exact j4.same rfl rfl
            · rw [O8.ab, O8.st]
              exact (Both.open_ c1 c2 c3 (by omega) (by omega) (by omega)).more (by omega)
      · obtain rfl : i = n0 := by omega
        refine J.exit ?_
        refine J.seq ?_
        refine J.region ?_
        refine L.call rfl en_7 rfl (awake22 w3 H.at_.tab) ?_
        rintro e w4 ⟨rfl, he4⟩
        refine ⟨_, rfl, ?_⟩
        refine L.va rfl (X.assign (by conv => lhs; whnf)) ?_
        refine L.nil ?_
        refine J.ret ?_
        refine fin1 ?_
        exact ⟨rfl, H.low.trans he4⟩
end Go.Proofs.YtjdimgigbgafbaaDoor
