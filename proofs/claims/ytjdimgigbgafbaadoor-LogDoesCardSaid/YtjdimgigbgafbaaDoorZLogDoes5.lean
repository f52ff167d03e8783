import Derived.Test.YtjdimgigbgafbaaDoorZLogDoes4
/-
  What the law leans on, part 5: WLogL, LogSurv, LogSurvB, LogSurvC, LogSurvD, LogOk, WLogJ, WLogM.
-/
namespace Go.Proofs.YtjdimgigbgafbaaDoor
set_option maxRecDepth 100000
open Go.RowKit H
open Lo Byts Seal Fram
set_option linter.unusedVariables false
namespace Lo
theorem opI_brk {s : Ds} (hb : Byte s) {fr : Nat} (ep : Int) : ∀ {i : Nat}, fr + i ≤ s.kept.length → (opI s fr ep i).ch = false → (opI s fr ep i).sm.length < i * 991
  | 0, _, hc => by cases hc
  | i + 1, hk, hc => by
    have ho := opI_ok hb (fr := fr) ep (i := i) (by omega)
    have hl := ho.sl
    have e : opI s fr ep (i + 1) = opStep ep i (s.now (fr + i)) (opI s fr ep i) := rfl
    rw [e] at hc ⊢
    unfold opStep at hc ⊢
    split at hc
    · cases hc
    · rename_i h
      rw [if_neg h]
      dsimp only
      omega
def ahO (o : Os) (i : Nat) : Int := if 0 < i ∧ i ≤ o.tm.length then o.tm.getD (i - 1) 0 else 0
theorem pfx_iff {V : List Int} {i : Nat} {a : Int} (hV : Bytes V) (hl : 10 < V.length) (hi : i < 65536) (ha : 0 ≤ a ∧ a ≤ 18446744073709551615) :
    V.take 10 = be 2 (i : Int) ++ be 8 a ↔ V.getD 0 0 * 256 + V.getD 1 0 = i ∧ num ((V.drop 2).take 8) = a := by
  have e10 : V.take 10 = V.take 2 ++ (V.drop 2).take 8 := List.take_add (l := V) (i := 2) (j := 8)
  have l2 : (V.take 2).length = 2 := by rw [List.length_take]; omega
  have l8 : ((V.drop 2).take 8).length = 8 := by rw [List.length_take, List.length_drop]; omega
  have b2 : Bytes (V.take 2) := fun z hz => hV z (List.mem_of_mem_take hz)
  have b8 : Bytes ((V.drop 2).take 8) := fun z hz => hV z (List.mem_of_mem_drop (List.mem_of_mem_take hz))
  have n2 : num (V.take 2) = V.getD 0 0 * 256 + V.getD 1 0 := by
    obtain ⟨x, y, t, rfl⟩ : ∃ x y t, V = x :: y :: t := by
      match V, hl with
      | x :: y :: t, _ => exact ⟨x, y, t, rfl⟩
    simp [num]
    try omega
  rw [e10]
  constructor
  · intro h
    obtain ⟨h1, h2⟩ := List.append_inj h (by rw [l2, be_length])
    refine ⟨?_, ?_⟩
    · rw [← n2, h1]
      exact num_be 2 _ (by omega) (by have : (256 : Int) ^ 2 = 65536 := by decide
                                      omega)
    · rw [h2]
      exact num_be 8 _ ha.1 (by have : (256 : Int) ^ 8 = 18446744073709551616 := by decide
                                omega)
  · rintro ⟨h1, h2⟩
    have k2 := be_num _ b2
    have k8 := be_num _ b8
    rw [l2, n2, h1] at k2
    rw [l8, h2] at k8
    rw [k2, k8]
theorem rstep_iff {zs : List Int} {ep : Int} {o : Os} {i : Nat} (ho : OsOk o i) (hz : Bytes zs) (hbr : o.ch = false → o.sm.length < i * 991) (hi : i < 65536) :
    (o.ch && okP zs ep && fol o i zs) = true ↔ okP zs ep = true ∧ o.sm.length = i * 991 ∧ (sV smZ zs).take 10 = be 2 (i : Int) ++ be 8 (ahO o i) := by
  have hah : 0 ≤ ahO o i ∧ ahO o i ≤ 18446744073709551615 := by
    unfold ahO
    split
    · rename_i h
      have hm : o.tm.getD (i - 1) 0 ∈ o.tm := by
        rw [List.getD, List.getElem?_eq_getElem (by omega)]
        exact List.getElem_mem _
      have := ho.tt _ hm
      omega
    · omega
  have hV : Bytes (sV smZ zs) := sV_bytes smZ zs hz
  rw [show ((o.ch && okP zs ep && fol o i zs) = true ↔ o.ch = true ∧ okP zs ep = true ∧ fol o i zs = true) from by
    simp only [Bool.and_eq_true]
    exact ⟨fun ⟨⟨a, b⟩, c⟩ => ⟨a, b, c⟩, fun ⟨a, b, c⟩ => ⟨⟨a, b⟩, c⟩⟩]
  constructor
  · rintro ⟨h1, h2, h3⟩
    have h10 := (okP_iff.1 h2).2.2.2.2.2
    have htl := ho.c1 h1
    have hl := fol_len h3
    refine ⟨h2, hl, (pfx_iff hV h10 hi hah).2 ?_⟩
    unfold fol at h3
    split at h3
    · cases h3
    · rename_i hn
      have hp : pAt zs = i := Decidable.byContradiction fun q => hn (.inl q)
      refine ⟨hp, ?_⟩
      unfold ahO
      split at h3
      · rename_i h0
        rw [if_neg (by omega)]
        exact of_decide_eq_true h3
      · rename_i h0
        rw [if_pos ⟨by omega, by omega⟩]
        exact of_decide_eq_true h3
  · rintro ⟨h2, hl, h3⟩
    have h10 := (okP_iff.1 h2).2.2.2.2.2
    have hch : o.ch = true := by
      cases hc : o.ch
      · have := hbr hc
        omega
      · rfl
    have htl := ho.c1 hch
    obtain ⟨k1, k2⟩ := (pfx_iff hV h10 hi hah).1 h3
    refine ⟨hch, h2, ?_⟩
    have k1 : pAt zs = i := k1
    have k2 : pPrev zs = ahO o i := k2
    unfold fol
    rw [if_neg (by omega)]
    unfold ahO at k2
    split
    · rename_i h0
      rw [if_neg (by omega)] at k2
      exact decide_eq_true k2
    · rename_i h0
      rw [if_pos ⟨by omega, by omega⟩] at k2
      exact decide_eq_true k2
end Lo
theorem str_app2 (a b : List Int) : strOfNums a ++ strOfNums b = strOfNums (a ++ b) := by
  apply ByteArray.ext
  apply Array.ext'
  simp [strOfNums]
theorem str_off {xs a b : List Int} (hx : Bytes xs) (ha : Bytes (a ++ b)) (h : ¬ xs = a ++ b) : ¬ strOfNums xs = strOfNums a ++ strOfNums b := fun e => by
  rw [str_app2] at e
  exact h (strOfNums_inj hx ha (congrArg ByteArray.toList e))
theorem Rk.At.grownU {r : Rk} {N g : Nat} {w w' : World} (h : r.At N w) (hg : w.grownBy w' (some g)) (ht : IsT w g 5) (hN : N ≤ g) (hs : ∀ x, r.Cl x → sblk x ≠ some g) : r.At N w' := by
  have rd : ∀ {x : Value} {zs : List Int}, r.Cl x → RD N w x zs → RD N w' x zs := fun {x zs} hx hr => by
    rcases hr with ⟨b, off, c, cs, rfl, hl, hb, hc⟩ | ⟨A, c, rfl, hr⟩
    · exact .inl ⟨b, off, c, cs, rfl, hl, hb.grown hg (fun e => hs _ hx (by injection e with e; subst e; rfl)), hc⟩
    · refine .inr ⟨A, c, rfl, hr.low ⟨hg.os, hg.tape, hg.output, hg.size, fun i hi => hg.block i (Nat.lt_of_lt_of_le hi h.hN) (fun e => by injection e with e; omega)⟩ (Nat.le_refl _)⟩
  exact ⟨h.hk.kept hg (.inr fun e => absurd (ht.fun_ (own_isT h.hk e).1) (by decide)), h.hp.kept hg (.inr fun e => absurd (ht.fun_ (own_isT h.hp e).1) (by decide)), fun x hx => rd (.inl ⟨x, hx, rfl⟩) (h.kd x hx), fun x hx => ⟨(h.pd x hx).1, rd (.inr ⟨x, hx, rfl⟩) (h.pd x hx).2⟩, h.h1, Nat.le_trans h.hN hg.size⟩
theorem Rk.At.clt {r : Rk} {N g : Nat} {w : World} {x : Value} (h : r.At N w) (hx : r.Cl x) (hg : sblk x = some g) : g < w.heap.size := by
  have rd : ∀ {x : Value} {zs : List Int}, RD N w x zs → sblk x = some g → g < w.heap.size := fun {x zs} hr hg => by
    rcases hr with ⟨b, off, c, cs, rfl, hl, hb, hc⟩ | ⟨A, c, rfl, hr⟩
    · obtain rfl : b = g := by injection hg
      exact hb.lt
    · obtain ⟨ad, rfl, hB, _⟩ := hr.2 (by decide)
      obtain rfl : ad.block = g := by injection hg
      exact Nat.lt_of_lt_of_le hB h.hN
  rcases hx with ⟨y, hy, rfl⟩ | ⟨y, hy, rfl⟩
  · exact rd (h.kd y hy) hg
  · exact rd (h.pd y hy).2 hg
theorem Rk.At.grownR {r : Rk} {N base n : Nat} {w w' : World} {v : Value} {xs : List Value} (h : r.At N w) (ho : w.ownsRow base 5 1 v n xs) (hg : w.grownBy w' v.ownBlock) (hN : N ≤ base) (hs : ∀ x, r.Cl x → ∀ g, sblk x = some g → v.ownBlock ≠ some g) : r.At N w' := by
  cases hv : v.ownBlock with
  | none => rw [hv] at hg; exact h.ext (grown_none hg)
  | some g =>
    rw [hv] at hg
    have h1 := own_isT ho hv
    exact h.grownU hg h1.1 (Nat.le_trans hN h1.2) (fun x hx e => hs x hx g e hv)
theorem Rk.At.grown64 {r : Rk} {N base n : Nat} {w w' : World} {v : Value} {xs : List Value} (h : r.At N w) (ho : w.ownsRow base 35 1 v n xs) (hg : w.grownBy w' v.ownBlock) (hN : N ≤ base) : r.At N w' := by
  cases hv : v.ownBlock with
  | none => rw [hv] at hg; exact h.ext (grown_none hg)
  | some g =>
    rw [hv] at hg
    obtain ⟨⟨cs, hc⟩, h1⟩ := own_isT ho hv
    have hc : Blk w g 35 cs := hc
    exact h.blkL hc hg (Nat.le_trans hN h1)
structure ROp (r : Rk) (N fr ct : Nat) (ep : Int) (b4 b8 b9 b12 : Nat) (w : World) (i : Nat) (s : Rk) (Q : Rl) (w' : World) : Prop where
  ik : i ≤ ct
  st : Q.st = stO fr ct ep (opI r.abs fr ep i)
  ab : s.abs = rdN r.abs i
  hr : s.At N w'
  h : Q.At w.heap.size w'
  k4 : Blk w' b4 33 #[s.K, s.P, .bool s.off, .int .i64 s.left, .int .i64 s.rd, .int .i64 s.wr, .int .i64 s.fl]
  k12 : Blk w' b12 42 #[.int .i64 (fr : Int), .int .i64 (ct : Int), .int .u64 ep, .int .u64 Q.st.nx, Q.ss, Q.ts, .int .i64 0]
  k8 : Blk w' b8 33 #[.slice none 0 0, .slice none 0 0, .bool false, .int .i64 0, .int .i64 0, .int .i64 0, .int .i64 0]
  k9 : Blk w' b9 42 #[.int .i64 0, .int .i64 0, .int .u64 0, .int .u64 0, .slice none 0 0, .slice none 0 0, .int .i64 0]
  he : Ext w w'
  fr_ : Rk.Fr s r w
  cf : Rk.CF s r w
  sep : ∀ x, s.Cl x → ∀ g, sblk x = some g → Q.ss.ownBlock ≠ some g
structure ROpened (r : Rk) (N fr ct : Nat) (ep : Int) (w : World) (r' : Rk) (R' : Rl) (Ao : Option Addr) (co : Nat) (bs : List Bo) (w' : World) : Prop where
  hr : r'.At N w'
  h : R'.At w.heap.size w'
  ab : r'.abs = rdN r.abs ct
  st : R'.st = openL r.abs fr ct ep
  rec_ : bs.map Bo.l = recs (opI r.abs fr ep ct).sm
  row : w'.ownsRow w.heap.size 39 1 (.slice Ao bs.length co) bs.length (bs.map Bo.v)
  els : ∀ b ∈ bs, w'.ownsRow w.heap.size 5 1 b.v b.l.length (nums .u8 b.l)
  he : Ext w w'
  fr_ : Rk.Fr r' r w
  cf : Rk.CF r' r w
set_option maxHeartbeats 40000000 in
theorem open22 {r : Rk} {N m : Nat} {w : World} (hr : r.At N w) (hcp : ∀ x, r.Cl x → Cap x) (hok : r.abs.Ok m) (hm : m + 8192 ≤ 1000000) (hoff : r.off = false) (hB : Byte r.abs) (fr ct : Nat) (hfc : fr + ct ≤ r.kp.length) (hc1 : 1 ≤ ct) (hct : ct ≤ 1000) (ep : Int) (hep : 0 ≤ ep ∧ ep ≤ 18446744073709551615) :
    Calls Tryd.prog 11 #[r.v, .int .i64 (fr : Int), .int .i64 (ct : Int), .int .u64 ep] w fun e w' => ∃ r' R' Ao co bs, e = .returned (.tuple #[r'.v, R'.v, .slice Ao (bs : List Bo).length co, .int .i64 0]) ∧ ROpened r N fr ct ep w r' R' Ao co bs w' := by
  have hNs := hr.hN
  have hkl := hr.h1
  have hak : r.abs.kept.length = r.kp.length := by simp [Rk.abs, abs_]
  have ooI := fun i (hi : i ≤ ct) => opI_ok hB (fr := fr) ep (i := i) (by omega)
  refine enter Tryd.func11 rfl (by kernel_rfl) ?_
  refine J.seq ?_
  refine J.region ?_
  refine L.boxA (l := [_, _, _, _, _, _, _]) rfl rfl ?_
  intro b4 w2 hb4 hs2 hk4 he2
  refine L.alloc rfl zr_33 ?_
  intro b8 w3 hb8 hs3 hk8 he3
  refine L.alloc rfl zr_42 ?_
  intro b9 w4 hb9 hs4 hk9 he4
  have he04 := (he2.trans he3).trans he4
  have hk44 : Blk w4 b4 33 #[r.K, r.P, .bool r.off, .int .i64 r.left, .int .i64 r.rd, .int .i64 r.wr, .int .i64 r.fl] := (hk4.ext he3).ext he4
  have hk84 := hk8.ext he4
  refine L.va rfl (X.assign (by conv => lhs; whnf)) ?_
  refine L.va rfl (X.assign (by conv => lhs; whnf)) ?_
  refine L.nil ?_
  refine J.seq ?_
  refine J.seq ?_
  refine J.region ?_
  refine L.va rfl (X.move (by conv => lhs; whnf)) ?_
  refine L.va rfl (X.lss rfl rfl) ?_
  refine L.va rfl (X.move (by conv => lhs; whnf)) ?_
  refine L.caseDecF (k := 25) rfl (by omega) ?_
  refine L.va rfl (X.move (by conv => lhs; whnf)) ?_
  refine L.va rfl (X.lss rfl rfl) ?_
  refine L.va rfl (X.pickF rfl (by conv => lhs; whnf)) ?_
  refine L.va rfl (X.move (by conv => lhs; whnf)) ?_
  refine L.caseDecF (k := 29) rfl (by omega) ?_
  refine L.va rfl (X.move (by conv => lhs; whnf)) ?_
  refine L.va rfl (X.fieldAddr rfl Tryd.underlying33 rfl sz_30 (by decide)) ?_
  refine L.va rfl (X.load rfl sc_30 (by first | exact Ld.blk hk44 rfl)) ?_
  refine L.va rfl (X.len rfl Tryd.underlying30) ?_
  refine L.va rfl (X.gtr rfl rfl) ?_
  refine L.va rfl (X.pickF rfl (by conv => lhs; whnf)) ?_
  refine L.va rfl (X.move (by conv => lhs; whnf)) ?_
  refine L.caseDecF (k := 36) rfl (by omega) ?_
  refine L.va rfl (X.move (by conv => lhs; whnf)) ?_
  refine L.va rfl (X.fieldAddr rfl Tryd.underlying33 rfl sz_30 (by decide)) ?_
  refine L.va rfl (X.load rfl sc_30 (by first | exact Ld.blk hk44 rfl)) ?_
  refine L.va rfl (X.len rfl Tryd.underlying30) ?_
  refine L.va rfl (X.move (by conv => lhs; whnf)) ?_
  refine L.va rfl (X.sub rfl rfl (by omega)) ?_
  refine L.va rfl (X.gtr rfl rfl) ?_
  refine L.va rfl (X.pickF rfl (by conv => lhs; whnf)) ?_
  refine L.nil ?_
  refine J.decF rfl (by omega) ?_
  refine J.skip ?_
  refine J.seq ?_
  refine J.region ?_
  refine L.va rfl (X.move (by conv => lhs; whnf)) ?_
  refine L.va rfl (X.move (by conv => lhs; whnf)) ?_
  refine L.va rfl (X.move (by conv => lhs; whnf)) ?_
  refine L.va rfl (X.build (l := [.int .i64 (fr : Int), .int .i64 (ct : Int), .int .u64 ep, .int .u64 1, .slice none 0 0, .slice none 0 0, .int .i64 0]) (Evs.cons rfl (Evs.cons rfl (Evs.cons rfl (Evs.cons rfl Evs.nil)))) (bld_run Tryd.underlying42 (bp_42 Tryd.underlying42) zr_42 rfl)) ?_
  refine L.alloc rfl zr_42 ?_
  intro b12 w5 hb12 hs5 hk12 he5
  refine L.storeAgg (vs := [_, _, _, _, _, _, _]) rfl rfl rfl rfl sz_42 (hk12) rfl ?_
  intro w6 hk126 hg6 hs6
  have hk126 : Blk w6 b12 42 #[.int .i64 (fr : Int), .int .i64 (ct : Int), .int .u64 ep, .int .u64 1, .slice none 0 0, .slice none 0 0, .int .i64 0] := hk126
  have nb : ∀ {x y : Nat}, x ≠ y → some x ≠ some y := fun hh e => hh (by injection e)
  have n4c : b4 ≠ b12 := by omega
  have n8c : b8 ≠ b12 := by omega
  have n9c : b9 ≠ b12 := by omega
  have n48 : b4 ≠ b8 := by omega
  have n49 : b4 ≠ b9 := by omega
  have n89 : b8 ≠ b9 := by omega
  have wb4 : w.heap.size ≤ b4 := by omega
  have wb8 : w.heap.size ≤ b8 := by omega
  have wb9 : w.heap.size ≤ b9 := by omega
  have wbc : w.heap.size ≤ b12 := by omega
  have hk46 := (hk44.ext he5).grown hg6 (nb n4c)
  have hk86 := (hk84.ext he5).grown hg6 (nb n8c)
  have hk96 := (hk9.ext he5).grown hg6 (nb n9c)
  have he06 : Ext w w6 := (he04.trans he5).grw hg6 (by intro g hg; injection hg with hg; omega)
  have M0 : ROp r N fr ct ep b4 b8 b9 b12 w 0 r ⟨none, 0, none, 0, stO fr ct ep (opI r.abs fr ep 0)⟩ w6 := by
    refine ⟨Nat.zero_le _, rfl, ?_, (hr.ext (he04.trans he5)).blkL hk12 hg6 (by omega), ⟨own_nil _ _ _ _, own_nil _ _ _ _⟩, hk46, hk126, hk86, hk96, he06, fun g hg => .inl hg, Rk.CF.same rfl rfl, fun x hx g hg e => by cases e⟩
    unfold rdN
    rw [show r.abs.rd + ((0 : Nat) : Int) = r.abs.rd by omega]
  refine L.nil ?_
  refine J.seq ?_
  refine J.seq ?_
  refine J.region ?_
  refine L.va rfl (X.assign (by conv => lhs; whnf)) ?_
  refine L.nil ?_
  refine J.block ?_
  refine J.loop (X := Nat × Rk × Rl) [10, 11, 13, 14, 15, 16, 17, 18, 19, 51, 52, 53, 54, 55, 56, 57, 58, 59, 60, 61, 62, 63, 64, 65, 66, 67, 68, 69, 70, 71, 72, 73, 74, 75, 76, 77, 78, 79, 80, 81, 82, 83, 84, 85, 86, 87, 88, 89, 90, 91, 92, 93, 94, 95, 96, 97, 98, 99, 100, 101, 102, 103, 104, 105, 106, 107, 108, 109, 110, 111, 112, 113, 114, 115, 116, 117, 118, 119, 120, 121, 122, 123, 124, 125, 126, 127, 128, 129, 130, 131, 132, 133, 134, 135, 136, 137, 138, 139, 140, 141, 142] (fun (i, s, Q) => [(13, .int .i64 (i : Int))]) (fun (i, s, Q) w' => ROp r N fr ct ep b4 b8 b9 b12 w i s Q w') (fun (i, _) => ct - i) ((0, r, ⟨none, 0, none, 0, stO fr ct ep (opI r.abs fr ep 0)⟩)) (At1 (by first | rfl | exact at_int rfl (by omega) | exact at_slice rfl (by omega) | exact at_int rfl (by simp))) ?_ ?_
  · exact M0
  · rintro ⟨i, s, Q⟩ g w7 M
    dsimp only at M
    have q4 := M.k4
    have q12 := M.k12
    have q8 := M.k8
    have q9 := M.k9
    have he7 := M.he
    have z7 := he7.le
    have hik := M.ik
    have lt12 := q12.lt
    have oo := ooI i hik
    have hbr := opI_brk hB ep (i := i) (fr := fr) (by omega)
    obtain ⟨o, hO⟩ : ∃ o, o = opI r.abs fr ep i := ⟨_, rfl⟩
    have hst := M.st
    rw [← hO] at oo hbr hst
    have n1 := oo.n1
    have n2 := oo.n2
    have osl := oo.sl
    have oc2 := oo.c2
    have qnx : Q.st.nx = o.nx := by rw [hst]; rfl
    have qsm : Q.st.sm = o.sm := by rw [hst]; rfl
    have qtm : Q.st.tm = o.tm := by rw [hst]; rfl
    rw [qnx] at q12
    refine J.seq ?_
    refine J.seq ?_
    refine J.region ?_
    refine L.va rfl (X.move (by conv => lhs; whnf)) ?_
    refine L.va rfl (X.move (by conv => lhs; whnf)) ?_
    refine L.va rfl (X.lss rfl rfl) ?_
    refine L.nil ?_
    refine J.dec rfl (fun hlt => ?_) (fun hlt => ?_)
    · have hi' : i < ct := by omega
      obtain ⟨zs, hzs⟩ : ∃ zs, zs = r.abs.now (fr + i) := ⟨_, rfl⟩
      have eS : opI r.abs fr ep (i + 1) = opStep ep i zs o := by rw [opI_succ, ← hO, ← hzs]
      have hzb : Bytes zs := by rw [hzs]; exact now_bytes hB (by omega)
      have hzl : zs.length = 1024 := by rw [hzs]; exact nowI_mem (p := fun y : List Int => y.length = 1024) (by omega) hok.hk (fun y hy => (hok.hp y hy).2) _ (Nat.le_refl _)
      have sok : s.abs.Ok (m + i) := by rw [M.ab]; exact rdN_ok hok i
      have K := M.hr.doC sok (by omega) ⟨0, (fr : Int) + (i : Int), none, 0, 0, false, none, 0, 0, [], []⟩ (M := N) M.hr.hN ⟨Reads.none_, Reads.none_, (fun z hz => by cases hz), by dsimp only; omega, by unfold maxLen; dsimp only; omega⟩ (fun hh => by cases hh) (by show 0 ≤ _; omega) (by show 0 ≤ _; omega)
      have eD : s.abs.do_ (Dm.dd ⟨0, (fr : Int) + (i : Int), none, 0, 0, false, none, 0, 0, [], []⟩) = (rdN r.abs (i + 1), zs, 0) := by
        rw [show Dm.dd ⟨0, (fr : Int) + (i : Int), none, 0, 0, false, none, 0, 0, [], []⟩ = ⟨0, ((fr + i : Nat) : Int), [], false, []⟩ from by unfold Dm.dd; rw [show (fr : Int) + (i : Int) = ((fr + i : Nat) : Int) by omega], do_odd _ 0 _ _ _ (fun hh => absurd hh (by decide)), M.ab, rd_do hoff i (fr + i) (by omega), ← hzs]
      unfold Rk.DoC at K
      rw [eD] at K
      refine J.skip ?_
      refine J.seq ?_
      refine J.block ?_
      refine J.seq ?_
      refine J.region ?_
      refine L.va rfl ((by first | exact X.loadAgg rfl (range_l q4) Tryd.underlying33 rfl (by kernel_rfl) | exact X.loadAgg rfl (range_blk q4) Tryd.underlying33 rfl (by kernel_rfl) | exact X.loadAgg rfl (range_l q12) Tryd.underlying33 rfl (by kernel_rfl) | exact X.loadAgg rfl (range_blk q12) Tryd.underlying33 rfl (by kernel_rfl))) ?_
      refine L.va rfl (X.move (by conv => lhs; whnf)) ?_
      refine L.va rfl (X.move (by conv => lhs; whnf)) ?_
      refine L.va rfl (X.add rfl rfl (by omega)) ?_
      refine L.va rfl (X.build (l := [.int .i64 0, .int .i64 ((fr : Int) + (i : Int)), .slice none 0 0, .bool false, .slice none 0 0]) (Evs.cons rfl Evs.nil) (bld_run Tryd.underlying58 (bp_58 Tryd.underlying58) zr_58 rfl)) ?_
      refine L.call rfl en_18 rfl (K) ?_
      rintro e w8 ⟨s3, A3, n3, c3, rfl, k1, k2, k3, ke, k5, k6, k7⟩
      refine ⟨_, rfl, ?_⟩
      dsimp only at k2 k3
      have ke : Ext w7 w8 := ke
      obtain ⟨n3e, hRD⟩ : n3 = 1024 ∧ RD N w8 (.slice A3 1024 c3) zs := by
        rcases k3 with ⟨_, h⟩ | h
        · rw [h] at hzl
          cases hzl
        · exact h
      subst n3e
      have hcap : 1024 ≤ c3 ∧ c3 ≤ maxLen := by
        obtain ⟨A', n', c', e, h1, h2⟩ := (M.cf _ (k7 rfl)).elim (hcp _) (fun q => q.2)
        injection e with e1 e2 e3
        omega
      unfold maxLen at hcap
      have z8 := ke.le
      have q48 := q4.ext ke
      have q128 := q12.ext ke
      have Q8 := M.h.ext ke
      have hN8 := k1.hN
      refine L.va rfl (X.move (by conv => lhs; whnf)) ?_
      refine L.va rfl (X.extract rfl rfl) ?_
      refine L.va rfl (X.extract rfl rfl) ?_
      refine L.va rfl (X.extract rfl rfl) ?_
      refine L.alloc rfl zr_33 ?_
      intro b14 w9 hb14 hs9 hk14 he9
      refine L.storeAgg (vs := [_, _, _, _, _, _, _]) rfl rfl rfl rfl sz_33 (hk14) rfl ?_
      intro w10 hk10 hg10 hs10
      have hk10 : Blk w10 b14 33 #[s3.K, s3.P, .bool s3.off, .int .i64 s3.left, .int .i64 s3.rd, .int .i64 s3.wr, .int .i64 s3.fl] := hk10
      have z9 := he9.le
      have z10 := hg10.size
      have q410 := (q48.ext he9).grown hg10 (nb (by have := q48.lt; omega))
      have q1210 := (q128.ext he9).grown hg10 (nb (by have := q128.lt; omega))
      have Q10 := (Q8.ext he9).blkL hk14 hg10
      have k110 := (k1.ext he9).blkL hk14 hg10 (by omega)
      have hRD10 := (hRD.ext he9 hN8).blk hk14 hg10 (by omega) (by omega) (by decide)
      refine L.va rfl (X.assign (by conv => lhs; whnf)) ?_
      refine L.va rfl (X.assign (by conv => lhs; whnf)) ?_
      refine L.nil ?_
      refine J.seq ?_
      refine J.region ?_
      refine L.va rfl ((by first | exact X.loadAgg rfl (range_l hk10) Tryd.underlying33 rfl (by kernel_rfl) | exact X.loadAgg rfl (range_blk hk10) Tryd.underlying33 rfl (by kernel_rfl))) ?_
      refine L.storeAgg (vs := [_, _, _, _, _, _, _]) rfl rfl rfl rfl sz_33 (q410) rfl ?_
      intro w11 q411 hg11 hs11
      have q411 : Blk w11 b4 33 #[s3.K, s3.P, .bool s3.off, .int .i64 s3.left, .int .i64 s3.rd, .int .i64 s3.wr, .int .i64 s3.fl] := q411
      have z11 := hg11.size
      have q1211 := q1210.grown hg11 (nb n4c.symm)
      have Q11 := Q10.blkL q410 hg11
      have k111 := k110.blkL q410 hg11 (by omega)
      have hRD11 := hRD10.blk q410 hg11 (by omega) (by omega) (by decide)
      have hr11 := Rk.RDn.reads (N := N) (c := c3) (.inr ⟨rfl, hRD11⟩) k111.hN
      have he11 : Ext w w11 := (((he7.trans ke).trans he9).grw hg10 (by intro g hg; injection hg with hg; omega)).grw hg11 (by intro g hg; injection hg with hg; omega)
      have q811 := ((((q8.ext ke).ext he9).grown hg10 (nb (by have := q8.lt; omega))).grown hg11 (nb n48.symm))
      have q911 := ((((q9.ext ke).ext he9).grown hg10 (nb (by have := q9.lt; omega))).grown hg11 (nb n49.symm))
      refine L.nil ?_
      refine J.seq ?_
      refine J.seq ?_
      refine J.region ?_
      refine L.va rfl (X.move (by conv => lhs; whnf)) ?_
      refine L.va rfl (X.neq rfl rfl) ?_
      refine L.nil ?_
      refine J.iteF rfl ?_
      refine J.skip ?_
      refine J.seq ?_
      refine J.region ?_
      refine L.va rfl (X.move (by conv => lhs; whnf)) ?_
      refine L.va rfl (X.move (by conv => lhs; whnf)) ?_
      refine L.call rfl en_41 rfl (is22 A3 1024 c3 zs ep w11 hr11 hzb hcap.1 (by omega)) ?_
      rintro e w12 ⟨A5, c5, rfl, hr5, he12, hc5, hf5⟩
      refine ⟨_, rfl, ?_⟩
      have he12 : Ext w11 w12 := he12
      have hvl := sV_le hzb
      refine L.va rfl (X.move (by conv => lhs; whnf)) ?_
      refine L.va rfl (X.extract rfl rfl) ?_
      refine L.va rfl (X.extract rfl rfl) ?_
      refine L.alloc rfl zr_75 ?_
      intro b17 w13 hb17 hs13 hk17 he13
      refine L.storeAgg (vs := [_, _, _, _]) rfl rfl rfl rfl sz_75 (hk17) rfl ?_
      intro w14 hk14' hg14 hs14
      have k17 : Blk w14 b17 75 #[.int .i64 (sK smZ zs), .int .u64 (sA smZ zs), .int .u64 (sB smZ zs), .slice A5 (sV smZ zs).length c5] := hk14'
      have z12 := he12.le
      have z13 := he13.le
      have z14 := hg14.size
      have he1114 : Ext w11 w14 := (he12.trans he13).grw hg14 (by intro g hg; injection hg with hg; omega)
      have hr14 := ((hr5.ext he13).grw hg14 (by intro g hg; injection hg with hg; omega)).more (B' := w14.heap.size) (by omega)
      have q414 := q411.ext he1114
      have q1214 : Blk w14 b12 42 #[.int .i64 (fr : Int), .int .i64 (ct : Int), .int .u64 ep, .int .u64 o.nx, Q.ss, Q.ts, .int .i64 0] := q1211.ext he1114
      have q814 := q811.ext he1114
      have q914 := q911.ext he1114
      have Q14 := Q11.ext he1114
      have k114 := k111.ext he1114
      have he14 := he11.trans he1114
      have n17 : b17 ≠ b12 := by have := q128.lt; omega
      have fr14 : Rk.Fr s3 r w := fun g hg => (k5 g hg).elim (fun hh => M.fr_ g hh) (fun hh => .inr (by omega))
      have cf14 : Rk.CF s3 r w := fun x hx => (k6 rfl x hx).elim (fun hh => M.cf x hh) (fun hh => .inr ⟨fun g hg => Nat.le_trans z7 (hh.1 g hg), hh.2⟩)
      have hsBb : okP zs ep = true → 1 ≤ sB smZ zs ∧ sB smZ zs < 4611686018427387904 ∧ 10 < (sV smZ zs).length := fun h => (okP_iff.1 h).2.2.2
      refine L.va rfl (X.assign (by conv => lhs; whnf)) ?_
      refine L.nil ?_
      refine J.cut (X := Unit) [78, 79, 80, 81, 82, 83, 84, 85, 86, 87, 88, 89] (fun _ => []) (fun _ w' => w14.grownBy w' (some b12) ∧ Blk w' b12 42 #[.int .i64 (fr : Int), .int .i64 (ct : Int), .int .u64 ep, .int .u64 (opNx ep zs o), Q.ss, Q.ts, .int .i64 0]) ?_ ?_
      · refine J.seq ?_
        refine J.region ?_
        refine L.va rfl (X.move (by conv => lhs; whnf)) ?_
        refine L.va rfl (X.move (by conv => lhs; whnf)) ?_
        cases hko : okP zs ep
        · have e : opNx ep zs o = o.nx := by unfold opNx; rw [hko]; rfl
          rw [e]
          refine L.caseBF (k := 79) rfl (by rfl) ?_
          refine L.no rfl ?_
          refine L.no rfl ?_
          refine L.no rfl ?_
          refine L.no rfl ?_
          refine L.no rfl ?_
          refine L.va rfl (X.pickF rfl (by conv => lhs; whnf)) ?_
          refine L.nil ?_
          refine J.iteF rfl ?_
          refine J.skip ?_
          refine ⟨(), At0 , (by (iterate 9 refine Agr.lk rfl ?_); exact Agr.rfl'), ?_⟩
          exact ⟨grown_ext (Ext.refl _), q1214⟩
        · have hb := hsBb hko
          have e : opNx ep zs o = max o.nx (sB smZ zs + 1) := by unfold opNx; rw [if_pos hko]
          rw [e]
          refine L.caseBT (k := 79) rfl (by rfl) ?_
          refine L.va rfl (X.fieldAddr rfl Tryd.underlying75 rfl sz_35 (by decide)) ?_
          refine L.va rfl (X.load rfl sc_35 (by first | exact Ld.blk k17 rfl | exact Ld.blk q1214 rfl)) ?_
          refine L.va rfl (X.fieldAddr rfl Tryd.underlying42 rfl sz_35 (by decide)) ?_
          refine L.va rfl (X.load rfl sc_35 (by first | exact Ld.blk k17 rfl | exact Ld.blk q1214 rfl)) ?_
          refine L.va rfl (X.geq rfl rfl) ?_
          refine L.va rfl (X.pickT rfl (by conv => lhs; whnf)) ?_
          refine L.nil ?_
          refine J.dec rfl (fun q => ?_) (fun q => ?_)
          · have e2 : max o.nx (sB smZ zs + 1) = sB smZ zs + 1 := by omega
            rw [e2]
            refine J.region ?_
            refine L.va rfl (X.fieldAddr rfl Tryd.underlying75 rfl sz_35 (by decide)) ?_
            refine L.va rfl (X.load rfl sc_35 (by first | exact Ld.blk k17 rfl | exact Ld.blk q1214 rfl)) ?_
            refine L.va rfl (X.addU rfl rfl (by omega)) ?_
            refine L.va rfl (X.fieldAddr rfl Tryd.underlying42 rfl sz_35 (by decide)) ?_
            refine L.store rfl rfl (by conv => lhs; whnf) rfl sz_35 (q1214) (by first | decide | exact Nat.le_of_ble_eq_true rfl) ?_
            intro w15 q1215 hg15 hs15
            refine L.nil ?_
            refine ⟨(), At0 , (by (iterate 13 refine Agr.lk rfl ?_); exact Agr.rfl'), ?_⟩
            exact ⟨hg15, q1215⟩
          · have e2 : max o.nx (sB smZ zs + 1) = o.nx := by omega
            rw [e2]
            refine J.skip ?_
            refine ⟨(), At0 , (by (iterate 9 refine Agr.lk rfl ?_); exact Agr.rfl'), ?_⟩
            exact ⟨grown_ext (Ext.refl _), q1214⟩
      · rintro _ g w15 ⟨hg15, q1215⟩
        obtain ⟨nx1, hnx⟩ : ∃ x, x = opNx ep zs o := ⟨_, rfl⟩
        rw [← hnx] at q1215
        have q1215 : Blk w15 b12 42 #[.int .i64 (fr : Int), .int .i64 (ct : Int), .int .u64 ep, .int .u64 nx1, Q.ss, Q.ts, .int .i64 0] := q1215
        have z15 := hg15.size
        have k1715 := k17.grown hg15 (nb n17)
        have q415 := q414.grown hg15 (nb n4c)
        have q815 := q814.grown hg15 (nb n8c)
        have q915 := q914.grown hg15 (nb n9c)
        have Q15 := Q14.blkL q1214 hg15
        have k115 := k114.blkL q1214 hg15 (by omega)
        have he15 : Ext w w15 := he14.grw hg15 (by intro g hg; injection hg with hg; omega)
        have hr15 := (hr14.off q1214 (fun i z => by
          match i with
          | 0 => intro e; cases e
          | 1 => intro e; cases e
          | 2 => intro e; cases e
          | 3 => intro e; cases e
          | 4 => intro e; cases e
          | 5 => intro e; cases e
          | 6 => intro e; cases e
          | i + 7 => intro e; cases e) hg15).more (B' := w15.heap.size) (by omega)
        have hbt : ∀ {g : Nat}, Q.ss.ownBlock = some g → g < w7.heap.size := fun hg => (M.h.hs.lt _ hg).2
        have sep15 : ∀ x, s3.Cl x → ∀ g, sblk x = some g → Q.ss.ownBlock ≠ some g := fun x hx g hg e => by
          rcases k6 rfl x hx with h | h
          · exact M.sep x h g hg e
          · have h1 := h.1 g hg
            have h2 := hbt e
            omega
        have ht15 := Reads.of_own Q15.ht
        refine J.seq ?_
        refine J.region ?_
        refine L.va rfl (X.assign (by conv => lhs; whnf)) ?_
        refine L.nil ?_
        refine J.cut (X := Unit) [19, 90, 91, 92, 93, 94, 95, 96, 97, 98, 99, 100, 101, 102, 103, 104] (fun _ => [(19, .int .u64 (ahO o i))]) (fun _ w' => w' = w15) ?_ ?_
        · refine J.seq ?_
          refine J.region ?_
          refine L.va rfl (X.move (by conv => lhs; whnf)) ?_
          refine L.va rfl (X.gtr rfl rfl) ?_
          refine L.va rfl (X.move (by conv => lhs; whnf)) ?_
          refine L.caseDec (k := 92) rfl (fun q1 => ?_) (fun q1 => ?_)
          · refine L.va rfl (X.move (by conv => lhs; whnf)) ?_
            refine L.va rfl (X.fieldAddr rfl Tryd.underlying42 rfl sz_40 (by decide)) ?_
            refine L.va rfl (X.load rfl sc_40 (by first | exact Ld.blk k1715 rfl | exact Ld.blk q1215 rfl)) ?_
            refine L.va rfl (X.len rfl Tryd.underlying40) ?_
            refine L.va rfl (X.leq rfl rfl) ?_
            refine L.va rfl (X.pickT rfl (by conv => lhs; whnf)) ?_
            refine L.nil ?_
            refine J.dec rfl (fun q2 => ?_) (fun q2 => ?_)
            · have e : ahO o i = Q.st.tm.getD ((i : Int) - 1).toNat 0 := by
                unfold ahO
                rw [if_pos ⟨by omega, by rw [← qtm]; omega⟩, qtm, show ((i : Int) - 1).toNat = i - 1 by omega]
              have hA := ht15.some_ (by omega)
              rw [e]
              refine J.region ?_
              refine L.va rfl (X.fieldAddr rfl Tryd.underlying42 rfl sz_40 (by decide)) ?_
              refine L.va rfl (X.load rfl sc_40 (by first | exact Ld.blk k1715 rfl | exact Ld.blk q1215 rfl | exact Ld.num ht15 (by omega) | exact hA)) ?_
              refine L.va rfl (X.move (by conv => lhs; whnf)) ?_
              refine L.va rfl (X.sub rfl rfl (by omega)) ?_
              refine L.va rfl ((by first | exact X.index1n rfl rfl Tryd.underlying40 sz_35 (by first | exact Option.some_ne_none _ | exact ht15.some_ (by omega) | exact hA) (by omega) | exact X.index1 rfl rfl Tryd.underlying40 sz_35 (by first | exact Option.some_ne_none _ | exact ht15.some_ (by omega) | exact hA) (by omega))) ?_
              refine L.va rfl (X.load rfl sc_35 (by first | exact Ld.blk k1715 rfl | exact Ld.blk q1215 rfl | exact Ld.num ht15 (by omega) | exact hA)) ?_
              refine L.va rfl (X.assign (by conv => lhs; whnf)) ?_
              refine L.nil ?_
              refine ⟨(), At1 (by first | rfl | exact at_int rfl (by omega) | exact at_slice rfl (by omega) | exact at_int rfl (by simp)), (by (iterate 17 refine Agr.lk rfl ?_); exact Agr.rfl'), ?_⟩
              rfl
            · have e : ahO o i = 0 := by
                unfold ahO
                rw [if_neg (by rw [← qtm]; omega)]
              rw [e]
              refine J.skip ?_
              refine ⟨(), At1 (by first | rfl | exact at_int rfl (by omega) | exact at_slice rfl (by omega) | exact at_int rfl (by simp)), (by (iterate 10 refine Agr.lk rfl ?_); exact Agr.rfl'), ?_⟩
              rfl
          · have e : ahO o i = 0 := by
              unfold ahO
              rw [if_neg (by omega)]
            rw [e]
            refine L.no rfl ?_
            refine L.no rfl ?_
            refine L.no rfl ?_
            refine L.no rfl ?_
            refine L.no rfl ?_
            refine L.va rfl (X.pickF rfl (by conv => lhs; whnf)) ?_
            refine L.nil ?_
            refine J.iteF rfl ?_
            refine J.skip ?_
            refine ⟨(), At1 (by first | rfl | exact at_int rfl (by omega) | exact at_slice rfl (by omega) | exact at_int rfl (by simp)), (by (iterate 10 refine Agr.lk rfl ?_); exact Agr.rfl'), ?_⟩
            rfl
        · rintro _ g w16 rfl
          have hah : 0 ≤ ahO o i ∧ ahO o i ≤ 18446744073709551615 := by
            unfold ahO
            split
            · have hm : o.tm.getD (i - 1) 0 ∈ o.tm := by
                rw [List.getD, List.getElem?_eq_getElem (by omega)]
                exact List.getElem_mem _
              have := oo.tt _ hm
              omega
            · omega
          have hit := rstep_iff (ep := ep) oo hzb hbr (by omega)
          have STAY : ∀ {u : World}, Ext w16 u → ¬ (o.ch && okP zs ep && fol o i zs) = true → ROp r N fr ct ep b4 b8 b9 b12 w (i + 1) s3 ⟨Q.sA, Q.sc, Q.tA, Q.tc, stO fr ct ep (opI r.abs fr ep (i + 1))⟩ u := by
            intro u hu hno
            have eO : opStep ep i zs o = ⟨nx1, false, o.tm, o.sm⟩ := by unfold opStep; rw [if_neg hno, hnx]
            have eT : stO fr ct ep (opI r.abs fr ep (i + 1)) = ⟨fr, ct, ep, nx1, Q.st.sm, Q.st.tm, 0⟩ := by rw [eS, eO, qsm, qtm]; rfl
            rw [eT]
            refine ⟨by omega, eT.symm, k2, k115.ext hu, ⟨(Q15.ext hu).hs, (Q15.ext hu).ht⟩, q415.ext hu, q1215.ext hu, q815.ext hu, q915.ext hu, he15.trans hu, fr14, cf14, sep15⟩
          refine J.seq ?_
          cases hko : okP zs ep
          · refine J.draw (ℓ := 1000000) (S := Ext w16) mixed (fun w17 hS hS_h => ?_)
            refine D.va 0 rfl (by kernel_rfl) (fun _ _ _ h => h) rfl (fun w' hw => X.move (by conv => lhs; whnf)) hS ?_
            refine D.va 1 rfl (by kernel_rfl) (fun _ _ _ h => h) rfl (fun w' hw => X.move (by conv => lhs; whnf)) hS ?_
            refine D.caseBF (k := 106) rfl (by rfl) ?_
            refine D.no 2 rfl (by kernel_rfl) (fun _ _ _ h => h) rfl hS ?_
            refine D.no 3 rfl (by kernel_rfl) (fun _ _ _ h => h) rfl hS ?_
            refine D.no 4 rfl (by kernel_rfl) (fun _ _ _ h => h) rfl hS ?_
            refine D.no 5 rfl (by kernel_rfl) (fun _ _ _ h => h) rfl hS ?_
            refine D.no 6 rfl (by kernel_rfl) (fun _ _ _ h => h) rfl hS ?_
            refine D.no 7 rfl (by kernel_rfl) (fun _ _ _ h => h) rfl hS ?_
            refine D.va 8 rfl (by kernel_rfl) (fun _ _ _ h => h) rfl (fun w' hw => X.pickF rfl (by conv => lhs; whnf)) hS ?_
            refine D.va 9 rfl (by kernel_rfl) (fun _ _ _ h => h) rfl (fun w' hw => X.move (by conv => lhs; whnf)) hS ?_
            refine D.no 10 rfl (by kernel_rfl) (fun _ _ _ h => h) rfl hS ?_
            refine D.no 11 rfl (by kernel_rfl) (fun _ _ _ h => h) rfl hS ?_
            refine D.no 12 rfl (by kernel_rfl) (fun _ _ _ h => h) rfl hS ?_
            refine D.no 13 rfl (by kernel_rfl) (fun _ _ _ h => h) rfl hS ?_
            refine D.no 14 rfl (by kernel_rfl) (fun _ _ _ h => h) rfl hS ?_
            refine D.no 15 rfl (by kernel_rfl) (fun _ _ _ h => h) rfl hS ?_
            refine D.no 16 rfl (by kernel_rfl) (fun _ _ _ h => h) rfl hS ?_
            refine D.no 17 rfl (by kernel_rfl) (fun _ _ _ h => h) rfl hS ?_
            refine D.no 18 rfl (by kernel_rfl) (fun _ _ _ h => h) rfl hS ?_
            refine D.no 19 rfl (by kernel_rfl) (fun _ _ _ h => h) rfl hS ?_
            refine D.no 20 rfl (by kernel_rfl) (fun _ _ _ h => h) rfl hS ?_
            refine D.no 21 rfl (by kernel_rfl) (fun _ _ _ h => h) rfl hS ?_
            refine D.no 22 rfl (by kernel_rfl) (fun _ _ _ h => h) rfl hS ?_
            refine D.va 23 rfl (by kernel_rfl) (fun _ _ _ h => h) rfl (fun w' hw => X.pickF rfl (by conv => lhs; whnf)) hS ?_
            refine D.done (by kernel_rfl) ?_
            replace k1715 := k1715.ext hS
            replace q1215 := q1215.ext hS
            refine J.iteF rfl ?_
            refine J.skip ?_
            refine J.region ?_
            refine L.va rfl (X.move (by conv => lhs; whnf)) ?_
            refine L.va rfl (X.add rfl rfl (by omega)) ?_
            refine L.va rfl (X.assign (by conv => lhs; whnf)) ?_
            refine L.nil ?_
            refine ⟨(i + 1, s3, ⟨Q.sA, Q.sc, Q.tA, Q.tc, stO fr ct ep (opI r.abs fr ep (i + 1))⟩), At1 (by first | rfl | exact at_int rfl (by omega) | exact at_slice rfl (by omega) | exact at_int rfl (by simp)), (by (iterate 28 refine Agr.lk rfl ?_); refine Agr.lk rfl ?_; refine Agr.hav rfl ?_; (iterate 1 refine Agr.lk rfl ?_); refine Agr.lk rfl ?_; refine Agr.hav rfl ?_; (iterate 27 refine Agr.lk rfl ?_); exact Agr.lk rfl (Agr.hav rfl Agr.rfl')), ?_⟩
            exact ⟨STAY hS (fun h => by rw [hko, Bool.and_false, Bool.false_and] at h; cases h), by show ct - (i + 1) < ct - i; omega⟩
          · have hb := hsBb hko
            by_cases hl : o.sm.length = i * 991
            · have hr10 : Reads w16 w16.heap.size 1 A5 10 (nums .u8 ((sV smZ zs).take 10)) := by
                have := hr15.first (k := 10) (by omega)
                simpa [nums] using this
              have K121 := fun w' => high22 2 (i : Int) w' (by omega) (by omega) (by omega)
              have K124 := fun w' => high22 8 (ahO o i) w' hah.1 hah.2 (by omega)
              refine J.draw (ℓ := 1000000) (S := Ext w16) mixed (fun w17 hS hS_h => ?_)
              refine D.va 0 rfl (by kernel_rfl) (fun _ _ _ h => h) rfl (fun w' hw => X.move (by conv => lhs; whnf)) hS ?_
              refine D.va 1 rfl (by kernel_rfl) (fun _ _ _ h => h) rfl (fun w' hw => X.move (by conv => lhs; whnf)) hS ?_
              refine D.caseBT (k := 106) rfl (by rfl) ?_
              refine D.va 2 rfl (by kernel_rfl) (fun _ _ _ h => h) rfl (fun w' hw => X.fieldAddr rfl Tryd.underlying42 rfl sz_39 (by decide)) hS ?_
              refine D.va 3 rfl (by kernel_rfl) (fun _ _ _ h => h) rfl (fun w' hw => X.load rfl sc_39 (by first | exact Ld.blk (k1715.ext hw) rfl | exact Ld.blk (q1215.ext hw) rfl)) hS ?_
              refine D.va 4 rfl (by kernel_rfl) (fun _ _ _ h => h) rfl (fun w' hw => X.len rfl Tryd.underlying39) hS ?_
              refine D.va 5 rfl (by kernel_rfl) (fun _ _ _ h => h) rfl (fun w' hw => X.move (by conv => lhs; whnf)) hS ?_
              refine D.va 6 rfl (by kernel_rfl) (fun _ _ _ h => h) rfl (fun w' hw => X.mul rfl rfl (by omega)) hS ?_
              refine D.va 7 rfl (by kernel_rfl) (fun _ _ _ h => h) rfl (fun w' hw => X.eql rfl rfl) hS ?_
              refine D.va 8 rfl (by kernel_rfl) (fun _ _ _ h => h) rfl (fun w' hw => X.pickT rfl (by conv => lhs; whnf)) hS ?_
              refine D.va 9 rfl (by kernel_rfl) (fun _ _ _ h => h) rfl (fun w' hw => X.move (by conv => lhs; whnf)) hS ?_
              refine D.caseDecT (k := 114) rfl (by rw [qsm]; omega) ?_
              refine D.va 10 rfl (by kernel_rfl) (fun _ _ _ h => h) rfl (fun w' hw => X.fieldAddr rfl Tryd.underlying75 rfl sz_39 (by decide)) hS ?_
              refine D.va 11 rfl (by kernel_rfl) (fun _ _ _ h => h) rfl (fun w' hw => X.load rfl sc_39 (by first | exact Ld.blk (k1715.ext hw) rfl | exact Ld.blk (q1215.ext hw) rfl)) hS ?_
              refine D.va 12 rfl (by kernel_rfl) (fun _ _ _ h => h) rfl (fun w' hw => (by first | exact X.sliceTon (j := 10) rfl rfl Tryd.underlying39 sz_5 (by omega) | exact X.sliceTo rfl rfl Tryd.underlying39 sz_5 (by omega))) hS ?_
              refine D.va 13 rfl (by kernel_rfl) (fun _ _ _ h => h) rfl (fun w' hw => X.conv rfl (((hr10.ext hw).more (Ext.le hw)).conv (c := c5) Tryd.underlying39 Tryd.underlying5 Tryd.underlying9)) hS ?_
              refine D.va 14 rfl (by kernel_rfl) (fun _ _ _ h => h) rfl (fun w' hw => X.move (by conv => lhs; whnf)) hS ?_
              refine D.va 15 rfl (by kernel_rfl) (fun _ _ _ h => h) rfl (fun w' hw => (by first | exact X.convU rfl is_3 Tryd.underlying35 (by omega) | exact X.convw rfl is_3 Tryd.underlying35)) hS ?_
              refine D.va 18 rfl (by kernel_rfl) (fun _ _ _ h => h) rfl (fun w' hw => X.move (by conv => lhs; whnf)) hS ?_
              have zA := (hS).le
              refine D.one 16 (by kernel_rfl) rfl ?_
              refine L.call rfl en_42 rfl ((K121 _)) ?_
              rintro e wA ⟨Aa, ca, rfl, hoa, hea⟩
              refine ⟨_, rfl, ?_⟩
              have hS1 := (hS).trans hea
              refine L.nil ?_
              refine ⟨fun _ => hS1, ?_⟩
              try replace hob := hob.ext hea
              refine D.two 17 19 (by kernel_rfl) rfl rfl ?_ ?_
              · refine L.va rfl (X.conv rfl ((own_reads hoa).conv (c := ca) Tryd.underlying39 Tryd.underlying5 Tryd.underlying9)) ?_
                refine L.nil ?_
                refine ⟨fun _ => hS1, ?_⟩
                have zB := (hS1).le
                refine D.one 19 (by kernel_rfl) rfl ?_
                refine L.call rfl en_42 rfl ((K124 _)) ?_
                rintro e wB ⟨Ab, cb, rfl, hob, heb⟩
                refine ⟨_, rfl, ?_⟩
                have hS2 := (hS1).trans heb
                refine L.nil ?_
                refine ⟨fun _ => hS2, ?_⟩
                try replace hoa := hoa.ext heb
                refine D.one 20 (by kernel_rfl) rfl ?_
                refine L.va rfl (X.conv rfl ((own_reads hob).conv (c := cb) Tryd.underlying39 Tryd.underlying5 Tryd.underlying9)) ?_
                refine L.nil ?_
                refine ⟨fun _ => hS2, ?_⟩
                refine D.va 21 rfl (by kernel_rfl) (fun _ _ _ h => h) rfl (fun w' hw => X.addS rfl rfl (by rw [strOfNums_size, strOfNums_size, be_length, be_length]; decide)) hS2 ?_
                refine D.va 22 rfl (by kernel_rfl) (fun _ _ _ h => h) rfl (fun w' hw => X.eqlS rfl rfl) hS2 ?_
                refine D.va 23 rfl (by kernel_rfl) (fun _ _ _ h => h) rfl (fun w' hw => X.pickT rfl (by conv => lhs; whnf)) hS2 ?_
                refine D.done (by kernel_rfl) ?_
                replace k1715 := k1715.ext hS2
                replace q1215 := q1215.ext hS2
                have hSu := hS2
                have k1716 := k1715
                have q1216 := q1215
                have q416 := q415.ext hSu
                have q816 := q815.ext hSu
                have q916 := q915.ext hSu
                have Q16 := Q15.ext hSu
                have s16 := k115.ext hSu
                have hr16 := hr15.ext hSu
                have he16 := he15.trans hSu
                have zu := hSu.le
                by_cases hp : (sV smZ zs).take 10 = be 2 (i : Int) ++ be 8 (ahO o i)
                · refine J.decT rfl (by rw [str_app2, hp]) ?_
                  have hyes := hit.2 ⟨hko, hl, hp⟩
                  have eO : opStep ep i zs o = ⟨nx1, true, o.tm ++ [sB smZ zs], o.sm ++ pBy zs⟩ := by unfold opStep; rw [if_pos hyes, hnx]
                  have eT : stO fr ct ep (opI r.abs fr ep (i + 1)) = ⟨fr, ct, ep, nx1, Q.st.sm ++ pBy zs, Q.st.tm ++ [sB smZ zs], 0⟩ := by rw [eS, eO, qsm, qtm]; rfl
                  refine J.seq ?_
                  refine J.region ?_
                  refine L.va rfl (X.fieldAddr rfl Tryd.underlying42 rfl sz_40 (by decide)) ?_
                  refine L.va rfl (X.load rfl sc_40 (by first | exact Ld.blk k1716 rfl | exact Ld.blk q1216 rfl)) ?_
                  refine L.va rfl (X.fieldAddr rfl Tryd.underlying75 rfl sz_35 (by decide)) ?_
                  refine L.va rfl (X.load rfl sc_35 (by first | exact Ld.blk k1716 rfl | exact Ld.blk q1216 rfl)) ?_
                  refine L.bslice (vs := [_]) rfl (Evs.cons (by conv => lhs; whnf) Evs.nil) rfl rfl rfl rfl Tryd.underlying40 sz_35 zr_35 (by decide) ?_
                  intro b20 w20 hb20 hs20 hk20 he20
                  have z20 := he20.le
                  have k1720 := k1716.ext he20
                  have q1220 := q1216.ext he20
                  have Q20 := Q16.ext he20
                  have ht20 := Q20.ht
                  have htl : Q.st.tm.length ≤ 1000 ∧ Q.st.sm.length ≤ 991000 := by rw [qtm, qsm]; omega
                  have hs20' := Q20.hs
                  refine L.appendQ (q := Q.st.tm.length + 1) (ys := Q.st.tm ++ [sB smZ zs]) rfl rfl rfl Tryd.underlying40 el_35 (ht20) ((blk_reads (q := 1) (l := nums .u64 [sB smZ zs]) hk20 hk20.lt rfl)) (by omega) (by simp) (by unfold maxLen; omega) (by omega) ?_
                  intro A21 c21 w21 ho21 hg21 hb21 hor21
                  have z21 := hg21.size
                  have k1721 := k1720.grown hg21 (fun e => own_blk_ne ht20 k1720 (by decide) e.symm)
                  have q1221 := q1220.grown hg21 (fun e => own_blk_ne ht20 q1220 (by decide) e.symm)
                  have q421 := (q416.ext he20).grown hg21 (fun e => own_blk_ne ht20 (q416.ext he20) (by decide) e.symm)
                  have q821 := (q816.ext he20).grown hg21 (fun e => own_blk_ne ht20 (q816.ext he20) (by decide) e.symm)
                  have q921 := (q916.ext he20).grown hg21 (fun e => own_blk_ne ht20 (q916.ext he20) (by decide) e.symm)
                  have hs21 := hs20'.kept hg21 (own_or hs20' ht20 (by decide))
                  have s21 := (s16.ext he20).grown64 ht20 hg21 hNs
                  have he21 : Ext w w21 := (he16.trans he20).grw hg21 (fun g hg => (own_isT ht20 hg).2)
                  have hr21 := ((hr16.ext he20).fresh hf5 hg21 (fun b hb => by have := (M.h.ht.lt b hb).2; omega)).more (B' := w21.heap.size) (by omega)
                  refine L.va rfl (X.fieldAddr rfl Tryd.underlying42 rfl sz_40 (by decide)) ?_
                  refine L.store rfl rfl (by conv => lhs; whnf) rfl sz_40 (q1221) (by first | decide | exact Nat.le_of_ble_eq_true rfl) ?_
                  intro w22 q1222 hg22 hs22
                  have q1222 : Blk w22 b12 42 #[.int .i64 (fr : Int), .int .i64 (ct : Int), .int .u64 ep, .int .u64 nx1, Q.ss, .slice A21 (Q.st.tm.length + 1) c21, .int .i64 0] := q1222
                  have z22 := hg22.size
                  have k1722 := k1721.grown hg22 (nb n17)
                  have q422 := q421.grown hg22 (nb n4c)
                  have q822 := q821.grown hg22 (nb n8c)
                  have q922 := q921.grown hg22 (nb n9c)
                  have hs22' := hs21.kept hg22 (.inr (own_blk_ne hs21 q1221 (by decide)))
                  have ho22 := ho21.kept hg22 (.inr (own_blk_ne ho21 q1221 (by decide)))
                  have s22 := s21.blkL q1221 hg22 (by omega)
                  have he22 : Ext w w22 := he21.grw hg22 (by intro g hg; injection hg with hg; omega)
                  have hr22 := (hr21.fresh hf5 hg22 (fun b hb => by injection hb with hb; omega)).more (B' := w22.heap.size) (by omega)
                  have hpl : (pBy zs).length = (sV smZ zs).length - 10 := by unfold pBy; rw [List.length_drop]
                  have hrB := part_nums (i := 10) (j := (sV smZ zs).length) hr22 (by omega) (Nat.le_refl _) hc5
                  rw [show ((sV smZ zs).drop 10).take ((sV smZ zs).length - 10) = pBy zs from List.take_of_length_le (by rw [List.length_drop]; exact Nat.le_refl _)] at hrB
                  refine L.nil ?_
                  refine J.draw (ℓ := 7) (S := (fun w' => Blk w' b12 42 #[.int .i64 (fr : Int), .int .i64 (ct : Int), .int .u64 ep, .int .u64 nx1, Q.ss, .slice A21 (Q.st.tm.length + 1) c21, .int .i64 0] ∧ Blk w' b17 75 #[.int .i64 (sK smZ zs), .int .u64 (sA smZ zs), .int .u64 (sB smZ zs), .slice A5 (sV smZ zs).length c5])) mixed (fun w23 hSE hS_h => ?_)
                  have hS : ((fun w' => Blk w' b12 42 #[.int .i64 (fr : Int), .int .i64 (ct : Int), .int .u64 ep, .int .u64 nx1, Q.ss, .slice A21 (Q.st.tm.length + 1) c21, .int .i64 0] ∧ Blk w' b17 75 #[.int .i64 (sK smZ zs), .int .u64 (sA smZ zs), .int .u64 (sB smZ zs), .slice A5 (sV smZ zs).length c5])) w23 := And.intro (q1222.ext hSE) (k1722.ext hSE)
                  have hs23 := hs22'.ext hSE
                  have ne1 : some b12 ≠ Q.ss.ownBlock := fun e => own_blk_ne hs23 hS.1 (by decide) e.symm
                  have ne2 : some b17 ≠ Q.ss.ownBlock := fun e => own_blk_ne hs23 hS.2 (by decide) e.symm
                  have z23 := hSE.le
                  refine D.va 0 rfl (by kernel_rfl) (fun _ _ _ h => h) rfl (fun w' hw => X.fieldAddr rfl Tryd.underlying42 rfl sz_39 (by decide)) hS ?_
                  refine D.va 1 rfl (by kernel_rfl) (fun _ _ _ h => h) rfl (fun w' hw => X.load rfl sc_39 (by first | exact Ld.blk hw.1 rfl | exact Ld.blk hw.2 rfl)) hS ?_
                  refine D.va 2 rfl (by kernel_rfl) (fun _ _ _ h => h) rfl (fun w' hw => X.fieldAddr rfl Tryd.underlying75 rfl sz_39 (by decide)) hS ?_
                  refine D.va 3 rfl (by kernel_rfl) (fun _ _ _ h => h) rfl (fun w' hw => X.load rfl sc_39 (by first | exact Ld.blk hw.1 rfl | exact Ld.blk hw.2 rfl)) hS ?_
                  refine D.va 4 rfl (by kernel_rfl) (fun _ _ _ h => h) rfl (fun w' hw => (by first | exact X.sliceFromn (i := 10) rfl rfl Tryd.underlying39 sz_5 (by omega) | exact X.sliceFrom rfl rfl Tryd.underlying39 sz_5 (by omega))) hS ?_
                  refine D.one 5 (by kernel_rfl) rfl ?_
                  refine L.appendQ (q := Q.st.sm.length + ((sV smZ zs).length - 10)) (ys := Q.st.sm ++ pBy zs) rfl rfl rfl Tryd.underlying39 el_5 (hs23) ((hrB.ext hSE)) (by omega) (by simp) (by unfold maxLen; omega) (by omega) ?_
                  intro A24 c24 w24 ho24 hg24 hb24 hor24
                  have hS1 := And.intro (hS.1.grown hg24 ne1) (hS.2.grown hg24 ne2)
                  refine L.nil ?_
                  refine ⟨fun _ => hS1, ?_⟩
                  refine D.va 6 rfl (by kernel_rfl) (fun _ _ _ h => h) rfl (fun w' hw => X.fieldAddr rfl Tryd.underlying42 rfl sz_39 (by decide)) hS1 ?_
                  refine D.one 7 (by kernel_rfl) rfl ?_
                  refine L.store rfl rfl (by conv => lhs; whnf) rfl sz_39 (hS1.1) (by first | decide | exact Nat.le_of_ble_eq_true rfl) ?_
                  intro w25 q1225 hg25 hs25
                  refine L.nil ?_
                  refine ⟨fun h => absurd rfl h, ?_⟩
                  refine D.done (by kernel_rfl) ?_
                  refine J.region ?_
                  refine L.va rfl (X.move (by conv => lhs; whnf)) ?_
                  refine L.va rfl (X.add rfl rfl (by omega)) ?_
                  refine L.va rfl (X.assign (by conv => lhs; whnf)) ?_
                  refine L.nil ?_
                  have s25 := ((s22.ext hSE).grownR hs23 hg24 hNs sep15).blkL hS1.1 hg25 (by omega)
                  have l1 : (Q.st.sm ++ pBy zs).length = Q.st.sm.length + ((sV smZ zs).length - 10) := by rw [List.length_append, hpl]
                  have l2 : (Q.st.tm ++ [sB smZ zs]).length = Q.st.tm.length + 1 := by simp
                  have q1225 : Blk w25 b12 42 #[.int .i64 (fr : Int), .int .i64 (ct : Int), .int .u64 ep, .int .u64 nx1, .slice A24 (Q.st.sm.length + ((sV smZ zs).length - 10)) c24, .slice A21 (Q.st.tm.length + 1) c21, .int .i64 0] := q1225
                  have ho23 := ho22.ext hSE
                  have gK : ∀ {b tt : Nat} {cs : Array Value}, tt ≠ 5 → b ≠ b12 → Blk w22 b tt cs → Blk w25 b tt cs := fun hne hb h => ((h.ext hSE).grown hg24 (fun e => own_blk_ne hs23 (h.ext hSE) (fun q => hne q.symm) e.symm)).grown hg25 (nb hb)
                  have he25 : Ext w w25 := ((he22.trans hSE).grw hg24 (fun g hg => (own_isT hs23 hg).2)).grw hg25 (by intro g hg; injection hg with hg; omega)
                  have sz := s22.ext hSE
                  refine ⟨(i + 1, s3, ⟨A24, c24, A21, c21, stO fr ct ep (opI r.abs fr ep (i + 1))⟩), At1 (by first | rfl | exact at_int rfl (by omega) | exact at_slice rfl (by omega) | exact at_int rfl (by simp)), (by (iterate 43 refine Agr.lk rfl ?_); refine Agr.lk rfl ?_; refine Agr.hav rfl ?_; (iterate 1 refine Agr.lk rfl ?_); refine Agr.lk rfl ?_; refine Agr.hav rfl ?_; (iterate 27 refine Agr.lk rfl ?_); exact Agr.lk rfl (Agr.hav rfl Agr.rfl')), ?_⟩
                  refine ⟨?_, by show ct - (i + 1) < ct - i; omega⟩
                  rw [eT]
                  refine ⟨by omega, eT.symm, k2, s25, ⟨?_, ?_⟩, gK (by decide) n4c q422, ?_, gK (by decide) n8c q822, gK (by decide) n9c q922, he25, fr14, cf14, fun x hx g hg e => ?_⟩
                  · show World.ownsRow _ _ _ _ (.slice A24 (Q.st.sm ++ pBy zs).length c24) (Q.st.sm ++ pBy zs).length _
                    rw [l1]
                    exact ho24.kept hg25 (.inr (own_blk_ne ho24 hS1.1 (by decide)))
                  · show World.ownsRow _ _ _ _ (.slice A21 (Q.st.tm ++ [sB smZ zs]).length c21) (Q.st.tm ++ [sB smZ zs]).length _
                    rw [l2]
                    have h24 := ho23.kept hg24 (own_or ho23 hs23 (by decide))
                    exact h24.kept hg25 (.inr (own_blk_ne h24 hS1.1 (by decide)))
                  · show Blk w25 b12 42 #[.int .i64 (fr : Int), .int .i64 (ct : Int), .int .u64 ep, .int .u64 nx1, .slice A24 (Q.st.sm ++ pBy zs).length c24, .slice A21 (Q.st.tm ++ [sB smZ zs]).length c21, .int .i64 0]
                    rw [l1, l2]
                    exact q1225
                  · have e : Value.ownBlock (.slice A24 (Q.st.sm ++ pBy zs).length c24) = some g := e
                    rw [l1] at e
                    rcases hor24 with h | h
                    · exact sep15 x hx g hg (h ▸ e)
                    · rw [h] at e
                      injection e with e
                      have := sz.clt hx hg
                      omega
                · refine J.decF rfl (by exact (str_off (fun z hz => sV_bytes smZ zs hzb z (List.mem_of_mem_take hz)) (fun z hz => (List.mem_append.1 hz).elim (be_bytes _ _ z) (be_bytes _ _ z)) hp)) ?_
                  refine J.skip ?_
                  refine J.region ?_
                  refine L.va rfl (X.move (by conv => lhs; whnf)) ?_
                  refine L.va rfl (X.add rfl rfl (by omega)) ?_
                  refine L.va rfl (X.assign (by conv => lhs; whnf)) ?_
                  refine L.nil ?_
                  refine ⟨(i + 1, s3, ⟨Q.sA, Q.sc, Q.tA, Q.tc, stO fr ct ep (opI r.abs fr ep (i + 1))⟩), At1 (by first | rfl | exact at_int rfl (by omega) | exact at_slice rfl (by omega) | exact at_int rfl (by simp)), (by (iterate 29 refine Agr.lk rfl ?_); refine Agr.lk rfl ?_; refine Agr.hav rfl ?_; (iterate 1 refine Agr.lk rfl ?_); refine Agr.lk rfl ?_; refine Agr.hav rfl ?_; (iterate 27 refine Agr.lk rfl ?_); exact Agr.lk rfl (Agr.hav rfl Agr.rfl')), ?_⟩
                  exact ⟨STAY hSu (fun h => hp (hit.1 h).2.2), by show ct - (i + 1) < ct - i; omega⟩
              · have zB := (hS1).le
                refine L.call rfl en_42 rfl ((K124 _)) ?_
                rintro e wB ⟨Ab, cb, rfl, hob, heb⟩
                refine ⟨_, rfl, ?_⟩
                have hS2 := (hS1).trans heb
                refine L.nil ?_
                refine ⟨fun _ => hS2, ?_⟩
                try replace hoa := hoa.ext heb
                refine D.two 17 20 (by kernel_rfl) rfl rfl ?_ ?_
                · refine L.va rfl (X.conv rfl ((own_reads hoa).conv (c := ca) Tryd.underlying39 Tryd.underlying5 Tryd.underlying9)) ?_
                  refine L.nil ?_
                  refine ⟨fun _ => hS2, ?_⟩
                  refine D.one 20 (by kernel_rfl) rfl ?_
                  refine L.va rfl (X.conv rfl ((own_reads hob).conv (c := cb) Tryd.underlying39 Tryd.underlying5 Tryd.underlying9)) ?_
                  refine L.nil ?_
                  refine ⟨fun _ => hS2, ?_⟩
                  refine D.va 21 rfl (by kernel_rfl) (fun _ _ _ h => h) rfl (fun w' hw => X.addS rfl rfl (by rw [strOfNums_size, strOfNums_size, be_length, be_length]; decide)) hS2 ?_
                  refine D.va 22 rfl (by kernel_rfl) (fun _ _ _ h => h) rfl (fun w' hw => X.eqlS rfl rfl) hS2 ?_
                  refine D.va 23 rfl (by kernel_rfl) (fun _ _ _ h => h) rfl (fun w' hw => X.pickT rfl (by conv => lhs; whnf)) hS2 ?_
                  refine D.done (by kernel_rfl) ?_
                  replace k1715 := k1715.ext hS2
                  replace q1215 := q1215.ext hS2
                  have hSu := hS2
                  have k1716 := k1715
                  have q1216 := q1215
                  have q416 := q415.ext hSu
                  have q816 := q815.ext hSu
                  have q916 := q915.ext hSu
                  have Q16 := Q15.ext hSu
                  have s16 := k115.ext hSu
                  have hr16 := hr15.ext hSu
                  have he16 := he15.trans hSu
                  have zu := hSu.le
                  by_cases hp : (sV smZ zs).take 10 = be 2 (i : Int) ++ be 8 (ahO o i)
                  · refine J.decT rfl (by rw [str_app2, hp]) ?_
                    have hyes := hit.2 ⟨hko, hl, hp⟩
                    have eO : opStep ep i zs o = ⟨nx1, true, o.tm ++ [sB smZ zs], o.sm ++ pBy zs⟩ := by unfold opStep; rw [if_pos hyes, hnx]
                    have eT : stO fr ct ep (opI r.abs fr ep (i + 1)) = ⟨fr, ct, ep, nx1, Q.st.sm ++ pBy zs, Q.st.tm ++ [sB smZ zs], 0⟩ := by rw [eS, eO, qsm, qtm]; rfl
                    refine J.seq ?_
                    refine J.region ?_
                    refine L.va rfl (X.fieldAddr rfl Tryd.underlying42 rfl sz_40 (by decide)) ?_
                    refine L.va rfl (X.load rfl sc_40 (by first | exact Ld.blk k1716 rfl | exact Ld.blk q1216 rfl)) ?_
                    refine L.va rfl (X.fieldAddr rfl Tryd.underlying75 rfl sz_35 (by decide)) ?_
                    refine L.va rfl (X.load rfl sc_35 (by first | exact Ld.blk k1716 rfl | exact Ld.blk q1216 rfl)) ?_
                    refine L.bslice (vs := [_]) rfl (Evs.cons (by conv => lhs; whnf) Evs.nil) rfl rfl rfl rfl Tryd.underlying40 sz_35 zr_35 (by decide) ?_
                    intro b20 w20 hb20 hs20 hk20 he20
                    have z20 := he20.le
                    have k1720 := k1716.ext he20
                    have q1220 := q1216.ext he20
                    have Q20 := Q16.ext he20
                    have ht20 := Q20.ht
                    have htl : Q.st.tm.length ≤ 1000 ∧ Q.st.sm.length ≤ 991000 := by rw [qtm, qsm]; omega
                    have hs20' := Q20.hs
                    refine L.appendQ (q := Q.st.tm.length + 1) (ys := Q.st.tm ++ [sB smZ zs]) rfl rfl rfl Tryd.underlying40 el_35 (ht20) ((blk_reads (q := 1) (l := nums .u64 [sB smZ zs]) hk20 hk20.lt rfl)) (by omega) (by simp) (by unfold maxLen; omega) (by omega) ?_
                    intro A21 c21 w21 ho21 hg21 hb21 hor21
                    have z21 := hg21.size
                    have k1721 := k1720.grown hg21 (fun e => own_blk_ne ht20 k1720 (by decide) e.symm)
                    have q1221 := q1220.grown hg21 (fun e => own_blk_ne ht20 q1220 (by decide) e.symm)
                    have q421 := (q416.ext he20).grown hg21 (fun e => own_blk_ne ht20 (q416.ext he20) (by decide) e.symm)
                    have q821 := (q816.ext he20).grown hg21 (fun e => own_blk_ne ht20 (q816.ext he20) (by decide) e.symm)
                    have q921 := (q916.ext he20).grown hg21 (fun e => own_blk_ne ht20 (q916.ext he20) (by decide) e.symm)
                    have hs21 := hs20'.kept hg21 (own_or hs20' ht20 (by decide))
                    have s21 := (s16.ext he20).grown64 ht20 hg21 hNs
                    have he21 : Ext w w21 := (he16.trans he20).grw hg21 (fun g hg => (own_isT ht20 hg).2)
                    have hr21 := ((hr16.ext he20).fresh hf5 hg21 (fun b hb => by have := (M.h.ht.lt b hb).2; omega)).more (B' := w21.heap.size) (by omega)
                    refine L.va rfl (X.fieldAddr rfl Tryd.underlying42 rfl sz_40 (by decide)) ?_
                    refine L.store rfl rfl (by conv => lhs; whnf) rfl sz_40 (q1221) (by first | decide | exact Nat.le_of_ble_eq_true rfl) ?_
                    intro w22 q1222 hg22 hs22
                    have q1222 : Blk w22 b12 42 #[.int .i64 (fr : Int), .int .i64 (ct : Int), .int .u64 ep, .int .u64 nx1, Q.ss, .slice A21 (Q.st.tm.length + 1) c21, .int .i64 0] := q1222
                    have z22 := hg22.size
                    have k1722 := k1721.grown hg22 (nb n17)
                    have q422 := q421.grown hg22 (nb n4c)
                    have q822 := q821.grown hg22 (nb n8c)
                    have q922 := q921.grown hg22 (nb n9c)
                    have hs22' := hs21.kept hg22 (.inr (own_blk_ne hs21 q1221 (by decide)))
                    have ho22 := ho21.kept hg22 (.inr (own_blk_ne ho21 q1221 (by decide)))
                    have s22 := s21.blkL q1221 hg22 (by omega)
                    have he22 : Ext w w22 := he21.grw hg22 (by intro g hg; injection hg with hg; omega)
                    have hr22 := (hr21.fresh hf5 hg22 (fun b hb => by injection hb with hb; omega)).more (B' := w22.heap.size) (by omega)
                    have hpl : (pBy zs).length = (sV smZ zs).length - 10 := by unfold pBy; rw [List.length_drop]
                    have hrB := part_nums (i := 10) (j := (sV smZ zs).length) hr22 (by omega) (Nat.le_refl _) hc5
                    rw [show ((sV smZ zs).drop 10).take ((sV smZ zs).length - 10) = pBy zs from List.take_of_length_le (by rw [List.length_drop]; exact Nat.le_refl _)] at hrB
                    refine L.nil ?_
                    refine J.draw (ℓ := 7) (S := (fun w' => Blk w' b12 42 #[.int .i64 (fr : Int), .int .i64 (ct : Int), .int .u64 ep, .int .u64 nx1, Q.ss, .slice A21 (Q.st.tm.length + 1) c21, .int .i64 0] ∧ Blk w' b17 75 #[.int .i64 (sK smZ zs), .int .u64 (sA smZ zs), .int .u64 (sB smZ zs), .slice A5 (sV smZ zs).length c5])) mixed (fun w23 hSE hS_h => ?_)
                    have hS : ((fun w' => Blk w' b12 42 #[.int .i64 (fr : Int), .int .i64 (ct : Int), .int .u64 ep, .int .u64 nx1, Q.ss, .slice A21 (Q.st.tm.length + 1) c21, .int .i64 0] ∧ Blk w' b17 75 #[.int .i64 (sK smZ zs), .int .u64 (sA smZ zs), .int .u64 (sB smZ zs), .slice A5 (sV smZ zs).length c5])) w23 := And.intro (q1222.ext hSE) (k1722.ext hSE)
                    have hs23 := hs22'.ext hSE
                    have ne1 : some b12 ≠ Q.ss.ownBlock := fun e => own_blk_ne hs23 hS.1 (by decide) e.symm
                    have ne2 : some b17 ≠ Q.ss.ownBlock := fun e => own_blk_ne hs23 hS.2 (by decide) e.symm
                    have z23 := hSE.le
                    refine D.va 0 rfl (by kernel_rfl) (fun _ _ _ h => h) rfl (fun w' hw => X.fieldAddr rfl Tryd.underlying42 rfl sz_39 (by decide)) hS ?_
                    refine D.va 1 rfl (by kernel_rfl) (fun _ _ _ h => h) rfl (fun w' hw => X.load rfl sc_39 (by first | exact Ld.blk hw.1 rfl | exact Ld.blk hw.2 rfl)) hS ?_
                    refine D.va 2 rfl (by kernel_rfl) (fun _ _ _ h => h) rfl (fun w' hw => X.fieldAddr rfl Tryd.underlying75 rfl sz_39 (by decide)) hS ?_
                    refine D.va 3 rfl (by kernel_rfl) (fun _ _ _ h => h) rfl (fun w' hw => X.load rfl sc_39 (by first | exact Ld.blk hw.1 rfl | exact Ld.blk hw.2 rfl)) hS ?_
                    refine D.va 4 rfl (by kernel_rfl) (fun _ _ _ h => h) rfl (fun w' hw => (by first | exact X.sliceFromn (i := 10) rfl rfl Tryd.underlying39 sz_5 (by omega) | exact X.sliceFrom rfl rfl Tryd.underlying39 sz_5 (by omega))) hS ?_
                    refine D.one 5 (by kernel_rfl) rfl ?_
                    refine L.appendQ (q := Q.st.sm.length + ((sV smZ zs).length - 10)) (ys := Q.st.sm ++ pBy zs) rfl rfl rfl Tryd.underlying39 el_5 (hs23) ((hrB.ext hSE)) (by omega) (by simp) (by unfold maxLen; omega) (by omega) ?_
                    intro A24 c24 w24 ho24 hg24 hb24 hor24
                    have hS1 := And.intro (hS.1.grown hg24 ne1) (hS.2.grown hg24 ne2)
                    refine L.nil ?_
                    refine ⟨fun _ => hS1, ?_⟩
                    refine D.va 6 rfl (by kernel_rfl) (fun _ _ _ h => h) rfl (fun w' hw => X.fieldAddr rfl Tryd.underlying42 rfl sz_39 (by decide)) hS1 ?_
                    refine D.one 7 (by kernel_rfl) rfl ?_
                    refine L.store rfl rfl (by conv => lhs; whnf) rfl sz_39 (hS1.1) (by first | decide | exact Nat.le_of_ble_eq_true rfl) ?_
                    intro w25 q1225 hg25 hs25
                    refine L.nil ?_
                    refine ⟨fun h => absurd rfl h, ?_⟩
                    refine D.done (by kernel_rfl) ?_
                    refine J.region ?_
                    refine L.va rfl (X.move (by conv => lhs; whnf)) ?_
                    refine L.va rfl (X.add rfl rfl (by omega)) ?_
                    refine L.va rfl (X.assign (by conv => lhs; whnf)) ?_
                    refine L.nil ?_
                    have s25 := ((s22.ext hSE).grownR hs23 hg24 hNs sep15).blkL hS1.1 hg25 (by omega)
                    have l1 : (Q.st.sm ++ pBy zs).length = Q.st.sm.length + ((sV smZ zs).length - 10) := by rw [List.length_append, hpl]
                    have l2 : (Q.st.tm ++ [sB smZ zs]).length = Q.st.tm.length + 1 := by simp
                    have q1225 : Blk w25 b12 42 #[.int .i64 (fr : Int), .int .i64 (ct : Int), .int .u64 ep, .int .u64 nx1, .slice A24 (Q.st.sm.length + ((sV smZ zs).length - 10)) c24, .slice A21 (Q.st.tm.length + 1) c21, .int .i64 0] := q1225
                    have ho23 := ho22.ext hSE
                    have gK : ∀ {b tt : Nat} {cs : Array Value}, tt ≠ 5 → b ≠ b12 → Blk w22 b tt cs → Blk w25 b tt cs := fun hne hb h => ((h.ext hSE).grown hg24 (fun e => own_blk_ne hs23 (h.ext hSE) (fun q => hne q.symm) e.symm)).grown hg25 (nb hb)
                    have he25 : Ext w w25 := ((he22.trans hSE).grw hg24 (fun g hg => (own_isT hs23 hg).2)).grw hg25 (by intro g hg; injection hg with hg; omega)
                    have sz := s22.ext hSE
                    refine ⟨(i + 1, s3, ⟨A24, c24, A21, c21, stO fr ct ep (opI r.abs fr ep (i + 1))⟩), At1 (by first | rfl | exact at_int rfl (by omega) | exact at_slice rfl (by omega) | exact at_int rfl (by simp)), (by (iterate 43 refine Agr.lk rfl ?_); refine Agr.lk rfl ?_; refine Agr.hav rfl ?_; (iterate 1 refine Agr.lk rfl ?_); refine Agr.lk rfl ?_; refine Agr.hav rfl ?_; (iterate 27 refine Agr.lk rfl ?_); exact Agr.lk rfl (Agr.hav rfl Agr.rfl')), ?_⟩
                    refine ⟨?_, by show ct - (i + 1) < ct - i; omega⟩
                    rw [eT]
                    refine ⟨by omega, eT.symm, k2, s25, ⟨?_, ?_⟩, gK (by decide) n4c q422, ?_, gK (by decide) n8c q822, gK (by decide) n9c q922, he25, fr14, cf14, fun x hx g hg e => ?_⟩
                    · show World.ownsRow _ _ _ _ (.slice A24 (Q.st.sm ++ pBy zs).length c24) (Q.st.sm ++ pBy zs).length _
                      rw [l1]
                      exact ho24.kept hg25 (.inr (own_blk_ne ho24 hS1.1 (by decide)))
                    · show World.ownsRow _ _ _ _ (.slice A21 (Q.st.tm ++ [sB smZ zs]).length c21) (Q.st.tm ++ [sB smZ zs]).length _
                      rw [l2]
                      have h24 := ho23.kept hg24 (own_or ho23 hs23 (by decide))
                      exact h24.kept hg25 (.inr (own_blk_ne h24 hS1.1 (by decide)))
                    · show Blk w25 b12 42 #[.int .i64 (fr : Int), .int .i64 (ct : Int), .int .u64 ep, .int .u64 nx1, .slice A24 (Q.st.sm ++ pBy zs).length c24, .slice A21 (Q.st.tm ++ [sB smZ zs]).length c21, .int .i64 0]
                      rw [l1, l2]
                      exact q1225
                    · have e : Value.ownBlock (.slice A24 (Q.st.sm ++ pBy zs).length c24) = some g := e
                      rw [l1] at e
                      rcases hor24 with h | h
                      · exact sep15 x hx g hg (h ▸ e)
                      · rw [h] at e
                        injection e with e
                        have := sz.clt hx hg
                        omega
                  · refine J.decF rfl (by exact (str_off (fun z hz => sV_bytes smZ zs hzb z (List.mem_of_mem_take hz)) (fun z hz => (List.mem_append.1 hz).elim (be_bytes _ _ z) (be_bytes _ _ z)) hp)) ?_
                    refine J.skip ?_
                    refine J.region ?_
                    refine L.va rfl (X.move (by conv => lhs; whnf)) ?_
                    refine L.va rfl (X.add rfl rfl (by omega)) ?_
                    refine L.va rfl (X.assign (by conv => lhs; whnf)) ?_
                    refine L.nil ?_
                    refine ⟨(i + 1, s3, ⟨Q.sA, Q.sc, Q.tA, Q.tc, stO fr ct ep (opI r.abs fr ep (i + 1))⟩), At1 (by first | rfl | exact at_int rfl (by omega) | exact at_slice rfl (by omega) | exact at_int rfl (by simp)), (by (iterate 29 refine Agr.lk rfl ?_); refine Agr.lk rfl ?_; refine Agr.hav rfl ?_; (iterate 1 refine Agr.lk rfl ?_); refine Agr.lk rfl ?_; refine Agr.hav rfl ?_; (iterate 27 refine Agr.lk rfl ?_); exact Agr.lk rfl (Agr.hav rfl Agr.rfl')), ?_⟩
                    exact ⟨STAY hSu (fun h => hp (hit.1 h).2.2), by show ct - (i + 1) < ct - i; omega⟩
                · refine L.va rfl (X.conv rfl ((own_reads hob).conv (c := cb) Tryd.underlying39 Tryd.underlying5 Tryd.underlying9)) ?_
                  refine L.nil ?_
                  refine ⟨fun _ => hS2, ?_⟩
                  refine D.one 17 (by kernel_rfl) rfl ?_
                  refine L.va rfl (X.conv rfl ((own_reads hoa).conv (c := ca) Tryd.underlying39 Tryd.underlying5 Tryd.underlying9)) ?_
                  refine L.nil ?_
                  refine ⟨fun _ => hS2, ?_⟩
                  refine D.va 21 rfl (by kernel_rfl) (fun _ _ _ h => h) rfl (fun w' hw => X.addS rfl rfl (by rw [strOfNums_size, strOfNums_size, be_length, be_length]; decide)) hS2 ?_
                  refine D.va 22 rfl (by kernel_rfl) (fun _ _ _ h => h) rfl (fun w' hw => X.eqlS rfl rfl) hS2 ?_
                  refine D.va 23 rfl (by kernel_rfl) (fun _ _ _ h => h) rfl (fun w' hw => X.pickT rfl (by conv => lhs; whnf)) hS2 ?_
                  refine D.done (by kernel_rfl) ?_
                  replace k1715 := k1715.ext hS2
                  replace q1215 := q1215.ext hS2
                  have hSu := hS2
                  have k1716 := k1715
                  have q1216 := q1215
                  have q416 := q415.ext hSu
                  have q816 := q815.ext hSu
                  have q916 := q915.ext hSu
                  have Q16 := Q15.ext hSu
                  have s16 := k115.ext hSu
                  have hr16 := hr15.ext hSu
                  have he16 := he15.trans hSu
                  have zu := hSu.le
                  by_cases hp : (sV smZ zs).take 10 = be 2 (i : Int) ++ be 8 (ahO o i)
                  · refine J.decT rfl (by rw [str_app2, hp]) ?_
                    have hyes := hit.2 ⟨hko, hl, hp⟩
                    have eO : opStep ep i zs o = ⟨nx1, true, o.tm ++ [sB smZ zs], o.sm ++ pBy zs⟩ := by unfold opStep; rw [if_pos hyes, hnx]
                    have eT : stO fr ct ep (opI r.abs fr ep (i + 1)) = ⟨fr, ct, ep, nx1, Q.st.sm ++ pBy zs, Q.st.tm ++ [sB smZ zs], 0⟩ := by rw [eS, eO, qsm, qtm]; rfl
                    refine J.seq ?_
                    refine J.region ?_
                    refine L.va rfl (X.fieldAddr rfl Tryd.underlying42 rfl sz_40 (by decide)) ?_
                    refine L.va rfl (X.load rfl sc_40 (by first | exact Ld.blk k1716 rfl | exact Ld.blk q1216 rfl)) ?_
                    refine L.va rfl (X.fieldAddr rfl Tryd.underlying75 rfl sz_35 (by decide)) ?_
                    refine L.va rfl (X.load rfl sc_35 (by first | exact Ld.blk k1716 rfl | exact Ld.blk q1216 rfl)) ?_
                    refine L.bslice (vs := [_]) rfl (Evs.cons (by conv => lhs; whnf) Evs.nil) rfl rfl rfl rfl Tryd.underlying40 sz_35 zr_35 (by decide) ?_
                    intro b20 w20 hb20 hs20 hk20 he20
                    have z20 := he20.le
                    have k1720 := k1716.ext he20
                    have q1220 := q1216.ext he20
                    have Q20 := Q16.ext he20
                    have ht20 := Q20.ht
                    have htl : Q.st.tm.length ≤ 1000 ∧ Q.st.sm.length ≤ 991000 := by rw [qtm, qsm]; omega
                    have hs20' := Q20.hs
                    refine L.appendQ (q := Q.st.tm.length + 1) (ys := Q.st.tm ++ [sB smZ zs]) rfl rfl rfl Tryd.underlying40 el_35 (ht20) ((blk_reads (q := 1) (l := nums .u64 [sB smZ zs]) hk20 hk20.lt rfl)) (by omega) (by simp) (by unfold maxLen; omega) (by omega) ?_
                    intro A21 c21 w21 ho21 hg21 hb21 hor21
                    have z21 := hg21.size
                    have k1721 := k1720.grown hg21 (fun e => own_blk_ne ht20 k1720 (by decide) e.symm)
                    have q1221 := q1220.grown hg21 (fun e => own_blk_ne ht20 q1220 (by decide) e.symm)
                    have q421 := (q416.ext he20).grown hg21 (fun e => own_blk_ne ht20 (q416.ext he20) (by decide) e.symm)
                    have q821 := (q816.ext he20).grown hg21 (fun e => own_blk_ne ht20 (q816.ext he20) (by decide) e.symm)
                    have q921 := (q916.ext he20).grown hg21 (fun e => own_blk_ne ht20 (q916.ext he20) (by decide) e.symm)
                    have hs21 := hs20'.kept hg21 (own_or hs20' ht20 (by decide))
                    have s21 := (s16.ext he20).grown64 ht20 hg21 hNs
                    have he21 : Ext w w21 := (he16.trans he20).grw hg21 (fun g hg => (own_isT ht20 hg).2)
                    have hr21 := ((hr16.ext he20).fresh hf5 hg21 (fun b hb => by have := (M.h.ht.lt b hb).2; omega)).more (B' := w21.heap.size) (by omega)
                    refine L.va rfl (X.fieldAddr rfl Tryd.underlying42 rfl sz_40 (by decide)) ?_
                    refine L.store rfl rfl (by conv => lhs; whnf) rfl sz_40 (q1221) (by first | decide | exact Nat.le_of_ble_eq_true rfl) ?_
                    intro w22 q1222 hg22 hs22
                    have q1222 : Blk w22 b12 42 #[.int .i64 (fr : Int), .int .i64 (ct : Int), .int .u64 ep, .int .u64 nx1, Q.ss, .slice A21 (Q.st.tm.length + 1) c21, .int .i64 0] := q1222
                    have z22 := hg22.size
                    have k1722 := k1721.grown hg22 (nb n17)
                    have q422 := q421.grown hg22 (nb n4c)
                    have q822 := q821.grown hg22 (nb n8c)
                    have q922 := q921.grown hg22 (nb n9c)
                    have hs22' := hs21.kept hg22 (.inr (own_blk_ne hs21 q1221 (by decide)))
                    have ho22 := ho21.kept hg22 (.inr (own_blk_ne ho21 q1221 (by decide)))
                    have s22 := s21.blkL q1221 hg22 (by omega)
                    have he22 : Ext w w22 := he21.grw hg22 (by intro g hg; injection hg with hg; omega)
                    have hr22 := (hr21.fresh hf5 hg22 (fun b hb => by injection hb with hb; omega)).more (B' := w22.heap.size) (by omega)
                    have hpl : (pBy zs).length = (sV smZ zs).length - 10 := by unfold pBy; rw [List.length_drop]
                    have hrB := part_nums (i := 10) (j := (sV smZ zs).length) hr22 (by omega) (Nat.le_refl _) hc5
                    rw [show ((sV smZ zs).drop 10).take ((sV smZ zs).length - 10) = pBy zs from List.take_of_length_le (by rw [List.length_drop]; exact Nat.le_refl _)] at hrB
                    refine L.nil ?_
                    refine J.draw (ℓ := 7) (S := (fun w' => Blk w' b12 42 #[.int .i64 (fr : Int), .int .i64 (ct : Int), .int .u64 ep, .int .u64 nx1, Q.ss, .slice A21 (Q.st.tm.length + 1) c21, .int .i64 0] ∧ Blk w' b17 75 #[.int .i64 (sK smZ zs), .int .u64 (sA smZ zs), .int .u64 (sB smZ zs), .slice A5 (sV smZ zs).length c5])) mixed (fun w23 hSE hS_h => ?_)
                    have hS : ((fun w' => Blk w' b12 42 #[.int .i64 (fr : Int), .int .i64 (ct : Int), .int .u64 ep, .int .u64 nx1, Q.ss, .slice A21 (Q.st.tm.length + 1) c21, .int .i64 0] ∧ Blk w' b17 75 #[.int .i64 (sK smZ zs), .int .u64 (sA smZ zs), .int .u64 (sB smZ zs), .slice A5 (sV smZ zs).length c5])) w23 := And.intro (q1222.ext hSE) (k1722.ext hSE)
                    have hs23 := hs22'.ext hSE
                    have ne1 : some b12 ≠ Q.ss.ownBlock := fun e => own_blk_ne hs23 hS.1 (by decide) e.symm
                    have ne2 : some b17 ≠ Q.ss.ownBlock := fun e => own_blk_ne hs23 hS.2 (by decide) e.symm
                    have z23 := hSE.le
                    refine D.va 0 rfl (by kernel_rfl) (fun _ _ _ h => h) rfl (fun w' hw => X.fieldAddr rfl Tryd.underlying42 rfl sz_39 (by decide)) hS ?_
                    refine D.va 1 rfl (by kernel_rfl) (fun _ _ _ h => h) rfl (fun w' hw => X.load rfl sc_39 (by first | exact Ld.blk hw.1 rfl | exact Ld.blk hw.2 rfl)) hS ?_
                    refine D.va 2 rfl (by kernel_rfl) (fun _ _ _ h => h) rfl (fun w' hw => X.fieldAddr rfl Tryd.underlying75 rfl sz_39 (by decide)) hS ?_
                    refine D.va 3 rfl (by kernel_rfl) (fun _ _ _ h => h) rfl (fun w' hw => X.load rfl sc_39 (by first | exact Ld.blk hw.1 rfl | exact Ld.blk hw.2 rfl)) hS ?_
                    refine D.va 4 rfl (by kernel_rfl) (fun _ _ _ h => h) rfl (fun w' hw => (by first | exact X.sliceFromn (i := 10) rfl rfl Tryd.underlying39 sz_5 (by omega) | exact X.sliceFrom rfl rfl Tryd.underlying39 sz_5 (by omega))) hS ?_
                    refine D.one 5 (by kernel_rfl) rfl ?_
                    refine L.appendQ (q := Q.st.sm.length + ((sV smZ zs).length - 10)) (ys := Q.st.sm ++ pBy zs) rfl rfl rfl Tryd.underlying39 el_5 (hs23) ((hrB.ext hSE)) (by omega) (by simp) (by unfold maxLen; omega) (by omega) ?_
                    intro A24 c24 w24 ho24 hg24 hb24 hor24
                    have hS1 := And.intro (hS.1.grown hg24 ne1) (hS.2.grown hg24 ne2)
                    refine L.nil ?_
                    refine ⟨fun _ => hS1, ?_⟩
                    refine D.va 6 rfl (by kernel_rfl) (fun _ _ _ h => h) rfl (fun w' hw => X.fieldAddr rfl Tryd.underlying42 rfl sz_39 (by decide)) hS1 ?_
                    refine D.one 7 (by kernel_rfl) rfl ?_
                    refine L.store rfl rfl (by conv => lhs; whnf) rfl sz_39 (hS1.1) (by first | decide | exact Nat.le_of_ble_eq_true rfl) ?_
                    intro w25 q1225 hg25 hs25
                    refine L.nil ?_
                    refine ⟨fun h => absurd rfl h, ?_⟩
                    refine D.done (by kernel_rfl) ?_
                    refine J.region ?_
                    refine L.va rfl (X.move (by conv => lhs; whnf)) ?_
                    refine L.va rfl (X.add rfl rfl (by omega)) ?_
                    refine L.va rfl (X.assign (by conv => lhs; whnf)) ?_
                    refine L.nil ?_
                    have s25 := ((s22.ext hSE).grownR hs23 hg24 hNs sep15).blkL hS1.1 hg25 (by omega)
                    have l1 : (Q.st.sm ++ pBy zs).length = Q.st.sm.length + ((sV smZ zs).length - 10) := by rw [List.length_append, hpl]
                    have l2 : (Q.st.tm ++ [sB smZ zs]).length = Q.st.tm.length + 1 := by simp
                    have q1225 : Blk w25 b12 42 #[.int .i64 (fr : Int), .int .i64 (ct : Int), .int .u64 ep, .int .u64 nx1, .slice A24 (Q.st.sm.length + ((sV smZ zs).length - 10)) c24, .slice A21 (Q.st.tm.length + 1) c21, .int .i64 0] := q1225
                    have ho23 := ho22.ext hSE
                    have gK : ∀ {b tt : Nat} {cs : Array Value}, tt ≠ 5 → b ≠ b12 → Blk w22 b tt cs → Blk w25 b tt cs := fun hne hb h => ((h.ext hSE).grown hg24 (fun e => own_blk_ne hs23 (h.ext hSE) (fun q => hne q.symm) e.symm)).grown hg25 (nb hb)
                    have he25 : Ext w w25 := ((he22.trans hSE).grw hg24 (fun g hg => (own_isT hs23 hg).2)).grw hg25 (by intro g hg; injection hg with hg; omega)
                    have sz := s22.ext hSE
                    refine ⟨(i + 1, s3, ⟨A24, c24, A21, c21, stO fr ct ep (opI r.abs fr ep (i + 1))⟩), At1 (by first | rfl | exact at_int rfl (by omega) | exact at_slice rfl (by omega) | exact at_int rfl (by simp)), (by (iterate 43 refine Agr.lk rfl ?_); refine Agr.lk rfl ?_; refine Agr.hav rfl ?_; (iterate 1 refine Agr.lk rfl ?_); refine Agr.lk rfl ?_; refine Agr.hav rfl ?_; (iterate 27 refine Agr.lk rfl ?_); exact Agr.lk rfl (Agr.hav rfl Agr.rfl')), ?_⟩
                    refine ⟨?_, by show ct - (i + 1) < ct - i; omega⟩
                    rw [eT]
                    refine ⟨by omega, eT.symm, k2, s25, ⟨?_, ?_⟩, gK (by decide) n4c q422, ?_, gK (by decide) n8c q822, gK (by decide) n9c q922, he25, fr14, cf14, fun x hx g hg e => ?_⟩
                    · show World.ownsRow _ _ _ _ (.slice A24 (Q.st.sm ++ pBy zs).length c24) (Q.st.sm ++ pBy zs).length _
                      rw [l1]
                      exact ho24.kept hg25 (.inr (own_blk_ne ho24 hS1.1 (by decide)))
                    · show World.ownsRow _ _ _ _ (.slice A21 (Q.st.tm ++ [sB smZ zs]).length c21) (Q.st.tm ++ [sB smZ zs]).length _
                      rw [l2]
                      have h24 := ho23.kept hg24 (own_or ho23 hs23 (by decide))
                      exact h24.kept hg25 (.inr (own_blk_ne h24 hS1.1 (by decide)))
                    · show Blk w25 b12 42 #[.int .i64 (fr : Int), .int .i64 (ct : Int), .int .u64 ep, .int .u64 nx1, .slice A24 (Q.st.sm ++ pBy zs).length c24, .slice A21 (Q.st.tm ++ [sB smZ zs]).length c21, .int .i64 0]
                      rw [l1, l2]
                      exact q1225
                    · have e : Value.ownBlock (.slice A24 (Q.st.sm ++ pBy zs).length c24) = some g := e
                      rw [l1] at e
                      rcases hor24 with h | h
                      · exact sep15 x hx g hg (h ▸ e)
                      · rw [h] at e
                        injection e with e
                        have := sz.clt hx hg
                        omega
                  · refine J.decF rfl (by exact (str_off (fun z hz => sV_bytes smZ zs hzb z (List.mem_of_mem_take hz)) (fun z hz => (List.mem_append.1 hz).elim (be_bytes _ _ z) (be_bytes _ _ z)) hp)) ?_
                    refine J.skip ?_
                    refine J.region ?_
                    refine L.va rfl (X.move (by conv => lhs; whnf)) ?_
                    refine L.va rfl (X.add rfl rfl (by omega)) ?_
                    refine L.va rfl (X.assign (by conv => lhs; whnf)) ?_
                    refine L.nil ?_
                    refine ⟨(i + 1, s3, ⟨Q.sA, Q.sc, Q.tA, Q.tc, stO fr ct ep (opI r.abs fr ep (i + 1))⟩), At1 (by first | rfl | exact at_int rfl (by omega) | exact at_slice rfl (by omega) | exact at_int rfl (by simp)), (by (iterate 29 refine Agr.lk rfl ?_); refine Agr.lk rfl ?_; refine Agr.hav rfl ?_; (iterate 1 refine Agr.lk rfl ?_); refine Agr.lk rfl ?_; refine Agr.hav rfl ?_; (iterate 27 refine Agr.lk rfl ?_); exact Agr.lk rfl (Agr.hav rfl Agr.rfl')), ?_⟩
                    exact ⟨STAY hSu (fun h => hp (hit.1 h).2.2), by show ct - (i + 1) < ct - i; omega⟩
            · refine J.draw (ℓ := 1000000) (S := Ext w16) mixed (fun w17 hS hS_h => ?_)
              refine D.va 0 rfl (by kernel_rfl) (fun _ _ _ h => h) rfl (fun w' hw => X.move (by conv => lhs; whnf)) hS ?_
              refine D.va 1 rfl (by kernel_rfl) (fun _ _ _ h => h) rfl (fun w' hw => X.move (by conv => lhs; whnf)) hS ?_
              refine D.caseBT (k := 106) rfl (by rfl) ?_
              refine D.va 2 rfl (by kernel_rfl) (fun _ _ _ h => h) rfl (fun w' hw => X.fieldAddr rfl Tryd.underlying42 rfl sz_39 (by decide)) hS ?_
              refine D.va 3 rfl (by kernel_rfl) (fun _ _ _ h => h) rfl (fun w' hw => X.load rfl sc_39 (by first | exact Ld.blk (k1715.ext hw) rfl | exact Ld.blk (q1215.ext hw) rfl)) hS ?_
              refine D.va 4 rfl (by kernel_rfl) (fun _ _ _ h => h) rfl (fun w' hw => X.len rfl Tryd.underlying39) hS ?_
              refine D.va 5 rfl (by kernel_rfl) (fun _ _ _ h => h) rfl (fun w' hw => X.move (by conv => lhs; whnf)) hS ?_
              refine D.va 6 rfl (by kernel_rfl) (fun _ _ _ h => h) rfl (fun w' hw => X.mul rfl rfl (by omega)) hS ?_
              refine D.va 7 rfl (by kernel_rfl) (fun _ _ _ h => h) rfl (fun w' hw => X.eql rfl rfl) hS ?_
              refine D.va 8 rfl (by kernel_rfl) (fun _ _ _ h => h) rfl (fun w' hw => X.pickT rfl (by conv => lhs; whnf)) hS ?_
              refine D.va 9 rfl (by kernel_rfl) (fun _ _ _ h => h) rfl (fun w' hw => X.move (by conv => lhs; whnf)) hS ?_
              refine D.caseDecF (k := 114) rfl (by rw [qsm]; omega) ?_
              refine D.no 10 rfl (by kernel_rfl) (fun _ _ _ h => h) rfl hS ?_
              refine D.no 11 rfl (by kernel_rfl) (fun _ _ _ h => h) rfl hS ?_
              refine D.no 12 rfl (by kernel_rfl) (fun _ _ _ h => h) rfl hS ?_
              refine D.no 13 rfl (by kernel_rfl) (fun _ _ _ h => h) rfl hS ?_
              refine D.no 14 rfl (by kernel_rfl) (fun _ _ _ h => h) rfl hS ?_
              refine D.no 15 rfl (by kernel_rfl) (fun _ _ _ h => h) rfl hS ?_
              refine D.no 16 rfl (by kernel_rfl) (fun _ _ _ h => h) rfl hS ?_
              refine D.no 17 rfl (by kernel_rfl) (fun _ _ _ h => h) rfl hS ?_
              refine D.no 18 rfl (by kernel_rfl) (fun _ _ _ h => h) rfl hS ?_
              refine D.no 19 rfl (by kernel_rfl) (fun _ _ _ h => h) rfl hS ?_
              refine D.no 20 rfl (by kernel_rfl) (fun _ _ _ h => h) rfl hS ?_
              refine D.no 21 rfl (by kernel_rfl) (fun _ _ _ h => h) rfl hS ?_
              refine D.no 22 rfl (by kernel_rfl) (fun _ _ _ h => h) rfl hS ?_
              refine D.va 23 rfl (by kernel_rfl) (fun _ _ _ h => h) rfl (fun w' hw => X.pickF rfl (by conv => lhs; whnf)) hS ?_
              refine D.done (by kernel_rfl) ?_
              replace k1715 := k1715.ext hS
              replace q1215 := q1215.ext hS
              refine J.iteF rfl ?_
              refine J.skip ?_
              refine J.region ?_
              refine L.va rfl (X.move (by conv => lhs; whnf)) ?_
              refine L.va rfl (X.add rfl rfl (by omega)) ?_
              refine L.va rfl (X.assign (by conv => lhs; whnf)) ?_
              refine L.nil ?_
              refine ⟨(i + 1, s3, ⟨Q.sA, Q.sc, Q.tA, Q.tc, stO fr ct ep (opI r.abs fr ep (i + 1))⟩), At1 (by first | rfl | exact at_int rfl (by omega) | exact at_slice rfl (by omega) | exact at_int rfl (by simp)), (by (iterate 29 refine Agr.lk rfl ?_); refine Agr.lk rfl ?_; refine Agr.hav rfl ?_; (iterate 1 refine Agr.lk rfl ?_); refine Agr.lk rfl ?_; refine Agr.hav rfl ?_; (iterate 27 refine Agr.lk rfl ?_); exact Agr.lk rfl (Agr.hav rfl Agr.rfl')), ?_⟩
              exact ⟨STAY hS (fun h => hl (hit.1 h).2.1), by show ct - (i + 1) < ct - i; omega⟩
    · obtain rfl : i = ct := by omega
      have hul := used_le oo.sb
      have osg := oo.sg
      have hqs := Reads.of_own M.h.hs
      have hqt := Reads.of_own M.h.ht
      have bds := own_bd M.h.hs
      have bdt := own_bd M.h.ht
      have hmx : maxLen = 9223372036854775807 := rfl
      have K20 := rall09 Q.sA Q.st.sm.length Q.sc Q.st.sm w7 hqs (by rw [qsm]; exact oo.sb) bds.1 (by omega) (by rw [qsm]; omega)
      refine J.exit ?_
      refine J.seq ?_
      refine J.region ?_
      refine L.va rfl (X.fieldAddr rfl Tryd.underlying42 rfl sz_39 (by decide)) ?_
      refine L.va rfl (X.load rfl sc_39 (by first | exact Ld.blk q4 rfl | exact Ld.blk q12 rfl)) ?_
      refine L.call rfl en_43 rfl (K20) ?_
      rintro e w8 ⟨Ao, co, bs, p, er, rfl, eA, hrow, hels, he8⟩
      refine ⟨_, rfl, ?_⟩
      rw [qsm] at eA
      have he8 : Ext w7 w8 := he8
      have eU : used o.sm = p := by unfold used; rw [eA]
      have eR : recs o.sm = bs.map Bo.l := by unfold recs; rw [eA]
      rw [eU] at hul
      have z8 := he8.le
      have q48 := q4.ext he8
      have q128 : Blk w8 b12 42 #[.int .i64 (fr : Int), .int .i64 (i : Int), .int .u64 ep, .int .u64 o.nx, Q.ss, Q.ts, .int .i64 0] := q12.ext he8
      obtain ⟨R0, hR0⟩ : ∃ R0 : Rl, R0 = ⟨Q.sA, Q.sc, Q.tA, Q.tc, ⟨fr, i, ep, o.nx, Q.st.sm, Q.st.tm, 0⟩⟩ := ⟨_, rfl⟩
      have K153 : ∀ w', R0.At w.heap.size w' → Calls Tryd.prog 44 #[.agg #[.int .i64 (fr : Int), .int .i64 (i : Int), .int .u64 ep, .int .u64 o.nx, Q.ss, Q.ts, .int .i64 0], .int .i64 (p : Int)] w' fun e w'' => ∃ R' : Rl, e = .returned R'.v ∧ R'.st = ⟨fr, i, ep, o.nx, Q.st.sm.take p, Q.st.tm.take ((p + 990) / 991), 0⟩ ∧ R'.At w'.heap.size w'' ∧ Ext w' w'' := by
        intro w' hA
        rw [hR0] at hA
        exact cut22 ⟨Q.sA, Q.sc, Q.tA, Q.tc, ⟨fr, i, ep, o.nx, Q.st.sm, Q.st.tm, 0⟩⟩ p w' (Reads.of_own hA.hs) bds.1 (Reads.of_own hA.ht) bdt.1 (by show p ≤ Q.st.sm.length; rw [qsm]; omega) (by show (p + 990) / 991 ≤ Q.st.tm.length; rw [qtm]; omega) (by show Q.st.sm.length ≤ _; rw [qsm]; omega)
      have hQ8 : R0.At w.heap.size w8 := by rw [hR0]; exact ⟨(M.h.ext he8).hs, (M.h.ext he8).ht⟩
      have c8 := q8.ext he8
      have c9 := q9.ext he8
      have hsa8 := M.hr.ext he8
      have heS8 := he7.trans he8
      refine L.va rfl (X.move (by conv => lhs; whnf)) ?_
      refine L.va rfl (X.extract rfl rfl) ?_
      refine L.va rfl (X.extract rfl rfl) ?_
      refine L.va rfl (X.extract rfl rfl) ?_
      refine L.va rfl (X.assign (by conv => lhs; whnf)) ?_
      refine L.va rfl (X.assign (by conv => lhs; whnf)) ?_
      refine L.va rfl (X.assign (by conv => lhs; whnf)) ?_
      refine L.nil ?_
      refine J.seq ?_
      refine J.draw (ℓ := 1000000) (S := (fun w' => Blk w' b4 33 #[s.K, s.P, .bool s.off, .int .i64 s.left, .int .i64 s.rd, .int .i64 s.wr, .int .i64 s.fl] ∧ Blk w' b12 42 #[.int .i64 (fr : Int), .int .i64 (i : Int), .int .u64 ep, .int .u64 o.nx, Q.ss, Q.ts, .int .i64 0])) mixed (fun w9 hSE hS_h => ?_)
      have hS : ((fun w' => Blk w' b4 33 #[s.K, s.P, .bool s.off, .int .i64 s.left, .int .i64 s.rd, .int .i64 s.wr, .int .i64 s.fl] ∧ Blk w' b12 42 #[.int .i64 (fr : Int), .int .i64 (i : Int), .int .u64 ep, .int .u64 o.nx, Q.ss, Q.ts, .int .i64 0])) w9 := And.intro (q48.ext hSE) (q128.ext hSE)
      have hQ := hQ8.ext hSE
      have k8c := c8.ext hSE
      have k9c := c9.ext hSE
      have hsa := hsa8.ext hSE
      have heS := heS8.trans hSE
      have hrow' := hrow.ext hSE
      have hels' : ∀ b ∈ bs, World.ownsRow _ w7.heap.size 5 1 b.v b.l.length (nums .u8 b.l) := fun b hb => (hels b hb).ext hSE
      refine D.va 0 rfl (by kernel_rfl) (fun _ _ _ h => h) rfl (fun w' hw => X.loadAgg rfl (range_l hw.1) Tryd.underlying33 rfl (by kernel_rfl)) hS ?_
      refine D.va 1 rfl (by kernel_rfl) (fun _ _ _ h => h) rfl (fun w' hw => X.loadAgg rfl (range_l hw.2) Tryd.underlying42 rfl (by kernel_rfl)) hS ?_
      refine D.va 2 rfl (by kernel_rfl) (fun _ _ _ h => h) rfl (fun w' hw => X.move (by conv => lhs; whnf)) hS ?_
      refine D.va 4 rfl (by kernel_rfl) (fun _ _ _ h => h) rfl (fun w' hw => X.move (by conv => lhs; whnf)) hS ?_
      refine D.one 3 (by kernel_rfl) rfl ?_
      refine L.call rfl en_44 rfl ((K153 _ hQ)) ?_
      rintro e wC ⟨R6, rfl, sR, aR, heR⟩
      refine ⟨_, rfl, ?_⟩
      have hS1 := And.intro ((hS).1.ext heR) ((hS).2.ext heR)
      refine L.nil ?_
      refine ⟨fun _ => hS1, ?_⟩
      have zR := (heS).le
      replace aR := aR.lower zR
      replace hQ := hQ.ext heR
      try replace k8c := k8c.ext heR
      try replace k8d := k8d.ext heR
      replace k9c := k9c.ext heR
      replace hsa := hsa.ext heR
      replace heS := heS.trans heR
      replace hrow' := hrow'.ext heR
      replace hels' := fun b hb => (hels' b hb).ext heR
      refine D.one 5 (by kernel_rfl) rfl ?_
      refine L.storeAgg (vs := [_, _, _, _, _, _, _]) rfl rfl rfl rfl sz_33 (k8c) rfl ?_
      intro wD k8d hg8 hs8
      have hS2 := And.intro ((hS1).1.grown hg8 (nb n48)) ((hS1).2.grown hg8 (nb n8c.symm))
      refine L.nil ?_
      refine ⟨fun _ => hS2, ?_⟩
      try replace aR := aR.blkL k8c hg8
      replace hQ := hQ.blkL k8c hg8
      try replace k9c := k9c.grown hg8 (nb n89.symm)
      try replace k9d := k9d.grown hg8 (nb n89.symm)
      replace hsa := hsa.blkL k8c hg8 (by omega)
      replace heS := heS.grw hg8 (by intro g hg; injection hg with hg; omega)
      replace hrow' := hrow'.kept hg8 (.inr (own_blk_ne hrow' k8c (by decide)))
      replace hels' := fun b hb => (hels' b hb).kept hg8 (.inr (own_blk_ne (hels' b hb) k8c (by decide)))
      refine D.one 6 (by kernel_rfl) rfl ?_
      refine L.storeAgg (vs := [_, _, _, _, _, _, _]) rfl rfl rfl rfl sz_42 (k9c) rfl ?_
      intro wE k9d hg9 hs9
      have hS3 := And.intro ((hS2).1.grown hg9 (nb n49)) ((hS2).2.grown hg9 (nb n9c.symm))
      refine L.nil ?_
      refine ⟨fun _ => hS3, ?_⟩
      replace aR := aR.blkL k9c hg9
      try replace k8c := k8c.grown hg9 (nb n89)
      try replace k8d := k8d.grown hg9 (nb n89)
      replace hsa := hsa.blkL k9c hg9 (by omega)
      replace heS := heS.grw hg9 (by intro g hg; injection hg with hg; omega)
      replace hrow' := hrow'.kept hg9 (.inr (own_blk_ne hrow' k9c (by decide)))
      replace hels' := fun b hb => (hels' b hb).kept hg9 (.inr (own_blk_ne (hels' b hb) k9c (by decide)))
      refine D.va 7 rfl (by kernel_rfl) (fun _ _ _ h => h) rfl (fun w' hw => X.assign (by conv => lhs; whnf)) hS3 ?_
      refine D.va 8 rfl (by kernel_rfl) (fun _ _ _ h => h) rfl (fun w' hw => X.assign (by conv => lhs; whnf)) hS3 ?_
      refine D.done (by kernel_rfl) ?_
      refine J.ret ?_
      refine finCCTT rfl (run_cell k8d Tryd.underlying33 rfl (by kernel_rfl)) rfl (run_cell k9d Tryd.underlying42 rfl (by kernel_rfl)) ?_
      refine ⟨s, R6, Ao, co, bs, rfl, hsa, aR, M.ab, ?_, by rw [← hO, eR], hrow'.mono z7, fun b hb => (hels' b hb).mono z7, heS, M.fr_, M.cf⟩
      rw [sR, qsm, qtm]
      unfold openL
      rw [← hO, eU]
end Go.Proofs.YtjdimgigbgafbaaDoor
namespace Go.Proofs.YtjdimgigbgafbaaDoor
set_option maxRecDepth 100000
open Byts Seal Fram
set_option linter.unusedVariables false
namespace Lo
def frs (rs : List (List Int)) : List Int := rs.flatMap (frm smZ)
theorem frs_nil : frs [] = [] := rfl
theorem frs_cons (b : List Int) (rs : List (List Int)) : frs (b :: rs) = frm smZ b ++ frs rs := by simp [frs]
theorem frs_append (a b : List (List Int)) : frs (a ++ b) = frs a ++ frs b := by simp [frs]
theorem frs_snoc (a : List (List Int)) (b : List Int) : frs (a ++ [b]) = frs a ++ frm smZ b := by simp [frs]
theorem frm_len (b : List Int) : (frm smZ b).length = 8 + b.length := frm_length smZ (fun _ => rfl) b
structure Cuts (zs : List Int) (rs : List (List Int)) (t : List Int) : Prop where
  e : zs = frs rs ++ t
  s : ∀ b ∈ rs, b.length ≤ 60000
  d : gE smZ t ≠ 0
theorem gE_nil : gE smZ [] ≠ 0 := by
  have h0 : nZ [] = 0 := rfl
  unfold gE
  rw [if_neg (by simp), h0, if_neg (by decide), if_pos (by simp)]
  decide
theorem allF_shift : ∀ (n : Nat) (zs : List Int) (p : Nat), zs.length - p ≤ n → allF zs p = ((allF (zs.drop p) 0).1, p + (allF (zs.drop p) 0).2.1, (allF (zs.drop p) 0).2.2)
  | 0, zs, p, h => by
    rw [allF_end (by omega), allF_end (zs := zs.drop p) (by rw [List.length_drop]; omega)]
    rfl
  | n + 1, zs, p, h => by
    by_cases hp : p < zs.length
    · by_cases he : gE smZ (zs.drop p) = 0
      · have hs : 1 ≤ gStep (zs.drop p) := by unfold gStep; omega
        have hl : 0 < (zs.drop p).length := by rw [List.length_drop]; omega
        rw [allF_ok hp he, allF_ok (zs := zs.drop p) (p := 0) hl (by rw [List.drop_zero]; exact he), List.drop_zero]
        rw [allF_shift n zs (p + gStep (zs.drop p)) (by omega), Nat.zero_add, allF_shift n (zs.drop p) (gStep (zs.drop p)) (by rw [List.length_drop]; omega)]
        rw [List.drop_drop]
        simp only [Nat.add_assoc]
      · have hl : 0 < (zs.drop p).length := by rw [List.length_drop]; omega
        rw [allF_bad hp he, allF_bad (zs := zs.drop p) (p := 0) hl (by rw [List.drop_zero]; exact he), List.drop_zero]
        rfl
    · rw [allF_end (by omega), allF_end (zs := zs.drop p) (by rw [List.length_drop]; omega)]
      rfl
theorem allF_frm (b t : List Int) (hb : b.length ≤ 60000) : allF (frm smZ b ++ t) 0 = (b :: (allF t 0).1, 8 + b.length + (allF t 0).2.1, (allF t 0).2.2) := by
  have h0 := gE_frm smZ (fun _ => rfl) b t hb
  have h1 := gB_frm smZ (fun _ => rfl) b t hb
  have hlen := frm_len b
  have hs : gStep (frm smZ b ++ t) = 8 + b.length := by unfold gStep; rw [h1.2]; omega
  have hd : (frm smZ b ++ t).drop (8 + b.length) = t := by rw [← hlen, List.drop_left]
  rw [allF_ok (by rw [List.length_append]; omega) (by rw [List.drop_zero]; exact h0.2), List.drop_zero, h1.1, hs, allF_shift _ _ _ (Nat.le_refl _), Nat.zero_add, hd]
theorem allF_dead {t : List Int} (h : gE smZ t ≠ 0) : (allF t 0).1 = [] ∧ (allF t 0).2.1 = 0 := by
  by_cases hl : 0 < t.length
  · rw [allF_bad hl (by rw [List.drop_zero]; exact h)]
    exact ⟨rfl, rfl⟩
  · rw [allF_end (by omega)]
    exact ⟨rfl, rfl⟩
theorem allF_frs (t : List Int) : ∀ (rs : List (List Int)), (∀ b ∈ rs, b.length ≤ 60000) → (allF (frs rs ++ t) 0).1 = rs ++ (allF t 0).1 ∧ (allF (frs rs ++ t) 0).2.1 = (frs rs).length + (allF t 0).2.1
  | [], _ => by rw [frs_nil, List.nil_append]; exact ⟨rfl, (Nat.zero_add _).symm⟩
  | b :: rs, h => by
    have ih := allF_frs t rs (fun x hx => h x (List.mem_cons_of_mem _ hx))
    rw [frs_cons, List.append_assoc, allF_frm b _ (h b List.mem_cons_self)]
    refine ⟨?_, ?_⟩
    · show b :: (allF (frs rs ++ t) 0).1 = _
      rw [ih.1]
      rfl
    · show 8 + b.length + (allF (frs rs ++ t) 0).2.1 = _
      rw [ih.2, List.length_append, frm_len]
      omega
theorem Cuts.rec_ {zs t : List Int} {rs : List (List Int)} (h : Cuts zs rs t) : recs zs = rs ∧ used zs = (frs rs).length := by
  have h1 := allF_frs t rs h.s
  have h2 := allF_dead h.d
  unfold recs used
  rw [h.e, h1.1, h1.2, h2.1, h2.2, List.append_nil]
  exact ⟨rfl, rfl⟩
theorem Cuts.take {zs t : List Int} {rs : List (List Int)} (h : Cuts zs rs t) : zs.take (used zs) = frs rs := by
  rw [h.rec_.2, h.e, List.take_left]
theorem getD_left {a b : List Int} {i : Nat} (h : i < a.length) : (a ++ b).getD i 0 = a.getD i 0 := by
  rw [List.getD, List.getD, List.getElem?_append_left h]
theorem gE_ok {a : List Int} (h : gE smZ a = 0) (hb : Bytes a) : 0 ≤ nZ a ∧ nZ a ≤ 60000 ∧ 8 + nZ a ≤ (a.length : Int) ∧ a.getD 0 0 = 181 ∧ (a.drop (4 + (nZ a).toNat)).take 4 = smZ (a.take (4 + (nZ a).toNat)) := by
  have h0 := (nZ_nn hb).1
  unfold gE at h
  split at h
  · cases h
  · rename_i h1
    split at h
    · cases h
    · rename_i h2
      split at h
      · cases h
      · rename_i h3
        split at h
        · cases h
        · rename_i h4
          refine ⟨h0, by omega, by omega, Decidable.byContradiction fun hn => h1 ⟨by omega, hn⟩, Decidable.byContradiction fun hn => h4 hn⟩
theorem gE_mono {a b : List Int} (h : gE smZ a = 0) (hb : Bytes a) : gE smZ (a ++ b) = 0 ∧ nZ (a ++ b) = nZ a := by
  obtain ⟨h0, h1, h2, h3, h4⟩ := gE_ok h hb
  have hn : nZ (a ++ b) = nZ a := by
    unfold nZ
    rw [getD_left (by omega), getD_left (by omega), getD_left (by omega)]
  refine ⟨?_, hn⟩
  unfold gE
  rw [if_neg, hn, if_neg (by omega), if_neg (by rw [List.length_append]; omega), if_neg]
  · rw [List.drop_append_of_le_length (by omega), List.take_append_of_le_length (by rw [List.length_drop]; omega), List.take_append_of_le_length (by omega)]
    exact fun hx => hx h4
  · rintro ⟨_, hx⟩
    rw [getD_left (by omega)] at hx
    exact hx h3
theorem dead_pre {p y : List Int} (hp : p <+: y) (hb : Bytes p) (h : gE smZ y ≠ 0) : gE smZ p ≠ 0 := by
  obtain ⟨q, rfl⟩ := hp
  exact fun he => h (gE_mono he hb).1
theorem part_dead {p y b : List Int} (hp : p <+: frm smZ b ++ y) (hb : Bytes p) (hl : b.length ≤ 60000) (h : p.length < 8 + b.length) : gE smZ p ≠ 0 := by
  obtain ⟨q, hq⟩ := hp
  intro he
  have h1 := (gE_mono (b := q) he hb).2
  rw [hq, (gE_frm smZ (fun _ => rfl) b y hl).1] at h1
  have h2 := (gE_ok he hb).2.2.1
  omega
theorem pre_cuts (t : List Int) (ht : gE smZ t ≠ 0) : ∀ (r1 : List (List Int)) (p : List Int), (∀ b ∈ r1, b.length ≤ 60000) → p <+: frs r1 ++ t → Bytes p → ∃ r' t', r' <+: r1 ∧ Cuts p r' t'
  | [], p, _, hp, hb => ⟨[], p, List.prefix_refl _, rfl, (fun b hb => by cases hb), dead_pre hp hb ht⟩
  | b :: r1, p, hs, hp, hb => by
    have hbl := hs b List.mem_cons_self
    rw [frs_cons, List.append_assoc] at hp
    by_cases hl : p.length < 8 + b.length
    · exact ⟨[], p, List.nil_prefix, rfl, (fun b hb => by cases hb), part_dead hp hb hbl hl⟩
    · have h1 : frm smZ b <+: p := List.prefix_of_prefix_length_le (List.prefix_append _ _) hp (by rw [frm_len]; omega)
      obtain ⟨p', rfl⟩ := h1
      have h2 : p' <+: frs r1 ++ t := (List.prefix_append_right_inj _).1 hp
      obtain ⟨r', t', h3, h4⟩ := pre_cuts t ht r1 p' (fun x hx => hs x (List.mem_cons_of_mem _ hx)) h2 (fun z hz => hb z (List.mem_append_right _ hz))
      refine ⟨b :: r', t', (List.prefix_append_right_inj [b]).2 h3, ?_, ?_, h4.d⟩
      · rw [frs_cons, List.append_assoc, ← h4.e]
      · intro x hx
        rcases List.mem_cons.1 hx with rfl | hx
        · exact hbl
        · exact h4.s x hx
theorem frs_pre {a b : List (List Int)} (h : a <+: b) : frs a <+: frs b := by
  obtain ⟨c, rfl⟩ := h
  exact ⟨frs c, (frs_append a c).symm⟩
theorem Cuts.whole {y t : List Int} {rs r' : List (List Int)} (h : Cuts (frs rs ++ y) r' t) (hp : r' <+: rs) (hs : ∀ b ∈ rs, b.length ≤ 60000) : r' = rs := by
  have h1 := (allF_frs y rs hs).1
  have h2 := h.rec_.1
  unfold recs at h2
  rw [h1] at h2
  have h3 : r'.length ≤ rs.length := hp.length_le
  have h4 := congrArg List.length h2
  rw [List.length_append] at h4
  exact hp.eq_of_length (by omega)
theorem left_cuts {r0 rs : List (List Int)} {x t : List Int} (h0 : r0 <+: rs) (hs : ∀ b ∈ rs, b.length ≤ 60000) (ht : gE smZ t ≠ 0) (hx : x <+: frs rs ++ t) (hl : (frs r0).length ≤ x.length) (hb : Bytes x) : ∃ r' t', r0 <+: r' ∧ r' <+: rs ∧ Cuts x r' t' := by
  obtain ⟨r1, rfl⟩ := h0
  rw [frs_append, List.append_assoc] at hx
  have h1 : frs r0 <+: x := List.prefix_of_prefix_length_le (List.prefix_append _ _) hx hl
  obtain ⟨p, rfl⟩ := h1
  obtain ⟨r', t', h3, h4⟩ := pre_cuts t ht r1 p (fun b hb => hs b (List.mem_append_right _ hb)) ((List.prefix_append_right_inj _).1 hx) (fun z hz => hb z (List.mem_append_right _ hz))
  refine ⟨r0 ++ r', t', List.prefix_append _ _, (List.prefix_append_right_inj _).2 h3, ?_, ?_, h4.d⟩
  · rw [frs_append, List.append_assoc, ← h4.e]
  · intro b hb
    rcases List.mem_append.1 hb with hb | hb
    · exact hs b (List.mem_append_left _ hb)
    · exact h4.s b hb
end Lo
end Go.Proofs.YtjdimgigbgafbaaDoor
namespace Go.Proofs.YtjdimgigbgafbaaDoor
set_option maxRecDepth 100000
open Byts Seal Fram
set_option linter.unusedVariables false
namespace Lo
def opK (K : Nat → List Int) (ep : Int) : Nat → Os
  | 0 => ⟨1, true, [], []⟩
  | i + 1 => opStep ep i (K i) (opK K ep i)
theorem opI_K (s : Ds) (fr : Nat) (ep : Int) : ∀ i, opI s fr ep i = opK (fun j => s.now (fr + j)) ep i
  | 0 => rfl
  | i + 1 => by
    show opStep ep i (s.now (fr + i)) (opI s fr ep i) = opStep ep i (s.now (fr + i)) (opK (fun j => s.now (fr + j)) ep i)
    rw [opI_K s fr ep i]
theorem opK_same {K K' : Nat → List Int} {ep : Int} : ∀ {n : Nat}, (∀ j < n, K' j = K j) → opK K' ep n = opK K ep n
  | 0, _ => rfl
  | n + 1, h => by
    show opStep ep n (K' n) (opK K' ep n) = opStep ep n (K n) (opK K ep n)
    rw [h n (by omega), opK_same (fun j hj => h j (by omega))]
section
variable {K : Nat → List Int} {ep : Int} {n : Nat}
theorem opK_ok : ∀ {n : Nat}, (∀ j < n, Bytes (K j)) → OsOk (opK K ep n) n
  | 0, _ => OsOk.zero
  | n + 1, h => (opK_ok (fun j hj => h j (by omega))).step ep (h n (by omega))
theorem opStep_yes {i : Nat} {zs : List Int} {o : Os} (h : (o.ch && okP zs ep && fol o i zs) = true) : (opStep ep i zs o).ch = true ∧ (opStep ep i zs o).tm = o.tm ++ [sB smZ zs] ∧ (opStep ep i zs o).sm = o.sm ++ pBy zs := by
  unfold opStep
  rw [if_pos h]
  exact ⟨rfl, rfl, rfl⟩
theorem opStep_no {i : Nat} {zs : List Int} {o : Os} (h : ¬ (o.ch && okP zs ep && fol o i zs) = true) : (opStep ep i zs o).ch = false ∧ (opStep ep i zs o).tm = o.tm ∧ (opStep ep i zs o).sm = o.sm := by
  unfold opStep
  rw [if_neg h]
  exact ⟨rfl, rfl, rfl⟩
theorem opStep_ch {i : Nat} {zs : List Int} {o : Os} : (opStep ep i zs o).ch = true ↔ (o.ch && okP zs ep && fol o i zs) = true := by
  by_cases h : (o.ch && okP zs ep && fol o i zs) = true
  · exact ⟨fun _ => h, fun _ => (opStep_yes h).1⟩
  · refine ⟨fun hc => ?_, fun hc => absurd hc h⟩
    rw [(opStep_no h).1] at hc
    cases hc
theorem step3 {o : Os} {zs : List Int} {i : Nat} : (o.ch && okP zs ep && fol o i zs) = true ↔ o.ch = true ∧ okP zs ep = true ∧ fol o i zs = true := by
  simp only [Bool.and_eq_true]
  constructor
  · rintro ⟨⟨a, b⟩, c⟩; exact ⟨a, b, c⟩
  · rintro ⟨a, b, c⟩; exact ⟨⟨a, b⟩, c⟩
theorem opK_stuck {i : Nat} (h : (opK K ep i).ch = false ∨ (opK K ep i).sm.length ≠ i * 991) : ∀ d, (opK K ep (i + d)).sm = (opK K ep i).sm ∧ (opK K ep (i + d)).tm = (opK K ep i).tm ∧ (0 < d → (opK K ep (i + d)).ch = false)
  | 0 => ⟨rfl, rfl, fun h => absurd h (by omega)⟩
  | d + 1 => by
    obtain ⟨h1, h2, h3⟩ := opK_stuck h d
    have hno : ¬ ((opK K ep (i + d)).ch && okP (K (i + d)) ep && fol (opK K ep (i + d)) (i + d) (K (i + d))) = true := by
      rw [step3]
      rintro ⟨a, b, c⟩
      by_cases hd : 0 < d
      · rw [h3 hd] at a
        cases a
      · obtain rfl : d = 0 := by omega
        rcases h with h | h
        · rw [Nat.add_zero, h] at a
          cases a
        · exact h (fol_len c)
    obtain ⟨k1, k2, k3⟩ := opStep_no hno
    exact ⟨k3.trans h1, k2.trans h2, fun _ => k1⟩
theorem opK_pre : ∀ {i : Nat} (d : Nat), (opK K ep i).sm <+: (opK K ep (i + d)).sm ∧ (opK K ep i).tm <+: (opK K ep (i + d)).tm
  | i, 0 => ⟨List.prefix_refl _, List.prefix_refl _⟩
  | i, d + 1 => by
    obtain ⟨h1, h2⟩ := opK_pre (i := i) d
    by_cases hc : ((opK K ep (i + d)).ch && okP (K (i + d)) ep && fol (opK K ep (i + d)) (i + d) (K (i + d))) = true
    · obtain ⟨_, k2, k3⟩ := opStep_yes hc
      refine ⟨h1.trans ?_, h2.trans ?_⟩
      · show _ <+: (opStep ep (i + d) (K (i + d)) (opK K ep (i + d))).sm
        rw [k3]
        exact List.prefix_append _ _
      · show _ <+: (opStep ep (i + d) (K (i + d)) (opK K ep (i + d))).tm
        rw [k2]
        exact List.prefix_append _ _
    · obtain ⟨_, k2, k3⟩ := opStep_no hc
      refine ⟨?_, ?_⟩
      · show _ <+: (opStep ep (i + d) (K (i + d)) (opK K ep (i + d))).sm
        rw [k3]; exact h1
      · show _ <+: (opStep ep (i + d) (K (i + d)) (opK K ep (i + d))).tm
        rw [k2]; exact h2
theorem opK_pre' {i : Nat} (h : i ≤ n) : (opK K ep i).sm <+: (opK K ep n).sm ∧ (opK K ep i).tm <+: (opK K ep n).tm := by
  have := opK_pre (K := K) (ep := ep) (i := i) (n - i)
  rwa [show i + (n - i) = n by omega] at this
theorem opK_whole (hb : ∀ j < n, Bytes (K j)) {i : Nat} (hi : i ≤ n) (h : i * 991 ≤ (opK K ep n).sm.length) : (opK K ep i).ch = true ∧ (opK K ep i).sm.length = i * 991 ∧ (opK K ep i).tm.length = i := by
  have ho := opK_ok (K := K) (ep := ep) (n := i) (fun j hj => hb j (by omega))
  have hlen : (opK K ep i).sm.length = i * 991 := by
    apply Decidable.byContradiction
    intro hn
    have h1 := (opK_stuck (K := K) (ep := ep) (i := i) (.inr hn) (n - i)).1
    rw [show i + (n - i) = n by omega] at h1
    have h2 := ho.sl
    rw [h1] at h
    omega
  have hch : (opK K ep i).ch = true := by
    rcases i with _ | i
    · rfl
    · cases hc : (opK K ep (i + 1)).ch
      · have hno : ¬ ((opK K ep i).ch && okP (K i) ep && fol (opK K ep i) i (K i)) = true := by
          rw [← opStep_ch (ep := ep)]
          show ¬ (opK K ep (i + 1)).ch = true
          rw [hc]
          decide
        have h2 : (opK K ep (i + 1)).sm = (opK K ep i).sm := (opStep_no hno).2.2
        have h3 := (opK_ok (K := K) (ep := ep) (n := i) (fun j hj => hb j (by omega))).sl
        rw [h2] at hlen
        omega
      · rfl
  exact ⟨hch, hlen, ho.c1 hch⟩
theorem opK_take (hb : ∀ j < n, Bytes (K j)) {i : Nat} (hi : i ≤ n) (h : i * 991 ≤ (opK K ep n).sm.length) : (opK K ep i).sm = (opK K ep n).sm.take (i * 991) ∧ (opK K ep i).tm = (opK K ep n).tm.take i := by
  obtain ⟨_, h2, h3⟩ := opK_whole hb hi h
  obtain ⟨p1, p2⟩ := opK_pre' (K := K) (ep := ep) hi
  exact ⟨by rw [← h2]; exact (List.prefix_iff_eq_take.1 p1), by
    have := List.prefix_iff_eq_take.1 p2
    rwa [h3] at this⟩
theorem opK_tm : ∀ {n : Nat}, ∀ t ∈ (opK K ep n).tm, ∃ j < n, okP (K j) ep = true ∧ t = sB smZ (K j)
  | 0, t, h => by cases h
  | n + 1, t, h => by
    by_cases hc : ((opK K ep n).ch && okP (K n) ep && fol (opK K ep n) n (K n)) = true
    · have h : t ∈ (opStep ep n (K n) (opK K ep n)).tm := h
      rw [(opStep_yes hc).2.1] at h
      rcases List.mem_append.1 h with h | h
      · obtain ⟨j, h1, h2⟩ := opK_tm t h
        exact ⟨j, by omega, h2⟩
      · obtain rfl : t = sB smZ (K n) := by simpa using h
        exact ⟨n, by omega, (step3.1 hc).2.1, rfl⟩
    · have h : t ∈ (opStep ep n (K n) (opK K ep n)).tm := h
      rw [(opStep_no hc).2.1] at h
      obtain ⟨j, h1, h2⟩ := opK_tm t h
      exact ⟨j, by omega, h2⟩
theorem opStep_nx (i : Nat) (zs : List Int) (o : Os) : (opStep ep i zs o).nx = opNx ep zs o := by
  unfold opStep
  split <;> rfl
theorem opK_nx : ∀ {n : Nat}, 1 ≤ (opK K ep n).nx ∧ ∀ j < n, okP (K j) ep = true → sB smZ (K j) < (opK K ep n).nx
  | 0 => ⟨Int.le_refl _, fun j hj => absurd hj (by omega)⟩
  | n + 1 => by
    obtain ⟨h0, h⟩ := opK_nx (n := n)
    have e : (opK K ep (n + 1)).nx = opNx ep (K n) (opK K ep n) := opStep_nx n (K n) (opK K ep n)
    have h1 : (opK K ep n).nx ≤ opNx ep (K n) (opK K ep n) := by
      unfold opNx
      split <;> omega
    refine ⟨by omega, fun j hj hk => ?_⟩
    by_cases hjn : j = n
    · subst hjn
      rw [e]
      unfold opNx
      rw [if_pos hk]
      omega
    · have := h j (by omega) hk
      omega
end
def prevT (o : Os) (j : Nat) : Int := if j = 0 then 0 else o.tm.getD (j - 1) 0
theorem fol_iff {o : Os} {i : Nat} {zs : List Int} : fol o i zs = true ↔ pAt zs = i ∧ o.sm.length = i * 991 ∧ pPrev zs = prevT o i := by
  unfold fol prevT
  by_cases h1 : pAt zs ≠ i ∨ o.sm.length ≠ i * 991
  · rw [if_pos h1]
    constructor
    · intro h; cases h
    · rintro ⟨a, b, _⟩
      rcases h1 with h1 | h1
      · exact absurd a h1
      · exact absurd b h1
  · rw [if_neg h1]
    by_cases h0 : i = 0
    · rw [if_pos h0, if_pos h0, decide_eq_true_iff]
      constructor
      · intro h; exact ⟨by omega, by omega, h⟩
      · rintro ⟨_, _, h⟩; exact h
    · rw [if_neg h0, if_neg h0, decide_eq_true_iff]
      constructor
      · intro h; exact ⟨by omega, by omega, h⟩
      · rintro ⟨_, _, h⟩; exact h
structure Wrt (fr ct : Nat) (ep : Int) (K0 : Nat → List Int) (F : List Int) (n0 : Nat) (nx0 nx : Int) (j : Nat) (z : List Int) : Prop where
  lo : n0 / 991 ≤ j
  hi : j < ct
  by_ : Bytes z
  ok : okP z ep = true
  at_ : pAt z = j
  t0 : nx0 ≤ sB smZ z
  t1 : sB smZ z < nx
  pr : pPrev z < sB smZ z
  ch : ∃ n, pBy z = (F.drop (j * 991)).take n ∧ n0 < j * 991 + n ∧ j * 991 + n ≤ F.length ∧ n ≤ 991
  p0 : j = n0 / 991 → pPrev z = prevT (opK K0 ep j) j
  p1 : n0 / 991 < j → nx0 ≤ pPrev z
structure Bas (ct : Nat) (ep : Int) (K0 : Nat → List Int) (r0 : List (List Int)) (nx0 : Int) : Prop where
  by_ : ∀ j < ct, Bytes (K0 j)
  cut : ∃ t, Cuts (opK K0 ep ct).sm r0 t
  lt : ∀ j < ct, okP (K0 j) ep = true → pPrev (K0 j) < sB smZ (K0 j) ∧ sB smZ (K0 j) < nx0
  n1 : 1 ≤ nx0
theorem take_add {F : List Int} {a n : Nat} : F.take a ++ (F.drop a).take n = F.take (a + n) := by
  rw [List.take_add]
theorem crash_sm {fr ct : Nat} {ep : Int} {K0 K1 : Nat → List Int} {r0 rs : List (List Int)} {nx0 nx : Int} (B : Bas ct ep K0 r0 nx0) (hpre : r0 <+: rs)
    (h : ∀ j < ct, K1 j = K0 j ∨ Wrt fr ct ep K0 (frs rs) (frs r0).length nx0 nx j (K1 j)) :
    ((opK K1 ep ct).sm <+: (opK K0 ep ct).sm ∨ (opK K1 ep ct).sm <+: frs rs) ∧ (frs r0).length ≤ (opK K1 ep ct).sm.length := by
  obtain ⟨t0, hcut⟩ := B.cut
  have hF : frs r0 <+: frs rs := frs_pre hpre
  have hFl : (frs r0).length ≤ (frs rs).length := hF.length_le
  have hS : (frs r0).length ≤ (opK K0 ep ct).sm.length := by rw [hcut.e, List.length_append]; omega
  have tk : ∀ i, i * 991 ≤ (frs r0).length → (opK K0 ep ct).sm.take (i * 991) = (frs rs).take (i * 991) := fun i hi => by
    obtain ⟨u, hu⟩ := hF
    rw [hcut.e, List.take_append_of_le_length hi, ← hu, List.take_append_of_le_length hi]
  have key : ∀ i, i ≤ ct → ((opK K1 ep i).sm = (opK K0 ep i).sm ∧ (opK K1 ep i).tm = (opK K0 ep i).tm ∧ (opK K1 ep i).ch = (opK K0 ep i).ch)
      ∨ ((opK K1 ep i).ch = true ∧ 0 < i ∧ (opK K1 ep i).sm = (frs rs).take (opK K1 ep i).sm.length ∧ (frs r0).length < (opK K1 ep i).sm.length ∧ (opK K1 ep i).tm.length = i ∧ nx0 ≤ (opK K1 ep i).tm.getD (i - 1) 0)
      ∨ ((opK K1 ep i).ch = false ∧ ((opK K1 ep i).sm <+: (opK K0 ep ct).sm ∨ (opK K1 ep i).sm <+: frs rs) ∧ (frs r0).length ≤ (opK K1 ep i).sm.length) := by
    intro i
    induction i with
    | zero => exact fun _ => .inl ⟨rfl, rfl, rfl⟩
    | succ i ih =>
      intro hi
      show ((opStep ep i (K1 i) (opK K1 ep i)).sm = (opStep ep i (K0 i) (opK K0 ep i)).sm ∧ (opStep ep i (K1 i) (opK K1 ep i)).tm = (opStep ep i (K0 i) (opK K0 ep i)).tm ∧ (opStep ep i (K1 i) (opK K1 ep i)).ch = (opStep ep i (K0 i) (opK K0 ep i)).ch)
        ∨ ((opStep ep i (K1 i) (opK K1 ep i)).ch = true ∧ 0 < i + 1 ∧ (opStep ep i (K1 i) (opK K1 ep i)).sm = (frs rs).take (opStep ep i (K1 i) (opK K1 ep i)).sm.length ∧ (frs r0).length < (opStep ep i (K1 i) (opK K1 ep i)).sm.length ∧ (opStep ep i (K1 i) (opK K1 ep i)).tm.length = i + 1 ∧ nx0 ≤ (opStep ep i (K1 i) (opK K1 ep i)).tm.getD i 0)
        ∨ ((opStep ep i (K1 i) (opK K1 ep i)).ch = false ∧ ((opStep ep i (K1 i) (opK K1 ep i)).sm <+: (opK K0 ep ct).sm ∨ (opStep ep i (K1 i) (opK K1 ep i)).sm <+: frs rs) ∧ (frs r0).length ≤ (opStep ep i (K1 i) (opK K1 ep i)).sm.length)
      rcases ih (by omega) with ⟨a1, a2, a3⟩ | ⟨b1, b0, b2, b3, b4, b5⟩ | ⟨c1, c2, c3⟩
      · have ef : ∀ z, fol (opK K1 ep i) i z = fol (opK K0 ep i) i z := fun z => by unfold fol; rw [a1, a2]
        rcases h i (by omega) with hk | W
        · left
          rw [hk]
          by_cases hc : ((opK K0 ep i).ch && okP (K0 i) ep && fol (opK K0 ep i) i (K0 i)) = true
          · have hc1 : ((opK K1 ep i).ch && okP (K0 i) ep && fol (opK K1 ep i) i (K0 i)) = true := by rw [a3, ef]; exact hc
            obtain ⟨p1, p2, p3⟩ := opStep_yes hc
            obtain ⟨q1, q2, q3⟩ := opStep_yes hc1
            exact ⟨by rw [p3, q3, a1], by rw [p2, q2, a2], by rw [p1, q1]⟩
          · have hc1 : ¬ ((opK K1 ep i).ch && okP (K0 i) ep && fol (opK K1 ep i) i (K0 i)) = true := by rw [a3, ef]; exact hc
            obtain ⟨p1, p2, p3⟩ := opStep_no hc
            obtain ⟨q1, q2, q3⟩ := opStep_no hc1
            exact ⟨by rw [p3, q3, a1], by rw [p2, q2, a2], by rw [p1, q1]⟩
        · have lo := W.lo
          by_cases hik : i = (frs r0).length / 991
          ·
            have hw := opK_whole B.by_ (i := i) (by omega) (by omega : i * 991 ≤ (opK K0 ep ct).sm.length)
            have ht := (opK_take B.by_ (i := i) (by omega) (by omega : i * 991 ≤ (opK K0 ep ct).sm.length)).1
            have hc1 : ((opK K1 ep i).ch && okP (K1 i) ep && fol (opK K1 ep i) i (K1 i)) = true := by
              rw [step3]
              refine ⟨by rw [a3]; exact hw.1, W.ok, ?_⟩
              rw [ef, fol_iff]
              exact ⟨W.at_, hw.2.1, W.p0 hik⟩
            obtain ⟨q1, q2, q3⟩ := opStep_yes hc1
            obtain ⟨n, n1, n2, n3, n4⟩ := W.ch
            have es : (opStep ep i (K1 i) (opK K1 ep i)).sm = (frs rs).take (i * 991 + n) := by
              rw [q3, a1, ht, tk i (by omega), n1, take_add]
            have el : (opStep ep i (K1 i) (opK K1 ep i)).sm.length = i * 991 + n := by rw [es, List.length_take]; omega
            refine .inr (.inl ⟨q1, by omega, by rw [el]; exact es, by omega, by rw [q2, a2, List.length_append, hw.2.2]; rfl, ?_⟩)
            rw [q2, a2, List.getD, List.getElem?_append_right (by omega), hw.2.2, Nat.sub_self]
            exact W.t0
          · have hno : ¬ ((opK K1 ep i).ch && okP (K1 i) ep && fol (opK K1 ep i) i (K1 i)) = true := by
              rw [step3]
              rintro ⟨d1, _, d3⟩
              rw [fol_iff] at d3
              have hch : (opK K0 ep i).ch = true := by rw [← a3]; exact d1
              have hl := (opK_ok (K := K0) (ep := ep) (n := i) (fun j hj => B.by_ j (by omega))).c1 hch
              have hp := W.p1 (by omega)
              have e3 : pPrev (K1 i) = (opK K0 ep i).tm.getD (i - 1) 0 := by
                rw [d3.2.2]
                unfold prevT
                rw [if_neg (by omega), a2]
              have hm : (opK K0 ep i).tm.getD (i - 1) 0 ∈ (opK K0 ep i).tm := by
                rw [List.getD, List.getElem?_eq_getElem (by omega)]
                exact List.getElem_mem _
              obtain ⟨j, hj, hjo, hje⟩ := opK_tm _ hm
              have := (B.lt j (by omega) hjo).2
              omega
            obtain ⟨q1, q2, q3⟩ := opStep_no hno
            refine .inr (.inr ⟨q1, .inl (by rw [q3, a1]; exact (opK_pre' (by omega)).1), ?_⟩)
            rw [q3, a1]
            by_cases hl : (opK K0 ep i).sm.length = i * 991
            · omega
            · have := (opK_stuck (K := K0) (ep := ep) (i := i) (.inr hl) (ct - i)).1
              rw [show i + (ct - i) = ct by omega] at this
              rw [← this]
              exact hS
      · by_cases hc1 : ((opK K1 ep i).ch && okP (K1 i) ep && fol (opK K1 ep i) i (K1 i)) = true
        · obtain ⟨q1, q2, q3⟩ := opStep_yes hc1
          obtain ⟨_, hok, hfo⟩ := step3.1 hc1
          obtain ⟨f1, f2, f3⟩ := fol_iff.1 hfo
          unfold prevT at f3
          rw [if_neg (by omega)] at f3
          rcases h i (by omega) with hk | W
          · rw [hk] at hok f3
            have := B.lt i (by omega) hok
            omega
          · obtain ⟨n, n1, n2, n3, n4⟩ := W.ch
            have es : (opStep ep i (K1 i) (opK K1 ep i)).sm = (frs rs).take (i * 991 + n) := by
              rw [q3, b2, f2, n1, take_add]
            have el : (opStep ep i (K1 i) (opK K1 ep i)).sm.length = i * 991 + n := by rw [es, List.length_take]; omega
            refine .inr (.inl ⟨q1, by omega, by rw [el]; exact es, by omega, by rw [q2, List.length_append, b4]; rfl, ?_⟩)
            rw [q2, List.getD, List.getElem?_append_right (by omega), b4, Nat.sub_self]
            exact W.t0
        · obtain ⟨q1, q2, q3⟩ := opStep_no hc1
          refine .inr (.inr ⟨q1, .inr ?_, by rw [q3]; omega⟩)
          rw [q3, b2]
          exact List.take_prefix _ _
      · have hno : ¬ ((opK K1 ep i).ch && okP (K1 i) ep && fol (opK K1 ep i) i (K1 i)) = true := by
          rw [step3, c1]
          rintro ⟨d, _⟩
          cases d
        obtain ⟨q1, q2, q3⟩ := opStep_no hno
        exact .inr (.inr ⟨q1, by rw [q3]; exact c2, by rw [q3]; exact c3⟩)
  rcases key ct (Nat.le_refl _) with ⟨a1, _, _⟩ | ⟨_, _, b2, b3, _⟩ | ⟨_, c2, c3⟩
  · exact ⟨.inl (by rw [a1]; exact List.prefix_refl _), by rw [a1]; exact hS⟩
  · exact ⟨.inr (by rw [b2]; exact List.take_prefix _ _), Nat.le_of_lt b3⟩
  · exact ⟨c2, c3⟩
theorem crash_cuts {fr ct : Nat} {ep : Int} {K0 K1 : Nat → List Int} {r0 rs : List (List Int)} {nx0 nx : Int} (B : Bas ct ep K0 r0 nx0) (hpre : r0 <+: rs) (hs : ∀ b ∈ rs, b.length ≤ 60000)
    (h : ∀ j < ct, K1 j = K0 j ∨ Wrt fr ct ep K0 (frs rs) (frs r0).length nx0 nx j (K1 j)) :
    ∃ r' t', r0 <+: r' ∧ r' <+: rs ∧ Cuts (opK K1 ep ct).sm r' t' ∧ (frs rs <+: (opK K1 ep ct).sm → r' = rs) := by
  obtain ⟨h1, h2⟩ := crash_sm B hpre h
  have hby : Bytes (opK K1 ep ct).sm := (opK_ok (fun j hj => (h j hj).elim (fun e => by rw [e]; exact B.by_ j hj) (fun W => W.by_))).sb
  have wh : ∀ r' t', r' <+: rs → Cuts (opK K1 ep ct).sm r' t' → frs rs <+: (opK K1 ep ct).sm → r' = rs := by
    rintro r' t' hp hC ⟨y, hy⟩
    rw [← hy] at hC
    exact hC.whole hp hs
  rcases h1 with h1 | h1
  · obtain ⟨t0, hcut⟩ := B.cut
    rw [hcut.e] at h1
    obtain ⟨r', t', k1, k2, k3⟩ := left_cuts (List.prefix_refl r0) hcut.s hcut.d h1 h2 hby
    exact ⟨r', t', k1, k2.trans hpre, k3, wh r' t' (k2.trans hpre) k3⟩
  · obtain ⟨r', t', k1, k2, k3⟩ := left_cuts hpre hs gE_nil (by rw [List.append_nil]; exact h1) h2 hby
    exact ⟨r', t', k1, k2, k3, wh r' t' k2 k3⟩
end Lo
end Go.Proofs.YtjdimgigbgafbaaDoor
namespace Go.Proofs.YtjdimgigbgafbaaDoor
set_option maxRecDepth 100000
open Byts Seal Fram
set_option linter.unusedVariables false
namespace Lo
def kp (s : Ds) (fr : Nat) : Nat → List Int := fun j => s.kept.getD (fr + j) []
def nw (s : Ds) (fr : Nat) : Nat → List Int := fun j => s.now (fr + j)
theorem nowI_cases (ks : List (List Int)) (ps : List (Nat × List Int)) (a : Nat) : ∀ i, i ≤ ps.length → nowI ks [] ps a i = ks.getD a [] ∨ ∃ x ∈ ps, x.1 = a ∧ nowI ks [] ps a i = x.2
  | 0, _ => .inl rfl
  | i + 1, hi => by
    have hp : ps.getD i (0, []) ∈ ps := by
      have : ps.getD i (0, []) = ps[i] := by simp [List.getD, show i < ps.length by omega]
      rw [this]
      exact List.getElem_mem _
    unfold nowI
    split
    · rename_i h
      exact .inr ⟨_, hp, h, rfl⟩
    · exact nowI_cases ks ps a i (by omega)
theorem keI_cases (f : Nat → Bool) (ks : List (List Int)) (ps : List (Nat × List Int)) (s : Nat) : ∀ i, i ≤ ps.length → (keI f ks [] ps i).getD s [] = ks.getD s [] ∨ ∃ p ∈ ps, p.1 = s ∧ (keI f ks [] ps i).getD s [] = p.2
  | 0, _ => .inl rfl
  | i + 1, hi => by
    have ih := keI_cases f ks ps s i (by omega)
    have hp : ps.getD i (0, []) ∈ ps := by
      have : ps.getD i (0, []) = ps[i] := by simp [List.getD, show i < ps.length by omega]
      rw [this]
      exact List.getElem_mem _
    unfold keI
    split
    · by_cases hs : (ps.getD i (0, [])).1 = s
      · by_cases hl : s < (keI f ks [] ps i).length
        · refine .inr ⟨_, hp, hs, ?_⟩
          rw [List.getD, List.getElem?_set, if_pos hs, if_pos (by omega)]
          rfl
        · rw [List.set_eq_of_length_le (by omega)]
          exact ih
      · rw [List.getD, List.getElem?_set, if_neg hs]
        exact ih
    · exact ih
theorem keI_all (ks : List (List Int)) (ps : List (Nat × List Int)) (a : Nat) (ha : a < ks.length) : ∀ i, (keI (fun _ => true) ks [] ps i).getD a [] = nowI ks [] ps a i
  | 0 => rfl
  | i + 1 => by
    have ih := keI_all ks ps a ha i
    unfold keI nowI
    rw [if_pos rfl]
    by_cases hs : (ps.getD i (0, [])).1 = a
    · rw [if_pos hs, List.getD, List.getElem?_set, if_pos hs, if_pos (by rw [keI_length]; omega)]
      rfl
    · rw [if_neg hs, List.getD, List.getElem?_set, if_neg hs]
      exact ih
theorem nowI_app (ks : List (List Int)) (ps : List (Nat × List Int)) (y : Nat × List Int) (a : Nat) : ∀ i, i ≤ ps.length → nowI ks [] (ps ++ [y]) a i = nowI ks [] ps a i
  | 0, _ => rfl
  | i + 1, hi => by
    have e : (ps ++ [y]).getD i (0, []) = ps.getD i (0, []) := by rw [List.getD, List.getD, List.getElem?_append_left (by omega)]
    unfold nowI
    rw [e, nowI_app ks ps y a i (by omega)]
theorem now_push {s s' : Ds} {b : Nat} {z : List Int} (h1 : s'.kept = s.kept) (h2 : s'.pend = s.pend ++ [(b, z)]) (a : Nat) : s'.now a = if b = a then z else s.now a := by
  unfold Ds.now
  rw [h1, h2, List.length_append]
  show nowI s.kept [] (s.pend ++ [(b, z)]) a (s.pend.length + 1) = _
  have e : (s.pend ++ [(b, z)]).getD s.pend.length (0, []) = (b, z) := by rw [List.getD, List.getElem?_append_right (Nat.le_refl _), Nat.sub_self]; rfl
  rw [show nowI s.kept [] (s.pend ++ [(b, z)]) a (s.pend.length + 1) = if ((s.pend ++ [(b, z)]).getD s.pend.length (0, [])).1 = a then ((s.pend ++ [(b, z)]).getD s.pend.length (0, [])).2 else nowI s.kept [] (s.pend ++ [(b, z)]) a s.pend.length from rfl, e, nowI_app _ _ _ _ _ (Nat.le_refl _)]
structure Inv (fr ct : Nat) (ep : Int) (s : Ds) (l : Ls) (r0 rs : List (List Int)) (nx0 : Int) : Prop where
  e1 : l.fr = fr
  e2 : l.ct = ct
  e3 : l.ep = ep
  kl : fr + ct ≤ s.kept.length
  bas : Bas ct ep (kp s fr) r0 nx0
  sm : l.sm = frs rs
  pre : r0 <+: rs
  sz : ∀ b ∈ rs, b.length ≤ 60000
  pd : ∀ x ∈ s.pend, ∃ j, x.1 = fr + j ∧ Wrt fr ct ep (kp s fr) (frs rs) (frs r0).length nx0 l.nx j x.2
  nx : nx0 ≤ l.nx
  tm : ∀ t ∈ l.tm, 0 ≤ t ∧ t < l.nx
  live : l.bad = 0 → l.sm <+: (opK (nw s fr) ep ct).sm ∧ l.tm = (opK (nw s fr) ep ct).tm.take ((l.sm.length + 990) / 991) ∧ ((frs r0).length < l.sm.length → ∀ i, (frs r0).length / 991 ≤ i → i < l.tm.length → nx0 ≤ l.tm.getD i 0)
  bd : l.bad = 0 ∨ l.bad = 14
section
variable {fr ct : Nat} {ep : Int} {s s' : Ds} {l : Ls} {r0 rs : List (List Int)} {nx0 : Int}
theorem nw_same (h1 : s'.kept = s.kept) (h2 : s'.pend = s.pend) : nw s' fr = nw s fr := by
  funext j
  unfold nw Ds.now
  rw [h1, h2]
theorem kp_same (h1 : s'.kept = s.kept) : kp s' fr = kp s fr := by
  funext j
  unfold kp
  rw [h1]
theorem nw_kp (h : s.pend = []) : nw s fr = kp s fr := by
  funext j
  unfold nw kp Ds.now
  rw [h]
  rfl
theorem Inv.same (h : Inv fr ct ep s l r0 rs nx0) (h1 : s'.kept = s.kept) (h2 : s'.pend = s.pend) : Inv fr ct ep s' l r0 rs nx0 := by
  refine ⟨h.e1, h.e2, h.e3, by rw [h1]; exact h.kl, by rw [kp_same h1]; exact h.bas, h.sm, h.pre, h.sz, by rw [kp_same h1, h2]; exact h.pd, h.nx, h.tm, by rw [nw_same h1 h2]; exact h.live, h.bd⟩
theorem Inv.nw_or (h : Inv fr ct ep s l r0 rs nx0) (j : Nat) : nw s fr j = kp s fr j ∨ Wrt fr ct ep (kp s fr) (frs rs) (frs r0).length nx0 l.nx j (nw s fr j) := by
  rcases nowI_cases s.kept s.pend (fr + j) s.pend.length (Nat.le_refl _) with h1 | ⟨x, hx, h1, h2⟩
  · exact .inl h1
  · obtain ⟨j', h3, h4⟩ := h.pd x hx
    obtain rfl : j' = j := by omega
    right
    show Wrt fr ct ep (kp s fr) (frs rs) (frs r0).length nx0 l.nx j' (nowI s.kept [] s.pend (fr + j') s.pend.length)
    rw [h2]
    exact h4
theorem Inv.ke_or (h : Inv fr ct ep s l r0 rs nx0) (f : Nat → Bool) (j : Nat) : (keI f s.kept [] s.pend s.pend.length).getD (fr + j) [] = kp s fr j ∨ Wrt fr ct ep (kp s fr) (frs rs) (frs r0).length nx0 l.nx j ((keI f s.kept [] s.pend s.pend.length).getD (fr + j) []) := by
  rcases keI_cases f s.kept s.pend (fr + j) s.pend.length (Nat.le_refl _) with h1 | ⟨x, hx, h1, h2⟩
  · exact .inl h1
  · obtain ⟨j', h3, h4⟩ := h.pd x hx
    obtain rfl : j' = j := by omega
    right
    rw [h2]
    exact h4
theorem open_inv (hp : s.pend = []) (hk : fr + ct ≤ s.kept.length) {t : List Int} (hb : ∀ j < ct, Bytes (kp s fr j)) (hc : Cuts (opK (kp s fr) ep ct).sm rs t) (hl : ∀ j < ct, okP (kp s fr j) ep = true → pPrev (kp s fr j) < sB smZ (kp s fr j)) :
    Inv fr ct ep s (openL s fr ct ep) rs rs (opK (kp s fr) ep ct).nx ∧ recs (opI s fr ep ct).sm = rs := by
  have eI : opI s fr ep ct = opK (kp s fr) ep ct := by
    rw [opI_K]
    show opK (nw s fr) ep ct = _
    rw [nw_kp hp]
  have hn := opK_nx (K := kp s fr) (ep := ep) (n := ct)
  have ho := opK_ok (K := kp s fr) (ep := ep) (n := ct) hb
  have es : (openL s fr ct ep).sm = frs rs := by
    show (opI s fr ep ct).sm.take (used (opI s fr ep ct).sm) = _
    rw [eI]
    exact hc.take
  have et : (openL s fr ct ep).tm = (opK (kp s fr) ep ct).tm.take (((frs rs).length + 990) / 991) := by
    show (opI s fr ep ct).tm.take ((used (opI s fr ep ct).sm + 990) / 991) = _
    rw [eI, hc.rec_.2]
  have en : (openL s fr ct ep).nx = (opK (kp s fr) ep ct).nx := by
    show (opI s fr ep ct).nx = _
    rw [eI]
  refine ⟨⟨rfl, rfl, rfl, hk, ⟨hb, ⟨t, hc⟩, fun j hj hk => ⟨hl j hj hk, hn.2 j hj hk⟩, hn.1⟩, es, List.prefix_refl _, hc.s, ?_, ?_, ?_, ?_, .inl rfl⟩, by rw [eI]; exact hc.rec_.1⟩
  · rw [hp]
    intro x hx
    cases hx
  · rw [en]; exact Int.le_refl _
  · rw [et, en]
    intro u hu
    have hu := List.mem_of_mem_take hu
    obtain ⟨j, h1, h2, h3⟩ := opK_tm u hu
    exact ⟨(ho.tt u hu).1, by rw [h3]; exact hn.2 j h1 h2⟩
  · intro _
    rw [nw_kp hp, es, et]
    refine ⟨?_, rfl, fun hlt => absurd hlt (Nat.lt_irrefl _)⟩
    rw [hc.e]
    exact List.prefix_append _ _
theorem Inv.crash (h : Inv fr ct ep s l r0 rs nx0) (f : Nat → Bool) (h1 : s'.kept = keI f s.kept [] s.pend s.pend.length) (h2 : s'.pend = []) :
    ∃ r' nx', r0 <+: r' ∧ r' <+: rs ∧ recs (opI s' fr ep ct).sm = r' ∧ Inv fr ct ep s' (openL s' fr ct ep) r' r' nx' := by
  have ek : ∀ j, kp s' fr j = (keI f s.kept [] s.pend s.pend.length).getD (fr + j) [] := fun j => by unfold kp; rw [h1]
  have ho : ∀ j < ct, kp s' fr j = kp s fr j ∨ Wrt fr ct ep (kp s fr) (frs rs) (frs r0).length nx0 l.nx j (kp s' fr j) := fun j _ => by rw [ek]; exact h.ke_or f j
  obtain ⟨r', t', k1, k2, k3, _⟩ := crash_cuts h.bas h.pre h.sz ho
  have hI := open_inv (s := s') (fr := fr) (ct := ct) (ep := ep) h2 (by rw [h1, keI_length]; exact h.kl) (fun j hj => (ho j hj).elim (fun e => by rw [e]; exact h.bas.by_ j hj) (fun W => W.by_)) k3 (fun j hj hk => (ho j hj).elim (fun e => by rw [e] at hk ⊢; exact (h.bas.lt j hj hk).1) (fun W => W.pr))
  exact ⟨r', _, k1, k2, hI.2, hI.1⟩
theorem Inv.flush (h : Inv fr ct ep s l r0 rs nx0) (hb : l.bad = 0) (h1 : s'.kept = keI (fun _ => true) s.kept [] s.pend s.pend.length) (h2 : s'.pend = []) : Inv fr ct ep s' l rs rs l.nx := by
  have ek : ∀ j < ct, kp s' fr j = nw s fr j := fun j hj => by
    unfold kp nw Ds.now
    rw [h1, keI_all _ _ _ (by have := h.kl; omega)]
  have eo : opK (kp s' fr) ep ct = opK (nw s fr) ep ct := opK_same ek
  obtain ⟨l1, l2, l3⟩ := h.live hb
  obtain ⟨r', t', k1, k2, k3, k4⟩ := crash_cuts h.bas h.pre h.sz (fun j _ => h.nw_or j)
  obtain rfl : r' = rs := k4 (by rw [← h.sm]; exact l1)
  have hn1 := h.bas.n1
  have hnx := h.nx
  refine ⟨h.e1, h.e2, h.e3, by rw [h1, keI_length]; exact h.kl, ⟨fun j hj => ?_, ⟨t', by rw [eo]; exact k3⟩, fun j hj hk => ?_, by omega⟩, h.sm, List.prefix_refl _, h.sz, ?_, Int.le_refl _, h.tm, fun _ => ?_, h.bd⟩
  · rw [ek j hj]
    exact (h.nw_or j).elim (fun e => by rw [e]; exact h.bas.by_ j hj) (fun W => W.by_)
  · rw [ek j hj] at hk ⊢
    rcases h.nw_or j with e | W
    · rw [e] at hk ⊢
      have := h.bas.lt j hj hk
      omega
    · exact ⟨W.pr, W.t1⟩
  · rw [h2]
    intro x hx
    cases hx
  · rw [nw_kp h2, eo]
    refine ⟨l1, l2, fun hlt => ?_⟩
    rw [h.sm] at hlt
    exact absurd hlt (Nat.lt_irrefl _)
theorem Inv.sick (h : Inv fr ct ep s l r0 rs nx0) : Inv fr ct ep s { l with bad := 14 } r0 rs nx0 :=
  ⟨h.e1, h.e2, h.e3, h.kl, h.bas, h.sm, h.pre, h.sz, h.pd, h.nx, h.tm, fun hb => absurd (show (14 : Int) = 0 from hb) (by decide), .inr rfl⟩
theorem do_2 (s : Ds) : ((s.do_ ⟨2, 0, [], true, []⟩).2.2 = 14 ∧ (s.do_ ⟨2, 0, [], true, []⟩).1.kept = s.kept ∧ (s.do_ ⟨2, 0, [], true, []⟩).1.pend = s.pend) ∨ ((s.do_ ⟨2, 0, [], true, []⟩).2.2 = 0 ∧ (s.do_ ⟨2, 0, [], true, []⟩).1.kept = keI (fun _ => true) s.kept [] s.pend s.pend.length ∧ (s.do_ ⟨2, 0, [], true, []⟩).1.pend = []) := by
  unfold Ds.do_
  rw [if_neg (show ¬ (2 : Int) = 3 by decide), if_neg (show ¬ (2 : Int) = 4 by decide)]
  split
  · exact .inl ⟨rfl, rfl, rfl⟩
  · rw [if_neg (show ¬ ((2 : Int) ≠ 2 ∧ _) from fun h => h.1 rfl), if_neg (show ¬ (2 : Int) = 0 by decide), if_neg (show ¬ ((2 : Int) = 1 ∧ _) from fun h => absurd h.1 (by decide))]
    split
    · exact .inl ⟨rfl, rfl, rfl⟩
    · exact .inr ⟨rfl, rfl, rfl⟩
theorem do_1 (s : Ds) (a : Nat) (b : List Int) (ha : a < s.kept.length) (hb : b.length = 1024) : ((s.do_ ⟨1, (a : Int), b, true, []⟩).2.2 = 14 ∧ (s.do_ ⟨1, (a : Int), b, true, []⟩).1.kept = s.kept ∧ (s.do_ ⟨1, (a : Int), b, true, []⟩).1.pend = s.pend) ∨ ((s.do_ ⟨1, (a : Int), b, true, []⟩).2.2 = 0 ∧ (s.do_ ⟨1, (a : Int), b, true, []⟩).1.kept = s.kept ∧ (s.do_ ⟨1, (a : Int), b, true, []⟩).1.pend = s.pend ++ [(a, b)]) := by
  unfold Ds.do_
  rw [if_neg (show ¬ (1 : Int) = 3 by decide), if_neg (show ¬ (1 : Int) = 4 by decide)]
  split
  · exact .inl ⟨rfl, rfl, rfl⟩
  · rw [if_neg, if_neg (show ¬ (1 : Int) = 0 by decide), if_neg]
    · split
      · exact .inl ⟨rfl, rfl, rfl⟩
      · rw [if_pos (show (1 : Int) = 1 from rfl)]
        refine .inr ⟨rfl, rfl, ?_⟩
        rfl
    · rintro ⟨_, h⟩
      exact h hb
    · rintro ⟨_, h | h⟩
      · have h : (a : Int) < 0 := h
        omega
      · have h : (s.kept.length : Int) ≤ (a : Int) := h
        omega
theorem Inv.sync (h : Inv fr ct ep s l r0 rs nx0) : ∃ nx', Inv fr ct ep (syncL s l).1 (syncL s l).2.1 (if (syncL s l).2.2 = 0 then rs else r0) rs nx' ∧ ((syncL s l).2.1.bad ≠ 0 ↔ l.bad ≠ 0 ∨ (syncL s l).2.2 = 14) ∧ ((syncL s l).2.2 = 0 ∨ (syncL s l).2.2 = 14) := by
  unfold syncL
  by_cases hb : l.bad = 0
  · rw [if_neg (by omega)]
    dsimp only
    rcases do_2 s with ⟨h1, h2, h3⟩ | ⟨h1, h2, h3⟩
    · rw [h1, if_neg (by decide)]
      exact ⟨nx0, (h.same h2 h3).sick, ⟨fun _ => .inr rfl, fun _ => by decide⟩, .inr rfl⟩
    · rw [h1, if_pos rfl]
      have := h.flush hb h2 h3
      refine ⟨l.nx, ?_, ⟨fun h => absurd rfl h, fun h => ?_⟩, .inl rfl⟩
      · have e : ({ l with bad := 0 } : Ls) = l := by cases l; cases hb; rfl
        rw [e]
        exact this
      · rcases h with h | h
        · exact absurd hb h
        · cases h
  · rw [if_pos hb]
    have hbb := h.bd
    have hb2 : l.bad = 14 := by omega
    dsimp only
    rw [hb2, if_neg (by decide)]
    exact ⟨nx0, h, ⟨fun _ => .inl (by decide), fun _ => by decide⟩, .inr rfl⟩
end
end Lo
end Go.Proofs.YtjdimgigbgafbaaDoor
namespace Go.Proofs.YtjdimgigbgafbaaDoor
set_option maxRecDepth 100000
open Byts Seal Fram
set_option linter.unusedVariables false
namespace Lo
theorem Wrt.grow {fr ct : Nat} {ep : Int} {K0 : Nat → List Int} {F : List Int} {n0 : Nat} {nx0 nx nx' : Int} {j : Nat} {z : List Int} (W : Wrt fr ct ep K0 F n0 nx0 nx j z) (x : List Int) (hn : nx ≤ nx') : Wrt fr ct ep K0 (F ++ x) n0 nx0 nx' j z := by
  obtain ⟨n, h1, h2, h3, h4⟩ := W.ch
  have t1 := W.t1
  refine ⟨W.lo, W.hi, W.by_, W.ok, W.at_, W.t0, by omega, W.pr, ⟨n, ?_, h2, by rw [List.length_append]; omega, h4⟩, W.p0, W.p1⟩
  rw [h1, List.drop_append_of_le_length (by omega), List.take_append_of_le_length (by rw [List.length_drop]; omega)]
theorem Wrt.later {fr ct : Nat} {ep : Int} {K0 : Nat → List Int} {F : List Int} {n0 : Nat} {nx0 nx nx' : Int} {j : Nat} {z : List Int} (W : Wrt fr ct ep K0 F n0 nx0 nx j z) (hn : nx ≤ nx') : Wrt fr ct ep K0 F n0 nx0 nx' j z := by
  have t1 := W.t1
  exact ⟨W.lo, W.hi, W.by_, W.ok, W.at_, W.t0, by omega, W.pr, W.ch, W.p0, W.p1⟩
structure Mid (fr ct : Nat) (ep : Int) (s : Ds) (l : Ls) (r0 rs : List (List Int)) (nx0 : Int) (st j : Nat) : Prop where
  e1 : l.fr = fr
  e2 : l.ct = ct
  e3 : l.ep = ep
  kl : fr + ct ≤ s.kept.length
  bas : Bas ct ep (kp s fr) r0 nx0
  sm : l.sm = frs rs
  sb : Bytes l.sm
  pre : r0 <+: rs
  sz : ∀ b ∈ rs, b.length ≤ 60000
  pd : ∀ x ∈ s.pend, ∃ j, x.1 = fr + j ∧ Wrt fr ct ep (kp s fr) (frs rs) (frs r0).length nx0 l.nx j x.2
  nx : nx0 ≤ l.nx
  tm : ∀ t ∈ l.tm, 0 ≤ t ∧ t < l.nx
  bad : l.bad = 0
  ch : (opK (nw s fr) ep j).ch = true
  smj : (opK (nw s fr) ep j).sm = (frs rs).take (j * 991)
  tmj : (opK (nw s fr) ep j).tm = l.tm.take j
  tl : (opK (nw s fr) ep j).tm.length = j
  tl2 : st < j → l.tm.length = j
  new : ∀ i, (frs r0).length / 991 ≤ i → i < j → nx0 ≤ l.tm.getD i 0
section
variable {fr ct : Nat} {ep : Int} {s s' : Ds} {l : Ls} {r0 rs : List (List Int)} {nx0 : Int} {st j : Nat}
theorem Mid.sick (h : Mid fr ct ep s l r0 rs nx0 st j) (h1 : s'.kept = s.kept) (h2 : s'.pend = s.pend) : Inv fr ct ep s' { l with bad := 14 } r0 rs nx0 :=
  Inv.same (s := s) ⟨h.e1, h.e2, h.e3, h.kl, h.bas, h.sm, h.pre, h.sz, h.pd, h.nx, h.tm, fun hb => absurd (show (14 : Int) = 0 from hb) (by decide), .inr rfl⟩ h1 h2
theorem getD_take {l : List Int} {i j : Nat} (h : i < j) : (l.take j).getD i 0 = l.getD i 0 := by
  rw [List.getD, List.getD, List.getElem?_take, if_pos h]
theorem Mid.step (h : Mid fr ct ep s l r0 rs nx0 st j) (hep : 0 ≤ ep ∧ ep ≤ 18446744073709551615) (hct : ct ≤ 65000) (hj : j < ct) (hst : st ≤ j) (hlt : j * 991 < (frs rs).length) (hk : (frs r0).length / 991 ≤ j) (h0 : (frs r0).length < (frs rs).length) (h1 : (frs r0).length < (j + 1) * 991) (hnx : l.nx < 4611686018427387904) :
    ((wrL s l j).2.2 = 0 ∧ Mid fr ct ep (wrL s l j).1 (wrL s l j).2.1 r0 rs nx0 st (j + 1) ∧ (wrL s l j).2.1.nx = l.nx + 1) ∨ ((wrL s l j).2.2 = 14 ∧ Inv fr ct ep (wrL s l j).1 { (wrL s l j).2.1 with bad := 14 } r0 rs nx0) := by
  have hn1 := h.bas.n1
  have hn2 := h.nx
  have htl : j ≤ l.tm.length := by
    have h2 := h.tl
    rw [h.tmj, List.length_take] at h2
    omega
  have hp : 0 ≤ prevL l j ∧ prevL l j < l.nx ∧ (0 < j → prevL l j ∈ l.tm) := by
    unfold prevL
    by_cases hj0 : j = 0
    · rw [if_pos hj0]; exact ⟨Int.le_refl _, by omega, fun h => by omega⟩
    · rw [if_neg hj0]
      have hm : l.tm.getD (j - 1) 0 ∈ l.tm := by
        rw [List.getD, List.getElem?_eq_getElem (by omega)]
        exact List.getElem_mem _
      exact ⟨(h.tm _ hm).1, (h.tm _ hm).2, fun _ => hm⟩
  have hpT : prevL l j = prevT (opK (nw s fr) ep j) j := by
    unfold prevL prevT
    by_cases hj0 : j = 0
    · rw [if_pos hj0, if_pos hj0]
    · rw [if_neg hj0, if_neg hj0, h.tmj, getD_take (by omega)]
  have hcl : (chunk l j).length = min 991 ((frs rs).length - j * 991) := by unfold chunk; rw [List.length_take, List.length_drop, h.sm]
  obtain ⟨k1, k2, k3, k4, k5⟩ := okP_sec (ep := ep) (nx := l.nx) (i := j) (p := prevL l j) (ch := chunk l j) hep ⟨by omega, hnx⟩ (by omega) (by omega) (by omega) ⟨hp.1, by omega⟩
  have hbl : (shB j (prevL l j) (chunk l j)).length ≤ 1001 := by unfold shB; simp only [List.length_append, be_length]; omega
  have hzl : (secL l.ep l.nx (shB j (prevL l j) (chunk l j))).length = 1024 := secL_len _ _ _ hbl
  obtain ⟨z, hz⟩ : ∃ z, z = secL l.ep l.nx (shB j (prevL l j) (chunk l j)) := ⟨_, rfl⟩
  have hzb : Bytes z := by
    rw [hz]
    refine sec_bytes (shB_bytes ?_)
    unfold chunk
    exact fun y hy => h.sb y (List.mem_of_mem_drop (List.mem_of_mem_take hy))
  rw [← h.e3, ← hz] at k1 k2 k3 k4 k5
  rw [h.e3] at k1
  have hkl := h.kl
  have hD := do_1 s (fr + j) z (by omega) (by rw [hz]; exact hzl)
  have eW : wrL s l j = (let r := s.do_ ⟨1, ((fr + j : Nat) : Int), z, true, []⟩; (r.1, if r.2.2 = 0 then { l with tm := l.tm.take j ++ [l.nx], nx := l.nx + 1 } else l, r.2.2)) := by
    unfold wrL
    rw [← hz, h.e1]
  rw [eW]
  dsimp only
  rcases hD with ⟨d1, d2, d3⟩ | ⟨d1, d2, d3⟩
  · rw [d1, if_neg (by decide)]
    exact .inr ⟨rfl, h.sick d2 d3⟩
  · rw [d1, if_pos rfl]
    refine .inl ⟨rfl, ?_, rfl⟩
    obtain ⟨s1, hs1⟩ : ∃ s1, s1 = (s.do_ ⟨1, ((fr + j : Nat) : Int), z, true, []⟩).1 := ⟨_, rfl⟩
    rw [← hs1] at d2 d3 ⊢
    have en : ∀ i, nw s1 fr i = if i = j then z else nw s fr i := fun i => by
      show s1.now (fr + i) = _
      rw [now_push d2 d3]
      by_cases hi : i = j
      · rw [if_pos (by omega), if_pos hi]
      · rw [if_neg (by omega), if_neg hi]
        rfl
    have ej : opK (nw s1 fr) ep j = opK (nw s fr) ep j := opK_same fun i hi => by rw [en, if_neg (by omega)]
    have ez : nw s1 fr j = z := by rw [en, if_pos rfl]
    have hsl : (opK (nw s fr) ep j).sm.length = j * 991 := by rw [h.smj, List.length_take]; omega
    have hc : ((opK (nw s1 fr) ep j).ch && okP (nw s1 fr j) ep && fol (opK (nw s1 fr) ep j) j (nw s1 fr j)) = true := by
      rw [step3, ej, ez, fol_iff]
      exact ⟨h.ch, k1, k3, hsl, by rw [k4, hpT]⟩
    obtain ⟨q1, q2, q3⟩ := opStep_yes hc
    have ekp : kp s1 fr = kp s fr := kp_same d2
    have W : Wrt fr ct ep (kp s fr) (frs rs) (frs r0).length nx0 (l.nx + 1) j z := by
      refine ⟨hk, hj, hzb, k1, k3, by rw [k2]; exact hn2, by rw [k2]; omega, by rw [k4, k2]; exact hp.2.1, ⟨min 991 ((frs rs).length - j * 991), ?_, by omega, by omega, by omega⟩, fun hjk => ?_, fun hjk => ?_⟩
      · rw [k5]
        unfold chunk
        rw [h.sm, List.take_eq_take_min, List.length_drop]
      · rw [k4, hpT]
        have : opK (nw s fr) ep j = opK (kp s fr) ep j := opK_same fun i hi => by
          rcases nowI_cases s.kept s.pend (fr + i) s.pend.length (Nat.le_refl _) with c1 | ⟨x, hx, c1, c2⟩
          · exact c1
          · obtain ⟨j', c3, c4⟩ := h.pd x hx
            have := c4.lo
            omega
        rw [this]
      · rw [k4]
        unfold prevL
        rw [if_neg (by omega)]
        exact h.new (j - 1) (by omega) (by omega)
    have htk : (l.tm.take j).length = j := by rw [List.length_take]; omega
    refine ⟨h.e1, h.e2, h.e3, by rw [d2]; exact h.kl, by rw [ekp]; exact h.bas, h.sm, h.sb, h.pre, h.sz, ?_, by show nx0 ≤ l.nx + 1; omega, ?_, h.bad, ?_, ?_, ?_, ?_, ?_, ?_⟩
    · rw [ekp, d3]
      intro x hx
      rcases List.mem_append.1 hx with hx | hx
      · obtain ⟨j', c1, c2⟩ := h.pd x hx
        exact ⟨j', c1, c2.later (by show l.nx ≤ l.nx + 1; omega)⟩
      · obtain rfl : x = (fr + j, z) := by simpa using hx
        exact ⟨j, rfl, W⟩
    · intro t ht
      show 0 ≤ t ∧ t < l.nx + 1
      rcases List.mem_append.1 ht with ht | ht
      · have := h.tm t (List.mem_of_mem_take ht)
        omega
      · obtain rfl : t = l.nx := by simpa using ht
        omega
    · exact q1
    · show (opStep ep j (nw s1 fr j) (opK (nw s1 fr) ep j)).sm = _
      rw [q3, ej, ez, h.smj, k5]
      unfold chunk
      rw [h.sm, take_add, Nat.add_mul, Nat.one_mul]
    · show (opStep ep j (nw s1 fr j) (opK (nw s1 fr) ep j)).tm = (l.tm.take j ++ [l.nx]).take (j + 1)
      rw [q2, ej, ez, h.tmj, k2, List.take_of_length_le (l := l.tm.take j ++ [l.nx]) (by rw [List.length_append, htk]; exact Nat.le_refl _)]
    · show (opStep ep j (nw s1 fr j) (opK (nw s1 fr) ep j)).tm.length = j + 1
      rw [q2, ej, List.length_append, h.tl]
      rfl
    · intro _
      show (l.tm.take j ++ [l.nx]).length = j + 1
      rw [List.length_append, htk]
      rfl
    · intro i hi hij
      show nx0 ≤ (l.tm.take j ++ [l.nx]).getD i 0
      by_cases hi2 : i = j
      · rw [List.getD, List.getElem?_append_right (by omega), htk, hi2, Nat.sub_self]
        exact hn2
      · rw [getD_left (by omega), getD_take (by omega)]
        exact h.new i hi (by omega)
theorem Mid.all (hep : 0 ≤ ep ∧ ep ≤ 18446744073709551615) (hct : ct ≤ 65000) (h0 : (frs r0).length < (frs rs).length) : ∀ (k : Nat) (s : Ds) (l : Ls) (j : Nat), Mid fr ct ep s l r0 rs nx0 st j → j + k ≤ ct → st ≤ j → (0 < k → (j + k - 1) * 991 < (frs rs).length) → (frs r0).length / 991 ≤ j → (0 < k → l.nx + (k : Int) - 1 < 4611686018427387904) →
    ((wrN s l j k).2.2 = 0 ∧ Mid fr ct ep (wrN s l j k).1 (wrN s l j k).2.1 r0 rs nx0 st (j + k)) ∨ ((wrN s l j k).2.2 = 14 ∧ Inv fr ct ep (wrN s l j k).1 (wrN s l j k).2.1 r0 rs nx0 ∧ (wrN s l j k).2.1.bad = 14)
  | 0, s, l, j, h, _, _, _, _, _ => .inl ⟨rfl, h⟩
  | k + 1, s, l, j, h, h1, hst, h2, h3, h4 => by
    have h2' := h2 (by omega)
    have h4' := h4 (by omega)
    have hS := h.step hep hct (by omega) hst (by have : j * 991 ≤ (j + (k + 1) - 1) * 991 := Nat.mul_le_mul_right _ (by omega); omega) h3 h0 (by omega) (by omega)
    have eN : wrN s l j (k + 1) = if (wrL s l j).2.2 = 0 then wrN (wrL s l j).1 (wrL s l j).2.1 (j + 1) k else ((wrL s l j).1, { (wrL s l j).2.1 with bad := (wrL s l j).2.2 }, (wrL s l j).2.2) := rfl
    rw [eN]
    rcases hS with ⟨k1, k2, k3⟩ | ⟨k1, k2⟩
    · rw [if_pos k1]
      have := Mid.all hep hct h0 k _ _ (j + 1) k2 (by omega) (by omega) (fun _ => by rw [show j + 1 + k - 1 = j + (k + 1) - 1 by omega]; exact h2') (by omega) (fun _ => by rw [k3]; omega)
      rwa [show j + 1 + k = j + (k + 1) by omega] at this
    · rw [if_neg (by rw [k1]; decide), k1]
      exact .inr ⟨rfl, k2, rfl⟩
theorem Inv.app (h : Inv fr ct ep s l r0 rs nx0) (hep : 0 ≤ ep ∧ ep ≤ 18446744073709551615) (hct : ct ≤ 65000) (hsb : Bytes l.sm) (b : List Int) (hb : Bytes b) :
    Inv fr ct ep (appL s l b).1 (appL s l b).2.1 r0 (if (appL s l b).2.2 = 0 ∨ ((appL s l b).2.2 = 14 ∧ l.bad = 0) then rs ++ [b] else rs) nx0 ∧ ((appL s l b).2.1.bad ≠ 0 ↔ l.bad ≠ 0 ∨ (appL s l b).2.2 = 14) := by
  obtain ⟨R, hR⟩ : ∃ R, R = appL s l b := ⟨_, rfl⟩
  rw [← hR]
  unfold appL at hR
  by_cases h0 : l.bad = 0
  · rw [if_neg (by omega)] at hR
    by_cases h6 : 60000 < b.length
    · rw [if_pos h6] at hR
      subst hR
      dsimp only
      rw [if_neg (by omega)]
      exact ⟨h, ⟨fun hh => absurd h0 hh, fun hh => hh.elim (fun q => absurd h0 q) (fun q => absurd q (by decide))⟩⟩
    · rw [if_neg h6] at hR
      dsimp only at hR
      have hfl := frm_len b
      rw [hfl] at hR
      by_cases hfull : l.ct * 991 < l.sm.length + (8 + b.length) ∨ 4611686018427387904 ≤ l.nx + (((l.sm.length + (8 + b.length) - 1) / 991 - l.sm.length / 991 : Nat) : Int)
      · rw [if_pos hfull] at hR
        subst hR
        dsimp only
        rw [if_neg (by omega)]
        exact ⟨h, ⟨fun hh => absurd h0 hh, fun hh => hh.elim (fun q => absurd h0 q) (fun q => absurd q (by decide))⟩⟩
      · rw [if_neg hfull] at hR
        obtain ⟨first, hfi⟩ : ∃ x, x = l.sm.length / 991 := ⟨_, rfl⟩
        obtain ⟨last, hla⟩ : ∃ x, x = (l.sm.length + (8 + b.length) - 1) / 991 := ⟨_, rfl⟩
        rw [← hfi, ← hla] at hfull hR
        have hf1 : ¬ l.ct * 991 < l.sm.length + (8 + b.length) := fun q => hfull (.inl q)
        have hf2 : ¬ 4611686018427387904 ≤ l.nx + ((last - first : Nat) : Int) := fun q => hfull (.inr q)
        have he2 := h.e2
        have hfl2 : first ≤ last := by omega
        have hlc : last < ct := by rw [he2] at hf1; omega
        have eF : frs (rs ++ [b]) = l.sm ++ frm smZ b := by rw [frs_snoc, h.sm]
        have lF : (frs (rs ++ [b])).length = l.sm.length + (8 + b.length) := by rw [eF, List.length_append, hfl]
        have l0 : (frs r0).length ≤ l.sm.length := by rw [h.sm]; exact (frs_pre h.pre).length_le
        obtain ⟨v1, v2, v3⟩ := h.live h0
        have nb : ∀ j < ct, Bytes (nw s fr j) := fun j hj => (h.nw_or j).elim (fun e => by rw [e]; exact h.bas.by_ j hj) (fun W => W.by_)
        have hw1 : first * 991 ≤ (opK (nw s fr) ep ct).sm.length := by have := v1.length_le; omega
        have hwh := opK_whole nb (i := first) (by omega) hw1
        have htk := opK_take nb (i := first) (by omega) hw1
        have hM : Mid fr ct ep s { l with sm := l.sm ++ frm smZ b } r0 (rs ++ [b]) nx0 first first := by
          refine ⟨h.e1, h.e2, h.e3, h.kl, h.bas, eF.symm, ?_, h.pre.trans (List.prefix_append _ _), ?_, ?_, h.nx, h.tm, h0, hwh.1, ?_, ?_, hwh.2.2, fun q => absurd q (Nat.lt_irrefl _), ?_⟩
          · intro z hz
            rcases List.mem_append.1 hz with hz | hz
            · exact hsb z hz
            · exact frm_bytes _ hb z hz
          · intro x hx
            rcases List.mem_append.1 hx with hx | hx
            · exact h.sz x hx
            · obtain rfl : x = b := by simpa using hx
              omega
          · intro x hx
            obtain ⟨j', c1, c2⟩ := h.pd x hx
            refine ⟨j', c1, ?_⟩
            rw [eF, h.sm]
            exact c2.grow _ (Int.le_refl _)
          · rw [htk.1, eF, List.take_append_of_le_length (by omega)]
            obtain ⟨y, hy⟩ := v1
            rw [← hy, List.take_append_of_le_length (by omega)]
          · rw [htk.2]
            show _ = l.tm.take first
            rw [v2, List.take_take, Nat.min_eq_left (by omega)]
          · intro i hi hif
            by_cases hlt : (frs r0).length < l.sm.length
            · refine v3 hlt i hi ?_
              have : (l.tm.take first).length = first := by rw [v2, List.take_take, Nat.min_eq_left (by omega), ← htk.2]; exact hwh.2.2
              rw [List.length_take] at this
              omega
            · omega
        have hA := Mid.all hep hct (by rw [lF]; omega) (last + 1 - first) s { l with sm := l.sm ++ frm smZ b } first hM (by omega) (Nat.le_refl _) (fun _ => by rw [lF, show first + (last + 1 - first) - 1 = last by omega]; omega) (by omega) (fun _ => by show l.nx + ((last + 1 - first : Nat) : Int) - 1 < _; omega)
        rw [show first + (last + 1 - first) = last + 1 by omega] at hA
        rw [← hR] at hA
        rcases hA with ⟨a1, a2⟩ | ⟨a1, a2, a3⟩
        · rw [if_pos (.inl a1)]
          refine ⟨⟨a2.e1, a2.e2, a2.e3, a2.kl, a2.bas, a2.sm, a2.pre, a2.sz, a2.pd, a2.nx, a2.tm, fun _ => ?_, .inl a2.bad⟩, ⟨fun q => absurd a2.bad q, fun q => q.elim (fun q => absurd h0 q) (fun q => by rw [a1] at q; cases q)⟩⟩
          have ea : (opK (nw R.1 fr) ep (last + 1)).sm = R.2.1.sm := by
            rw [a2.smj, a2.sm]
            exact List.take_of_length_le (by rw [lF]; omega)
          have hp := opK_pre' (K := nw R.1 fr) (ep := ep) (i := last + 1) (n := ct) (by omega)
          have hm : (R.2.1.sm.length + 990) / 991 = last + 1 := by rw [a2.sm, lF]; omega
          have htl2 := a2.tl2 (by omega)
          refine ⟨by rw [← ea]; exact hp.1, ?_, fun _ i hi hit => a2.new i hi (by omega)⟩
          rw [hm]
          have h3 := List.prefix_iff_eq_take.1 hp.2
          rw [a2.tl, a2.tmj, List.take_of_length_le (by omega)] at h3
          exact h3
        · rw [if_pos (.inr ⟨a1, h0⟩)]
          exact ⟨a2, ⟨fun _ => .inr a1, fun _ => by rw [a3]; decide⟩⟩
  · rw [if_pos h0] at hR
    subst hR
    dsimp only
    have hbb := h.bd
    have hb2 : l.bad = 14 := by omega
    rw [hb2, if_neg (by decide)]
    exact ⟨h, ⟨fun _ => .inl (by decide), fun _ => by decide⟩⟩
end
end Lo
end Go.Proofs.YtjdimgigbgafbaaDoor
namespace Go.Proofs.YtjdimgigbgafbaaDoor
set_option maxRecDepth 100000
open Byts Seal Fram
set_option linter.unusedVariables false
namespace Lo
structure Both (s : Ds) (l : Ls) (n m : Nat) : Prop where
  ok : s.Ok m
  by_ : Byte s
  kl : s.kept.length = n
  lo : Lo.Ok l n
theorem Both.more {s : Ds} {l : Ls} {n m m' : Nat} (h : Both s l n m) (hm : m ≤ m') : Both s l n m' := ⟨h.ok.more hm, h.by_, h.kl, h.lo⟩
theorem byte_same {s s' : Ds} (h : Byte s) (h1 : s'.kept = s.kept) (h2 : s'.pend = s.pend) : Byte s' := ⟨by rw [h1]; exact h.k, by rw [h2]; exact h.p⟩
theorem byte_push {s s' : Ds} {a : Nat} {z : List Int} (h : Byte s) (hz : Bytes z) (h1 : s'.kept = s.kept) (h2 : s'.pend = s.pend ++ [(a, z)]) : Byte s' := by
  refine ⟨by rw [h1]; exact h.k, ?_⟩
  rw [h2]
  intro x hx
  rcases List.mem_append.1 hx with hx | hx
  · exact h.p x hx
  · obtain rfl : x = (a, z) := by simpa using hx
    exact hz
theorem byte_ke {s s' : Ds} (h : Byte s) (f : Nat → Bool) (h1 : s'.kept = keI f s.kept [] s.pend s.pend.length) (h2 : s'.pend = []) : Byte s' := by
  refine ⟨?_, by rw [h2]; intro x hx; cases hx⟩
  rw [h1]
  exact keI_mem (p := fun y : List Int => Bytes y) h.k h.p _ (Nat.le_refl _)
theorem secB {ep nx : Int} {bd : List Int} (h : Bytes bd) : Bytes (secL ep nx bd) := by
  intro z hz
  unfold secL sec at hz
  rcases List.mem_append.1 hz with hz | hz
  · exact hd_bytes _ _ _ _ (by decide) h z hz
  · exact smZ_bytes _ z hz
structure Wn (l l' : Ls) : Prop where
  fr : l'.fr = l.fr
  ct : l'.ct = l.ct
  ep : l'.ep = l.ep
  sm : l'.sm = l.sm
  n1 : 1 ≤ l'.nx
  n2 : l'.nx ≤ 4611686018427387904
  tt : ∀ t ∈ l'.tm, 0 ≤ t ∧ t ≤ 4611686018427387904
  tc : l'.tm.length ≤ l.ct
theorem wrN_ok {n : Nat} : ∀ (k : Nat) (s : Ds) (l : Ls) (j m : Nat), s.Ok m → Byte s → s.kept.length = n → l.fr + l.ct ≤ n → j + k ≤ l.ct → j ≤ l.tm.length → 1 ≤ l.nx → l.nx + (k : Int) ≤ 4611686018427387904 → Bytes l.sm → (∀ t ∈ l.tm, 0 ≤ t ∧ t ≤ 4611686018427387904) → l.tm.length ≤ l.ct → l.bad = 0 →
    (wrN s l j k).1.Ok (m + k) ∧ Byte (wrN s l j k).1 ∧ (wrN s l j k).1.kept.length = n ∧ Wn l (wrN s l j k).2.1 ∧ (((wrN s l j k).2.2 = 0 ∧ (wrN s l j k).2.1.bad = 0 ∧ (0 < k → (wrN s l j k).2.1.tm.length = j + k)) ∨ ((wrN s l j k).2.2 = 14 ∧ (wrN s l j k).2.1.bad = 14))
  | 0, s, l, j, m, h1, h2, h3, h4, h5, h6, h7, h8, h9, h10, h11, h12 => ⟨h1, h2, h3, ⟨rfl, rfl, rfl, rfl, h7, by show l.nx ≤ _; omega, h10, h11⟩, .inl ⟨rfl, h12, fun h => absurd h (Nat.lt_irrefl _)⟩⟩
  | k + 1, s, l, j, m, h1, h2, h3, h4, h5, h6, h7, h8, h9, h10, h11, h12 => by
    have hbl : (shB j (prevL l j) (chunk l j)).length ≤ 1001 := by have := chunk_le l j; unfold shB; simp only [List.length_append, be_length]; omega
    obtain ⟨z, hz⟩ : ∃ z, z = secL l.ep l.nx (shB j (prevL l j) (chunk l j)) := ⟨_, rfl⟩
    have hzl : z.length = 1024 := by rw [hz]; exact secL_len _ _ _ hbl
    have hzb : Bytes z := by rw [hz]; exact secB (shB_bytes (chunk_bytes h9 j))
    have hD := do_1 s (l.fr + j) z (by omega) hzl
    have hO := h1.do_ ⟨1, ((l.fr + j : Nat) : Int), z, true, []⟩ (by have := h1.hn; show ((l.fr + j : Nat) : Int) ≤ _; omega)
    have eW : wrL s l j = (let r := s.do_ ⟨1, ((l.fr + j : Nat) : Int), z, true, []⟩; (r.1, if r.2.2 = 0 then { l with tm := l.tm.take j ++ [l.nx], nx := l.nx + 1 } else l, r.2.2)) := by
      unfold wrL
      rw [← hz]
    have eN : wrN s l j (k + 1) = if (wrL s l j).2.2 = 0 then wrN (wrL s l j).1 (wrL s l j).2.1 (j + 1) k else ((wrL s l j).1, { (wrL s l j).2.1 with bad := (wrL s l j).2.2 }, (wrL s l j).2.2) := rfl
    obtain ⟨s1, hs1⟩ : ∃ s1, s1 = (s.do_ ⟨1, ((l.fr + j : Nat) : Int), z, true, []⟩).1 := ⟨_, rfl⟩
    rw [eN, eW]
    dsimp only
    rw [← hs1] at hD hO ⊢
    rcases hD with ⟨d1, d2, d3⟩ | ⟨d1, d2, d3⟩
    · rw [d1, if_neg (by decide), if_neg (by decide)]
      exact ⟨hO.more (by omega), byte_same h2 d2 d3, by show s1.kept.length = n; rw [d2]; exact h3, ⟨rfl, rfl, rfl, rfl, h7, by show l.nx ≤ _; omega, h10, h11⟩, .inr ⟨rfl, rfl⟩⟩
    · rw [d1, if_pos rfl, if_pos rfl]
      have hl : (l.tm.take j ++ [l.nx]).length = j + 1 := by rw [List.length_append, List.length_take, Nat.min_eq_left h6]; rfl
      have ih := wrN_ok (n := n) k s1 { l with tm := l.tm.take j ++ [l.nx], nx := l.nx + 1 } (j + 1) (m + 1) hO (byte_push h2 hzb d2 d3) (by rw [d2]; exact h3) h4 (by show j + 1 + k ≤ l.ct; omega) (by show j + 1 ≤ (l.tm.take j ++ [l.nx]).length; omega) (by show 1 ≤ l.nx + 1; omega) (by show l.nx + 1 + (k : Int) ≤ _; omega) h9 (fun t ht => by
        rcases List.mem_append.1 ht with ht | ht
        · exact h10 t (List.mem_of_mem_take ht)
        · obtain rfl : t = l.nx := by simpa using ht
          omega) (by show (l.tm.take j ++ [l.nx]).length ≤ l.ct; omega) h12
      obtain ⟨i1, i2, i3, i4, i5⟩ := ih
      refine ⟨by rw [show m + (k + 1) = m + 1 + k by omega]; exact i1, i2, i3, ⟨i4.fr, i4.ct, i4.ep, i4.sm, i4.n1, i4.n2, i4.tt, i4.tc⟩, ?_⟩
      rcases i5 with ⟨a1, a2, a3⟩ | a
      · refine .inl ⟨a1, a2, fun _ => ?_⟩
        by_cases hk : 0 < k
        · rw [a3 hk]; omega
        · obtain rfl : k = 0 := by omega
          show (l.tm.take j ++ [l.nx]).length = j + 1
          exact hl
      · exact .inr a
theorem Both.app {s : Ds} {l : Ls} {n m : Nat} (h : Both s l n m) (b : List Int) (hb : Bytes b) : Both (appL s l b).1 (appL s l b).2.1 n (m + (l.ct + 1)) ∧ (appL s l b).2.1.fr = l.fr ∧ (appL s l b).2.1.ct = l.ct ∧ (appL s l b).2.1.ep = l.ep := by
  obtain ⟨R, hR⟩ : ∃ R, R = appL s l b := ⟨_, rfl⟩
  rw [← hR]
  unfold appL at hR
  have hL := h.lo
  by_cases h0 : l.bad = 0
  · rw [if_neg (by omega)] at hR
    by_cases h6 : 60000 < b.length
    · rw [if_pos h6] at hR
      subst hR
      exact ⟨h.more (by omega), rfl, rfl, rfl⟩
    · rw [if_neg h6] at hR
      dsimp only at hR
      have hfl : (frm smZ b).length = 8 + b.length := frm_length smZ (fun _ => rfl) b
      rw [hfl] at hR
      by_cases hfull : l.ct * 991 < l.sm.length + (8 + b.length) ∨ 4611686018427387904 ≤ l.nx + (((l.sm.length + (8 + b.length) - 1) / 991 - l.sm.length / 991 : Nat) : Int)
      · rw [if_pos hfull] at hR
        subst hR
        exact ⟨h.more (by omega), rfl, rfl, rfl⟩
      · rw [if_neg hfull] at hR
        obtain ⟨first, hfi⟩ : ∃ x, x = l.sm.length / 991 := ⟨_, rfl⟩
        obtain ⟨last, hla⟩ : ∃ x, x = (l.sm.length + (8 + b.length) - 1) / 991 := ⟨_, rfl⟩
        rw [← hfi, ← hla] at hfull hR
        have hf1 : ¬ l.ct * 991 < l.sm.length + (8 + b.length) := fun q => hfull (.inl q)
        have hf2 : ¬ 4611686018427387904 ≤ l.nx + ((last - first : Nat) : Int) := fun q => hfull (.inr q)
        have htl := hL.tl h0
        have hsb : Bytes (l.sm ++ frm smZ b) := fun z hz => (List.mem_append.1 hz).elim (hL.sb z) (frm_bytes _ hb z)
        have K := wrN_ok (n := n) (last + 1 - first) s { l with sm := l.sm ++ frm smZ b } first m h.ok h.by_ h.kl hL.f1 (by show first + (last + 1 - first) ≤ l.ct; omega) (by show first ≤ l.tm.length; omega) hL.n1 (by show l.nx + ((last + 1 - first : Nat) : Int) ≤ _; omega) hsb hL.tt hL.tc h0
        rw [← hR] at K
        obtain ⟨k1, k2, k3, k4, k5⟩ := K
        have hc := k4.ct
        have hsm := k4.sm
        have hc : R.2.1.ct = l.ct := hc
        have hsm : R.2.1.sm = l.sm ++ frm smZ b := hsm
        have hfr : R.2.1.fr = l.fr := k4.fr
        have hep : R.2.1.ep = l.ep := k4.ep
        refine ⟨⟨k1.more (by omega), k2, k3, ⟨by rw [hfr, hc]; exact hL.f1, by rw [hc]; exact hL.f2, by rw [hep]; exact hL.e, k4.n1, k4.n2, by rw [hsm]; exact hsb, by rw [hsm, hc, List.length_append, hfl]; omega, fun hb0 => ?_, k4.tt, by rw [hc]; exact k4.tc⟩⟩, hfr, hc, hep⟩
        rcases k5 with ⟨a1, a2, a3⟩ | ⟨a1, a2⟩
        · rw [a3 (by omega), hsm, List.length_append, hfl]
          omega
        · rw [a2] at hb0
          cases hb0
  · rw [if_pos h0] at hR
    subst hR
    exact ⟨h.more (by omega), rfl, rfl, rfl⟩
theorem Both.sync {s : Ds} {l : Ls} {n m : Nat} (h : Both s l n m) : Both (syncL s l).1 (syncL s l).2.1 n (m + 1) ∧ (syncL s l).2.1.fr = l.fr ∧ (syncL s l).2.1.ct = l.ct ∧ (syncL s l).2.1.ep = l.ep := by
  obtain ⟨R, hR⟩ : ∃ R, R = syncL s l := ⟨_, rfl⟩
  rw [← hR]
  unfold syncL at hR
  have hL := h.lo
  by_cases h0 : l.bad = 0
  · rw [if_neg (by omega)] at hR
    dsimp only at hR
    subst hR
    have hO := h.ok.do_ ⟨2, 0, [], true, []⟩ (by show (0 : Int) ≤ _; omega)
    refine ⟨⟨hO, ?_, ?_, ⟨hL.f1, hL.f2, hL.e, hL.n1, hL.n2, hL.sb, hL.sl, fun _ => hL.tl h0, hL.tt, hL.tc⟩⟩, rfl, rfl, rfl⟩
    · rcases do_2 s with ⟨_, d2, d3⟩ | ⟨_, d2, d3⟩
      · exact byte_same h.by_ d2 d3
      · exact byte_ke h.by_ _ d2 d3
    · rcases do_2 s with ⟨_, d2, d3⟩ | ⟨_, d2, d3⟩
      · show (s.do_ ⟨2, 0, [], true, []⟩).1.kept.length = n
        rw [d2]; exact h.kl
      · show (s.do_ ⟨2, 0, [], true, []⟩).1.kept.length = n
        rw [d2, keI_length]; exact h.kl
  · rw [if_pos h0] at hR
    subst hR
    exact ⟨h.more (by omega), rfl, rfl, rfl⟩
theorem Both.reset {s : Ds} {l : Ls} {n m : Nat} (h : Both s l n m) (ep : Int) (hep : 0 ≤ ep ∧ ep ≤ 18446744073709551615) : Both s (resetL l ep).1 n m ∧ (resetL l ep).1.fr = l.fr ∧ (resetL l ep).1.ct = l.ct := by
  have hL := h.lo
  unfold resetL
  by_cases h0 : l.bad = 0
  · rw [if_neg (by omega)]
    by_cases h1 : ep ≤ l.ep
    · rw [if_pos h1]
      exact ⟨h, rfl, rfl⟩
    · rw [if_neg h1]
      exact ⟨⟨h.ok, h.by_, h.kl, ⟨hL.f1, hL.f2, hep, hL.n1, hL.n2, (fun z hz => by cases hz), Nat.zero_le _, fun _ => (show 0 = (0 + 990) / 991 from rfl), (fun z hz => by cases hz), Nat.zero_le _⟩⟩, rfl, rfl⟩
  · rw [if_pos h0]
    exact ⟨h, rfl, rfl⟩
theorem Both.stop {s : Ds} {l : Ls} {n m : Nat} (h : Both s l n m) (a : Int) (ha : a ≤ 9223372036854775807) : Both (s.do_ ⟨3, a, [], true, []⟩).1 l n (m + 1) ∧ (s.do_ ⟨3, a, [], true, []⟩).1.kept = s.kept ∧ (s.do_ ⟨3, a, [], true, []⟩).1.pend = s.pend := by
  have hO := h.ok.do_ ⟨3, a, [], true, []⟩ ha
  have e1 : (s.do_ ⟨3, a, [], true, []⟩).1.kept = s.kept := by unfold Ds.do_; rw [if_pos rfl]
  have e2 : (s.do_ ⟨3, a, [], true, []⟩).1.pend = s.pend := by unfold Ds.do_; rw [if_pos rfl]
  exact ⟨⟨hO, byte_same h.by_ e1 e2, by rw [e1]; exact h.kl, h.lo⟩, e1, e2⟩
theorem Both.crash {s : Ds} {l : Ls} {n m : Nat} (h : Both s l n m) (ks : List Bool) : (s.do_ ⟨4, 0, [], true, ks⟩).1.Ok (m + 1) ∧ Byte (s.do_ ⟨4, 0, [], true, ks⟩).1 ∧ (s.do_ ⟨4, 0, [], true, ks⟩).1.kept.length = n ∧ (s.do_ ⟨4, 0, [], true, ks⟩).1.kept = keI (Dk.kpF ks) s.kept [] s.pend s.pend.length ∧ (s.do_ ⟨4, 0, [], true, ks⟩).1.pend = [] ∧ (s.do_ ⟨4, 0, [], true, ks⟩).1.off = false := by
  have hO := h.ok.do_ ⟨4, 0, [], true, ks⟩ (by show (0 : Int) ≤ _; omega)
  have e := do_cr s ks
  have e1 : (s.do_ ⟨4, 0, [], true, ks⟩).1.kept = keI (Dk.kpF ks) s.kept [] s.pend s.pend.length := by rw [e]
  have e2 : (s.do_ ⟨4, 0, [], true, ks⟩).1.pend = [] := by rw [e]
  exact ⟨hO, byte_ke h.by_ _ e1 e2, by rw [e1, keI_length]; exact h.kl, e1, e2, by rw [e]⟩
theorem Both.open_ {s : Ds} {n m fr ct : Nat} {ep : Int} (h1 : s.Ok m) (h2 : Byte s) (h3 : s.kept.length = n) (hfc : fr + ct ≤ n) (hc : 1 ≤ ct) (hep : 0 ≤ ep ∧ ep ≤ 18446744073709551615) : Both (rdN s ct) (openL s fr ct ep) n (m + ct) :=
  ⟨rdN_ok h1 ct, ⟨h2.k, h2.p⟩, h3, by have := openL_ok h2 (fr := fr) (ct := ct) (by omega) hc hep; rwa [h3] at this⟩
end Lo
end Go.Proofs.YtjdimgigbgafbaaDoor
namespace Go.Proofs.YtjdimgigbgafbaaDoor
set_option maxRecDepth 100000
open Go.RowKit H
open Lo Byts Seal Fram
set_option linter.unusedVariables false
theorem at_ptr {f : Fr} {k : Nat} {p p' : Nat} (h : f k = .pointer (some ⟨p, 0, none⟩)) (e : p = p') : f k = .pointer (some ⟨p', 0, none⟩) := by rw [h, e]
theorem Kq.ls {G : Lg} {v : Dk} {C : Nat → Prop} {w w' : World} (k : Kq v.kb v.d C w w') : Chg (G.LS v C w) w w' := k.chg.mono fun g hS => by
  rcases hS with h | h | h
  · exact .inl h
  · exact .inr (.inl h)
  · exact .inr (.inr (.inl h))
structure De where
  (kind n b : Int) (kA : Option Addr) (kn kc : Nat) (keep : List Bool)
abbrev De.vals (x : De) : List Value := [.int .i64 x.kind, .int .i64 x.n, .int .u8 x.b, .slice x.kA x.kn x.kc]
abbrev De.v (x : De) : Value := .agg x.vals.toArray
structure De.At (x : De) (N : Nat) (w : World) : Prop where
  hk : Reads w N 1 x.kA x.kn (x.keep.map Value.bool)
  hn : -9223372036854775808 ≤ x.n ∧ x.n ≤ 9223372036854775807
  hb : 0 ≤ x.b ∧ x.b < 256
  hl : x.kn ≤ maxLen
theorem De.At.low {x : De} {N : Nat} {w w' : World} (h : x.At N w) (hb : Below N w w') : x.At N w' := ⟨h.hk.low hb (Nat.le_refl _), h.hn, h.hb, h.hl⟩
structure DesAt (xs : List De) (A : Option Addr) (n N : Nat) (w : World) : Prop where
  hr : Reads w N 4 A n (xs.flatMap De.vals)
  hx : ∀ x ∈ xs, x.At N w
  hn : xs.length = n
theorem DesAt.low {xs : List De} {A : Option Addr} {n N : Nat} {w w' : World} (h : DesAt xs A n N w) (hb : Below N w w') : DesAt xs A n N w' := ⟨h.hr.low hb (Nat.le_refl _), fun x hx => (h.hx x hx).low hb, h.hn⟩
theorem DesAt.row {xs : List De} {A : Option Addr} {n N : Nat} {w : World} (h : DesAt xs A n N w) {i : Nat} (hi : i < n) : ∃ x, xs[i]? = some x ∧ x ∈ xs ∧ x.At N w := by
  have hlt : i < xs.length := by rw [h.hn]; exact hi
  exact ⟨xs[i], List.getElem?_eq_getElem hlt, List.getElem_mem hlt, h.hx _ (List.getElem_mem hlt)⟩
theorem de_len (x : De) : x.vals.length = 4 := rfl
theorem des_of {w : World} {N n : Nat} {A : Option Addr} {xs : List ((Nm .i64) × (Nm .i64) × (Nm .u8) × (List (Bool)))} (h : LiesSlice w N A n xs) : ∃ ds : List De, DesAt ds A n N w := by
  obtain ⟨l, h1, h2, h3⟩ := h.rows (X := De) (f := De.vals) (g := fun x => x.At N w) (fun x => rfl) (fun us a hl => by
    obtain ⟨u1, v1, rfl, e1, u2, v2, rfl, e2, u3, v3, rfl, e3, kA, kn, kc, rfl, m1, m2, _, m3⟩ := hl
    obtain rfl : u1 = [.int .i64 a.1.z] := e1
    obtain rfl : u2 = [.int .i64 a.2.1.z] := e2
    obtain rfl : u3 = [.int .u8 a.2.2.1.z] := e3
    exact ⟨⟨a.1.z, a.2.1.z, a.2.2.1.z, kA, kn, kc, a.2.2.2⟩, rfl, m3.bools, a.2.1.i64, a.2.2.1.u8, by dsimp only; omega⟩)
  exact ⟨l, h2, h3, h1⟩
def lightL (xs : List De) : Bool := decide (xs.length ≤ 40) && xs.all fun x => decide (x.kn ≤ 100)
theorem lightL_of {xs : List De} (h : lightL xs = true) : xs.length ≤ 40 ∧ ∀ x ∈ xs, x.kn ≤ 100 := by
  unfold lightL at h
  rw [Bool.and_eq_true, List.all_eq_true] at h
  exact ⟨of_decide_eq_true h.1, fun x hx => of_decide_eq_true (h.2 x hx)⟩
theorem light22 {xs : List De} {A : Option Addr} {n c N : Nat} {w : World} (h : DesAt xs A n N w) (hn : n ≤ maxLen) : Calls Tryd.prog 6 #[.slice A n c] w fun e w' => e = .returned (.bool (lightL xs)) ∧ w = w' := by
  unfold maxLen at hn
  have hlen := h.hn
  have hR := h.hr
  refine enter Tryd.func6 rfl (by kernel_rfl) ?_
  refine J.seq ?_
  refine J.region ?_
  refine L.va rfl (X.assign (by conv => lhs; whnf)) ?_
  refine L.nil ?_
  refine J.seq ?_
  refine J.seq ?_
  refine J.region ?_
  refine L.va rfl (X.move (by conv => lhs; whnf)) ?_
  refine L.va rfl (X.len rfl Tryd.underlying22) ?_
  refine L.va rfl (X.gtr rfl rfl) ?_
  refine L.nil ?_
  refine J.dec rfl (fun h60 => ?_) (fun h60 => ?_)
  · have e : lightL xs = false := by unfold lightL; rw [decide_eq_false (by omega)]; rfl
    rw [e]
    refine J.seq ?_
    refine J.region ?_
    refine L.va rfl (X.assign (by conv => lhs; whnf)) ?_
    refine L.nil ?_
    refine J.ret ?_
    refine thn_ret <| ?_
    refine fin1 ?_
    exact ⟨rfl, rfl⟩
  · refine J.skip ?_
    refine J.seq ?_
    refine J.seq ?_
    refine J.region ?_
    refine L.va rfl (X.assign (by conv => lhs; whnf)) ?_
    refine L.nil ?_
    refine J.block ?_
    refine J.loop (X := Nat) [2, 3, 7, 8, 9, 10, 11, 12, 13, 14, 15, 16, 17, 18, 19] (fun i => [(3, .int .i64 (i : Int))]) (fun i w' => w' = w ∧ i ≤ n ∧ ∀ j x, j < i → xs[j]? = some x → x.kn ≤ 100) (fun i => n - i) (0) (At1 (by first | rfl | exact at_int rfl (by omega) | exact at_slice rfl (by omega) | exact at_int rfl (by simp))) ?_ ?_
    · exact ⟨rfl, Nat.zero_le _, fun j x hj => absurd hj (Nat.not_lt_zero _)⟩
    · rintro i g w2 ⟨rfl, hi, hall⟩
      refine J.seq ?_
      refine J.seq ?_
      refine J.region ?_
      refine L.va rfl (X.move (by conv => lhs; whnf)) ?_
      refine L.va rfl (X.move (by conv => lhs; whnf)) ?_
      refine L.va rfl (X.len rfl Tryd.underlying22) ?_
      refine L.va rfl (X.lss rfl rfl) ?_
      refine L.nil ?_
      refine J.dec rfl (fun hlt => ?_) (fun hlt => ?_)
      · obtain ⟨x, hxi, hxm, hxA⟩ := h.row (show i < n by omega)
        have hl := hxA.hl
        unfold maxLen at hl
        refine J.skip ?_
        refine J.seq ?_
        refine J.block ?_
        refine J.seq ?_
        refine J.region ?_
        refine L.va rfl (X.move (by conv => lhs; whnf)) ?_
        refine L.va rfl (X.move (by conv => lhs; whnf)) ?_
        refine L.va rfl ((by first | exact X.indexAddrn rfl rfl Tryd.underlying22 sz_47 (by first | exact Option.some_ne_none _ | exact hR.some_ (by omega)) (by omega) | exact X.indexAddr rfl rfl Tryd.underlying22 sz_47 (by first | exact Option.some_ne_none _ | exact hR.some_ (by omega)) (by omega))) ?_
        refine L.va rfl (X.fieldP rfl Tryd.underlying47 rfl sz_45 (by decide) (by first | exact Option.some_ne_none _ | exact hR.some_ (by omega))) ?_
        refine L.va rfl (X.load rfl sc_45 (Ld.flat de_len hR hxi (r := 3) rfl)) ?_
        refine L.va rfl (X.len rfl Tryd.underlying45) ?_
        refine L.va rfl (X.gtr rfl rfl) ?_
        refine L.nil ?_
        refine J.dec rfl (fun h10 => ?_) (fun h10 => ?_)
        · have e : lightL xs = false := by
            unfold lightL
            rw [Bool.and_eq_false_iff]
            refine .inr ?_
            rw [List.all_eq_false]
            exact ⟨x, hxm, by simp; omega⟩
          rw [e]
          refine J.seq ?_
          refine J.region ?_
          refine L.va rfl (X.assign (by conv => lhs; whnf)) ?_
          refine L.nil ?_
          refine J.ret ?_
          refine inB_ret <|  thn_ret <|  thn_ret <|  inB_ret <|  thn_ret <| ?_
          refine fin1 ?_
          exact ⟨rfl, rfl⟩
        · refine J.skip ?_
          refine J.region ?_
          refine L.va rfl (X.move (by conv => lhs; whnf)) ?_
          refine L.va rfl (X.add rfl rfl (by omega)) ?_
          refine L.va rfl (X.assign (by conv => lhs; whnf)) ?_
          refine L.nil ?_
          refine ⟨i + 1, At1 (by first | rfl | exact at_int rfl (by omega) | exact at_slice rfl (by omega) | exact at_int rfl (by simp)), (by (iterate 14 refine Agr.lk rfl ?_); exact Agr.lk rfl (Agr.hav rfl Agr.rfl')), ?_⟩
          refine ⟨⟨rfl, by omega, fun j y hj hy => ?_⟩, by omega⟩
          rcases Nat.lt_or_ge j i with hj2 | hj2
          · exact hall j y hj2 hy
          · obtain rfl : j = i := by omega
            rw [hxi] at hy
            injection hy with hy
            subst hy
            omega
      · have e : lightL xs = true := by
          unfold lightL
          rw [Bool.and_eq_true]
          refine ⟨decide_eq_true (by omega), ?_⟩
          rw [List.all_eq_true]
          intro x hx
          obtain ⟨j, hj, rfl⟩ := List.getElem_of_mem hx
          have := hall j _ (by omega) (List.getElem?_eq_getElem hj)
          simp
          omega
        rw [e]
        refine J.exit ?_
        refine J.seq ?_
        refine J.region ?_
        refine L.va rfl (X.assign (by conv => lhs; whnf)) ?_
        refine L.nil ?_
        refine J.ret ?_
        refine fin1 ?_
        exact ⟨rfl, rfl⟩
def De.body (x : De) : List Int := [IntKind.u8.wrap x.n, IntKind.u8.wrap (IntKind.i64.wrap (x.n.tdiv 256))] ++ List.replicate (min x.n.toNat 3000) x.b
theorem De.body_len (x : De) : x.body.length = 2 + min x.n.toNat 3000 := by
  unfold De.body
  rw [List.length_append, List.length_replicate]
  rfl
theorem wu8_bd (z : Int) : 0 ≤ IntKind.u8.wrap z ∧ IntKind.u8.wrap z < 256 := by
  have e : IntKind.u8.wrap z = z % 256 := rfl
  rw [e]
  omega
theorem De.body_bytes {x : De} (hb : 0 ≤ x.b ∧ x.b < 256) : Bytes x.body := by
  intro z hz
  unfold De.body at hz
  rcases List.mem_append.1 hz with hz | hz
  · have hz : z ∈ [IntKind.u8.wrap x.n, IntKind.u8.wrap (IntKind.i64.wrap (x.n.tdiv 256))] := hz
    simp only [List.mem_cons, List.not_mem_nil, or_false] at hz
    rcases hz with rfl | rfl
    · exact wu8_bd _
    · exact wu8_bd _
  · obtain ⟨_, rfl⟩ := List.mem_replicate.1 hz
    exact hb
theorem body22 (x : De) (w : World) (hn : -9223372036854775808 ≤ x.n ∧ x.n ≤ 9223372036854775807) (hb : 0 ≤ x.b ∧ x.b < 256) :
    Calls Tryd.prog 13 #[x.v] w fun e w' => ∃ A c, e = .returned (.slice A x.body.length c) ∧ w'.ownsRow w.heap.size 5 1 (.slice A x.body.length c) x.body.length (nums .u8 x.body) ∧ Ext w w' := by
  rw [De.body_len]
  obtain ⟨pre, hpre⟩ : ∃ p, p = [IntKind.u8.wrap x.n, IntKind.u8.wrap (IntKind.i64.wrap (x.n.tdiv 256))] := ⟨_, rfl⟩
  have hpl : pre.length = 2 := by rw [hpre]; rfl
  have eB : x.body = pre ++ List.replicate (min x.n.toNat 3000) x.b := by rw [hpre]; rfl
  rw [eB]
  refine enter Tryd.func13 rfl (by kernel_rfl) ?_
  refine J.seq ?_
  refine J.region ?_
  refine L.boxA (l := [_, _, _, _]) rfl rfl ?_
  intro b1 w1 hb1 hs1 hk1 he1
  have hk1 : Blk w1 b1 47 #[.int .i64 x.kind, .int .i64 x.n, .int .u8 x.b, .slice x.kA x.kn x.kc] := hk1
  refine L.va rfl (X.assign (by conv => lhs; whnf)) ?_
  refine L.nil ?_
  refine J.seq ?_
  refine J.region ?_
  refine L.va rfl (X.fieldAddr rfl Tryd.underlying47 rfl sz_3 (by decide)) ?_
  refine L.va rfl (X.load rfl sc_3 (by first | exact Ld.blk hk1 rfl)) ?_
  refine L.va rfl ((by first | exact X.conv8 rfl is_3 Tryd.underlying5 (by omega) | exact X.convw rfl is_3 Tryd.underlying5)) ?_
  refine L.va rfl (X.fieldAddr rfl Tryd.underlying47 rfl sz_3 (by decide)) ?_
  refine L.va rfl (X.load rfl sc_3 (by first | exact Ld.blk hk1 rfl)) ?_
  refine L.va rfl (X.quow rfl rfl (by decide)) ?_
  refine L.va rfl ((by first | exact X.conv8 rfl is_3 Tryd.underlying5 (by omega) | exact X.convw rfl is_3 Tryd.underlying5)) ?_
  refine L.bslice (vs := [_, _]) rfl (Evs.cons (by conv => lhs; whnf) (Evs.cons (by conv => lhs; whnf) Evs.nil)) rfl rfl rfl rfl Tryd.underlying39 sz_5 zr_5 (by decide) ?_
  intro b2 w2 hb2 hs2 hk2 he2
  have hk12 : Blk w2 b1 47 #[.int .i64 x.kind, .int .i64 x.n, .int .u8 x.b, .slice x.kA x.kn x.kc] := hk1.ext he2
  have ho2 : w2.ownsRow w1.heap.size 5 1 (.slice (some ⟨b2, 0, none⟩) 2 2) 2 (nums .u8 pre) := blk_own1 (q := 2) (show Blk w2 b2 5 (nums .u8 pre).toArray by rw [hpre]; exact hk2) (by omega) (by decide) (by rw [hpre]; rfl)
  have he02 := he1.trans he2
  refine L.va rfl (X.assign (by conv => lhs; whnf)) ?_
  refine L.nil ?_
  refine J.seq ?_
  refine J.seq ?_
  refine J.region ?_
  refine L.va rfl (X.assign (by conv => lhs; whnf)) ?_
  refine L.nil ?_
  refine J.block ?_
  refine J.loop (X := Nat × (Option Addr × Nat)) [3, 4, 13, 14, 15, 16, 17, 18, 19, 20, 21, 22, 23, 24, 25, 26, 27] (fun (i, A, c) => [(4, .int .i64 (i : Int)), (3, .slice A (2 + i) c)]) (fun (i, A, c) w' => i ≤ min x.n.toNat 3000 ∧ w'.ownsRow w1.heap.size 5 1 (.slice A (2 + i) c) (2 + i) (nums .u8 (pre ++ List.replicate i x.b)) ∧ Ext w w' ∧ Blk w' b1 47 #[.int .i64 x.kind, .int .i64 x.n, .int .u8 x.b, .slice x.kA x.kn x.kc]) (fun (i, A, c) => min x.n.toNat 3000 - i) ((0, some ⟨b2, 0, none⟩, 2)) (At2 (by first | rfl | exact at_int rfl (by omega) | exact at_slice rfl (by omega) | exact at_int rfl (by simp)) (by first | rfl | exact at_int rfl (by omega) | exact at_slice rfl (by omega) | exact at_int rfl (by simp))) ?_ ?_
  · exact ⟨Nat.zero_le _, by simpa using ho2, he02, hk12⟩
  · rintro ⟨i, A, c⟩ g w3 ⟨hi, ho3, he3, hk3⟩
    have he3 : Ext w w3 := he3
    have z1 := he1.le
    refine J.seq ?_
    refine J.seq ?_
    refine J.region ?_
    refine L.va rfl (X.move (by conv => lhs; whnf)) ?_
    refine L.va rfl (X.fieldAddr rfl Tryd.underlying47 rfl sz_3 (by decide)) ?_
    refine L.va rfl (X.load rfl sc_3 (by first | exact Ld.blk hk3 rfl)) ?_
    refine L.va rfl (X.lss rfl rfl) ?_
    refine L.va rfl (X.move (by conv => lhs; whnf)) ?_
    refine L.caseDec (k := 17) rfl (fun h1 => ?_) (fun h1 => ?_)
    · refine L.va rfl (X.move (by conv => lhs; whnf)) ?_
      refine L.va rfl (X.lss rfl rfl) ?_
      refine L.va rfl (X.pickT rfl (by conv => lhs; whnf)) ?_
      refine L.nil ?_
      refine J.dec rfl (fun h2 => ?_) (fun h2 => ?_)
      · refine J.skip ?_
        refine J.seq ?_
        refine J.block ?_
        refine J.region ?_
        refine L.va rfl (X.move (by conv => lhs; whnf)) ?_
        refine L.va rfl (X.fieldAddr rfl Tryd.underlying47 rfl sz_5 (by decide)) ?_
        refine L.va rfl (X.load rfl sc_5 (by first | exact Ld.blk hk3 rfl)) ?_
        refine L.bslice (vs := [_]) rfl (Evs.cons (by conv => lhs; whnf) Evs.nil) rfl rfl rfl rfl Tryd.underlying39 sz_5 zr_5 (by decide) ?_
        intro b4 w4 hb4 hs4 hk4 he4
        have hk34 := hk3.ext he4
        have z3 := hk3.lt
        have z4 := he4.le
        refine L.appendQ (q := 2 + i + 1) (ys := (pre ++ List.replicate i x.b) ++ [x.b]) rfl rfl rfl Tryd.underlying39 el_5 ((ho3.ext he4)) ((blk_reads (q := 1) (l := nums .u8 [x.b]) hk4 hk4.lt rfl)) (by omega) (by simp) (by unfold maxLen; omega) (by omega) ?_
        intro A5 c5 w5 ho5 hg5 hb5 hor5
        have hk5 := hk34.grown hg5 (fun e => by have h1 := (own_isT ho3 e.symm).2; have h2 := hk1.lt; have h3 : b1 < w1.heap.size := h2; omega)
        have he45 : Ext w w5 := (he3.trans he4).low (hb5.mono z1) (Nat.le_refl _)
        refine L.va rfl (X.assign (by conv => lhs; whnf)) ?_
        refine L.nil ?_
        refine J.region ?_
        refine L.va rfl (X.move (by conv => lhs; whnf)) ?_
        refine L.va rfl (X.add rfl rfl (by omega)) ?_
        refine L.va rfl (X.assign (by conv => lhs; whnf)) ?_
        refine L.nil ?_
        refine ⟨(i + 1, A5, c5), At2 (by first | rfl | exact at_int rfl (by omega) | exact at_slice rfl (by omega) | exact at_int rfl (by simp)) (by first | rfl | exact at_int rfl (by omega) | exact at_slice rfl (by omega) | exact at_int rfl (by simp)), (by (iterate 18 refine Agr.lk rfl ?_); exact Agr.lk rfl (Agr.hav rfl Agr.rfl')), ?_⟩
        refine ⟨⟨by omega, ?_, he45, hk5⟩, by show min x.n.toNat 3000 - (i + 1) < min x.n.toNat 3000 - i; omega⟩
        rw [List.replicate_succ', ← List.append_assoc]
        exact ho5
      · obtain rfl : i = min x.n.toNat 3000 := by omega
        refine J.exit ?_
        refine J.seq ?_
        refine J.region ?_
        refine L.va rfl (X.move (by conv => lhs; whnf)) ?_
        refine L.va rfl (X.assign (by conv => lhs; whnf)) ?_
        refine L.nil ?_
        refine J.ret ?_
        refine fin1 ?_
        exact ⟨A, c, rfl, ho3.mono z1, he3⟩
    · refine L.no rfl ?_
      refine L.no rfl ?_
      refine L.va rfl (X.pickF rfl (by conv => lhs; whnf)) ?_
      refine L.nil ?_
      refine J.iteF rfl ?_
      obtain rfl : i = min x.n.toNat 3000 := by omega
      refine J.exit ?_
      refine J.seq ?_
      refine J.region ?_
      refine L.va rfl (X.move (by conv => lhs; whnf)) ?_
      refine L.va rfl (X.assign (by conv => lhs; whnf)) ?_
      refine L.nil ?_
      refine J.ret ?_
      refine fin1 ?_
      exact ⟨A, c, rfl, ho3.mono z1, he3⟩
structure Bos (w : World) (B : Nat) (A : Option Addr) (bs : List Bo) : Prop where
  hr : Reads w B 1 A bs.length (bs.map Bo.v)
  el : ∀ b ∈ bs, Reads w B 1 b.A b.l.length (nums .u8 b.l)
theorem bytes22 {A B : Option Addr} {cA cB M : Nat} {as_ bs : List Bo} {w : World} (h1 : Bos w M A as_) (h2 : Bos w M B bs) (hM : M ≤ w.heap.size) (he : as_.map Bo.l = bs.map Bo.l) (hl : bs.length ≤ 1000000) :
    Calls Tryd.prog 19 #[.slice A as_.length cA, .slice B bs.length cB] w fun e w' => e = .returned (.bool true) ∧ Ext w w' := by
  have hlen : as_.length = bs.length := by have := congrArg List.length he; simpa using this
  have hR1 := h1.hr
  have hR2 := h2.hr
  rw [hlen] at hR1 ⊢
  obtain ⟨n, hn⟩ : ∃ n, n = bs.length := ⟨_, rfl⟩
  rw [← hn] at hR1 hR2 hl hlen ⊢
  refine enter Tryd.func19 rfl (by kernel_rfl) ?_
  refine J.seq ?_
  refine J.region ?_
  refine L.va rfl (X.assign (by conv => lhs; whnf)) ?_
  refine L.nil ?_
  refine J.seq ?_
  refine J.seq ?_
  refine J.region ?_
  refine L.va rfl (X.move (by conv => lhs; whnf)) ?_
  refine L.va rfl (X.len rfl Tryd.underlying30) ?_
  refine L.va rfl (X.move (by conv => lhs; whnf)) ?_
  refine L.va rfl (X.len rfl Tryd.underlying30) ?_
  refine L.va rfl (X.neq rfl rfl) ?_
  refine L.nil ?_
  refine J.ndecF rfl (by omega) ?_
  refine J.skip ?_
  refine J.seq ?_
  refine J.seq ?_
  refine J.region ?_
  refine L.va rfl (X.assign (by conv => lhs; whnf)) ?_
  refine L.nil ?_
  refine J.block ?_
  refine J.loop (X := Nat) [4, 5, 11, 12, 13, 14, 15, 16, 17, 18, 19, 20, 21, 22, 23, 24, 25, 26, 27] (fun i => [(5, .int .i64 (i : Int))]) (fun i w' => i ≤ n ∧ Ext w w') (fun i => n - i) (0) (At1 (by first | rfl | exact at_int rfl (by omega) | exact at_slice rfl (by omega) | exact at_int rfl (by simp))) ?_ ?_
  · exact ⟨Nat.zero_le _, Ext.refl _⟩
  · rintro i g w2 ⟨hi, he2⟩
    have he2 : Ext w w2 := he2
    have hR12 := hR1.low he2 hM
    have hR22 := hR2.low he2 hM
    refine J.seq ?_
    refine J.seq ?_
    refine J.region ?_
    refine L.va rfl (X.move (by conv => lhs; whnf)) ?_
    refine L.va rfl (X.move (by conv => lhs; whnf)) ?_
    refine L.va rfl (X.len rfl Tryd.underlying30) ?_
    refine L.va rfl (X.lss rfl rfl) ?_
    refine L.nil ?_
    refine J.dec rfl (fun hlt => ?_) (fun hlt => ?_)
    · have hi' : i < n := by omega
      obtain ⟨a, ha⟩ : ∃ a, as_[i]? = some a := ⟨_, List.getElem?_eq_getElem (by omega)⟩
      obtain ⟨b, hb⟩ : ∃ b, bs[i]? = some b := ⟨_, List.getElem?_eq_getElem (by omega)⟩
      have eab : a.l = b.l := by
        have e1 := congrArg (fun l => l[i]?) he
        simp only [List.getElem?_map, ha, hb, Option.map_some] at e1
        injection e1
      have ra := (h1.el a (List.mem_of_getElem? ha)).low he2 hM
      have rb := (h2.el b (List.mem_of_getElem? hb)).low he2 hM
      have va : (as_.map Bo.v).getD i undef = a.v := by simp [List.getD, ha]
      have vb : (bs.map Bo.v).getD i undef = b.v := by simp [List.getD, hb]
      have z2 := he2.le
      refine J.skip ?_
      refine J.seq ?_
      refine J.block ?_
      refine J.seq ?_
      have la : ∀ {w' : World}, Ext w2 w' → Ld w' (pA A i) a.v := fun h => by rw [← va]; exact Ld.rd (hR12.ext h) (by omega)
      have lb : ∀ {w' : World}, Ext w2 w' → Ld w' (pA B i) b.v := fun h => by rw [← vb]; exact Ld.rd (hR22.ext h) (by omega)
      have nA : A ≠ none := hR12.some_ (by omega)
      have nB : B ≠ none := hR22.some_ (by omega)
      refine J.draw (ℓ := 1000000) (S := Ext w2) mixed (fun w3 hS hS_h => ?_)
      refine D.va 0 rfl (by kernel_rfl) (fun _ _ _ h => h) rfl (fun w' hw => X.move (by conv => lhs; whnf)) hS ?_
      refine D.va 1 rfl (by kernel_rfl) (fun _ _ _ h => h) rfl (fun w' hw => X.move (by conv => lhs; whnf)) hS ?_
      refine D.va 2 rfl (by kernel_rfl) (fun _ _ _ h => h) rfl (fun w' hw => (by first | exact X.index1n rfl rfl Tryd.underlying30 sz_39 (by first | exact Option.some_ne_none _ | exact la hw | exact lb hw | exact nA | exact nB) (by omega) | exact X.index1 rfl rfl Tryd.underlying30 sz_39 (by first | exact Option.some_ne_none _ | exact la hw | exact lb hw | exact nA | exact nB) (by omega))) hS ?_
      refine D.va 3 rfl (by kernel_rfl) (fun _ _ _ h => h) rfl (fun w' hw => X.load rfl sc_39 (by first | exact la hw | exact lb hw | exact nA | exact nB)) hS ?_
      refine D.va 4 rfl (by kernel_rfl) (fun _ _ _ h => h) rfl (fun w' hw => X.conv rfl (((ra.ext hw).more (Nat.le_trans (Nat.le_trans hM z2) (Ext.le hw))).conv (c := a.c) Tryd.underlying39 Tryd.underlying5 Tryd.underlying9)) hS ?_
      refine D.va 5 rfl (by kernel_rfl) (fun _ _ _ h => h) rfl (fun w' hw => X.move (by conv => lhs; whnf)) hS ?_
      refine D.va 6 rfl (by kernel_rfl) (fun _ _ _ h => h) rfl (fun w' hw => X.move (by conv => lhs; whnf)) hS ?_
      refine D.va 7 rfl (by kernel_rfl) (fun _ _ _ h => h) rfl (fun w' hw => (by first | exact X.index1n rfl rfl Tryd.underlying30 sz_39 (by first | exact Option.some_ne_none _ | exact la hw | exact lb hw | exact nA | exact nB) (by omega) | exact X.index1 rfl rfl Tryd.underlying30 sz_39 (by first | exact Option.some_ne_none _ | exact la hw | exact lb hw | exact nA | exact nB) (by omega))) hS ?_
      refine D.va 8 rfl (by kernel_rfl) (fun _ _ _ h => h) rfl (fun w' hw => X.load rfl sc_39 (by first | exact la hw | exact lb hw | exact nA | exact nB)) hS ?_
      refine D.va 9 rfl (by kernel_rfl) (fun _ _ _ h => h) rfl (fun w' hw => X.conv rfl (((rb.ext hw).more (Nat.le_trans (Nat.le_trans hM z2) (Ext.le hw))).conv (c := b.c) Tryd.underlying39 Tryd.underlying5 Tryd.underlying9)) hS ?_
      refine D.va 10 rfl (by kernel_rfl) (fun _ _ _ h => h) rfl (fun w' hw => X.neqS rfl rfl) hS ?_
      refine D.done (by kernel_rfl) ?_
      refine J.ndecF rfl (by rw [eab]) ?_
      refine J.skip ?_
      refine J.region ?_
      refine L.va rfl (X.move (by conv => lhs; whnf)) ?_
      refine L.va rfl (X.add rfl rfl (by omega)) ?_
      refine L.va rfl (X.assign (by conv => lhs; whnf)) ?_
      refine L.nil ?_
      refine ⟨i + 1, At1 (by first | rfl | exact at_int rfl (by omega) | exact at_slice rfl (by omega) | exact at_int rfl (by simp)), (by (iterate 18 refine Agr.lk rfl ?_); exact Agr.lk rfl (Agr.hav rfl Agr.rfl')), ?_⟩
      exact ⟨⟨by omega, he2.trans hS⟩, by omega⟩
    · refine J.exit ?_
      refine J.seq ?_
      refine J.region ?_
      refine L.va rfl (X.assign (by conv => lhs; whnf)) ?_
      refine L.nil ?_
      refine J.ret ?_
      refine fin1 ?_
      exact ⟨rfl, he2⟩
end Go.Proofs.YtjdimgigbgafbaaDoor
namespace Go.Proofs.YtjdimgigbgafbaaDoor
set_option maxRecDepth 100000
open Go.RowKit H
open Lo Byts Seal Fram
set_option linter.unusedVariables false
structure Pair (N : Nat) (C : Nat → Prop) (G : Lg) (v : Dk) (r : Rk) (R : Rl) (w : World) : Prop where
  at_ : G.At v N C w
  ra : r.At N w
  R_ : R.At N w
  sC : ∀ x, r.Cl x → ∀ g, sblk x = some g → G.ss.ownBlock ≠ some g
  sR : ∀ g, R.ss.ownBlock = some g → G.ss.ownBlock ≠ some g
  sT : ∀ g, R.ts.ownBlock = some g → G.ts.ownBlock ≠ some g
  rk : r.K.ownBlock ≠ some v.kb
  cap : ∀ x, r.Cl x → Cap x
theorem isT_lt {w : World} {g t : Nat} (h : IsT w g t) : g < w.heap.size := by
  obtain ⟨cs, hc⟩ := h
  have hc : Blk w g t cs := hc
  exact hc.lt
section
variable {N : Nat} {C : Nat → Prop} {G G' : Lg} {v v' : Dk} {r r' : Rk} {R R' : Rl} {w w' : World}
theorem Pair.ext (h : Pair N C G v r R w) (he : Ext w w') : Pair N C G v r R w' := ⟨h.at_.ext he, h.ra.ext he, h.R_.ext he, h.sC, h.sR, h.sT, h.rk, h.cap⟩
theorem Rk.At.chg (h : r.At N w) (hA : G.At v N C w) (hC : Chg (G.LS v C w) w w') (hk : r.K.ownBlock ≠ some v.kb) (hs : ∀ x, r.Cl x → ∀ g, sblk x = some g → G.ss.ownBlock ≠ some g) : r.At N w' := by
  have no : ∀ {g t : Nat}, IsT w g t → (t = 39 → g ≠ v.kb) → (t = 5 → G.ss.ownBlock ≠ some g) → t ≠ 105 → t ≠ 107 → t ≠ 83 → t ≠ 35 → ¬ G.LS v C w g := by
    intro g t hT h1 h2 h3 h4 h5 h6 hS
    rcases hS with q | q | ⟨q, _⟩ | q | q | q
    · subst q; exact h1 (hT.fun_ hA.hd.kT.1) rfl
    · subst q; exact h3 (hT.fun_ hA.hd.dT)
    · exact h4 (hT.fun_ q)
    · subst q; exact h5 (hT.fun_ hA.hb.isT)
    · exact h2 (hT.fun_ (hA.hs.own q).1) q
    · exact h6 (hT.fun_ (own_isT hA.ht q).1)
  have hB := hA.below hC
  have rd : ∀ {x : Value} {zs : List Int}, r.Cl x → RD N w x zs → RD N w' x zs := fun {x zs} hx hr => by
    rcases hr with ⟨b, off, c, cs, rfl, hl, hb, hc⟩ | ⟨A, c, rfl, hr⟩
    · exact .inl ⟨b, off, c, cs, rfl, hl, hC.blk hb (no hb.isT (fun q => absurd q (by decide)) (fun _ => hs _ hx b rfl) (by decide) (by decide) (by decide) (by decide)), hc⟩
    · exact .inr ⟨A, c, rfl, hr.low hB (Nat.le_refl _)⟩
  refine ⟨hC.own h.hk fun g hg => no (own_isT h.hk hg).1 (fun _ e => hk (by rw [hg, e])) (fun q => absurd q (by decide)) (by decide) (by decide) (by decide) (by decide), hC.own h.hp fun g hg => no (own_isT h.hp hg).1 (fun q => absurd q (by decide)) (fun q => absurd q (by decide)) (by decide) (by decide) (by decide) (by decide), fun x hx => rd (.inl ⟨x, hx, rfl⟩) (h.kd x hx), fun x hx => ⟨(h.pd x hx).1, rd (.inr ⟨x, hx, rfl⟩) (h.pd x hx).2⟩, h.h1, Nat.le_trans h.hN hC.size⟩
theorem Rl.At.chg (h : R.At N w) (hA : G.At v N C w) (hC : Chg (G.LS v C w) w w') (hs : ∀ g, R.ss.ownBlock = some g → G.ss.ownBlock ≠ some g) (ht : ∀ g, R.ts.ownBlock = some g → G.ts.ownBlock ≠ some g) : R.At N w' := by
  refine ⟨hC.own h.hs fun g hg hS => ?_, hC.own h.ht fun g hg hS => ?_⟩
  · have hT := (own_isT h.hs hg).1
    rcases hS with q | q | ⟨q, _⟩ | q | q | q
    · subst q; exact absurd (hT.fun_ hA.hd.kT.1) (by decide)
    · subst q; exact absurd (hT.fun_ hA.hd.dT) (by decide)
    · exact absurd (hT.fun_ q) (by decide)
    · subst q; exact absurd (hT.fun_ hA.hb.isT) (by decide)
    · exact hs g hg q
    · exact absurd (hT.fun_ (own_isT hA.ht q).1) (by decide)
  · have hT := (own_isT h.ht hg).1
    rcases hS with q | q | ⟨q, _⟩ | q | q | q
    · subst q; exact absurd (hT.fun_ hA.hd.kT.1) (by decide)
    · subst q; exact absurd (hT.fun_ hA.hd.dT) (by decide)
    · exact absurd (hT.fun_ q) (by decide)
    · subst q; exact absurd (hT.fun_ hA.hb.isT) (by decide)
    · exact absurd (hT.fun_ (hA.hs.own q).1) (by decide)
    · exact ht g hg q
theorem Lg.At.blkC {g t : Nat} {cs : Array Value} (hA : G.At v N C w) (hC : Chg (G.LS v C w) w w') (hb : Blk w g t cs) (h1 : t ≠ 39 := by decide) (h2 : t ≠ 105 := by decide) (h3 : t ≠ 107 := by decide) (h4 : t ≠ 83 := by decide) (h5 : t ≠ 5 := by decide) (h6 : t ≠ 35 := by decide) : Blk w' g t cs :=
  hC.blk hb (by
    rintro (q | q | ⟨q, _⟩ | q | q | q)
    · subst q; exact h1 (hb.isT.fun_ hA.hd.kT.1)
    · subst q; exact h2 (hb.isT.fun_ hA.hd.dT)
    · exact h3 (hb.isT.fun_ q)
    · subst q; exact h4 (hb.isT.fun_ hA.hb.isT)
    · exact h5 (hb.isT.fun_ (hA.hs.own q).1)
    · exact h6 (hb.isT.fun_ (own_isT hA.ht q).1))
theorem Pair.prog (h : Pair N C G v r R w) (hA : G'.At v' N C w') (hk : v'.kb = v.kb) (hC : Chg (G.LS v C w) w w') (hg : Lg.Gr G G' w.heap.size) : Pair N C G' v' r R w' := by
  refine ⟨hA, h.ra.chg h.at_ hC h.rk h.sC, h.R_.chg h.at_ hC h.sR h.sT, fun x hx g hgx hs => ?_, fun g hgr hs => ?_, fun g hgr hs => ?_, by rw [hk]; exact h.rk, h.cap⟩
  · rcases hg.s g hs with q | q
    · exact h.sC x hx g hgx q
    · have := h.ra.clt hx hgx
      omega
  · rcases hg.s g hs with q | q
    · exact h.sR g hgr q
    · have := isT_lt (own_isT h.R_.hs hgr).1
      omega
  · rcases hg.t g hs with q | q
    · exact h.sT g hgr q
    · have := isT_lt (own_isT h.R_.ht hgr).1
      omega
theorem Pair.opn (h : Pair N C G v r R w) (hA : G'.At v' N C w') (hk : v'.kb = v.kb) (hq : Kq v.kb v.d C w w') (hn : New G' w.heap.size) : Pair N C G' v' r R w' := by
  have hC := Kq.ls (G := G) hq
  refine ⟨hA, h.ra.chg h.at_ hC h.rk h.sC, h.R_.chg h.at_ hC h.sR h.sT, fun x hx g hgx hs => ?_, fun g hgr hs => ?_, fun g hgr hs => ?_, by rw [hk]; exact h.rk, h.cap⟩
  · have := h.ra.clt hx hgx
    have := hn.s g hs
    omega
  · have := isT_lt (own_isT h.R_.hs hgr).1
    have := hn.s g hs
    omega
  · have := isT_lt (own_isT h.R_.ht hgr).1
    have := hn.t g hs
    omega
theorem Pair.ref (h : Pair N C G v r R w) (hr : r'.At N w') (hR : R'.At N w') (he : Ext w w') (hf : Rk.Fr r' r w) (hc : Rk.CF r' r w) (hg : Rl.Gr R R' w.heap.size) : Pair N C G v r' R' w' := by
  have ls : ∀ {g : Nat}, G.ss.ownBlock = some g → g < w.heap.size := fun hs => isT_lt (h.at_.hs.own hs).1
  have lt : ∀ {g : Nat}, G.ts.ownBlock = some g → g < w.heap.size := fun hs => isT_lt (own_isT h.at_.ht hs).1
  refine ⟨h.at_.ext he, hr, hR, fun x hx g hgx hs => ?_, fun g hgr hs => ?_, fun g hgr hs => ?_, fun e => ?_, fun x hx => (hc x hx).elim (h.cap x) (fun q => q.2)⟩
  · rcases hc x hx with q | q
    · exact h.sC x q g hgx hs
    · have := q.1 g hgx
      have := ls hs
      omega
  · rcases hg.s g hgr with q | q
    · exact h.sR g q hs
    · have := ls hs
      omega
  · rcases hg.t g hgr with q | q
    · exact h.sT g q hs
    · have := lt hs
      omega
  · rcases hf _ e with q | q
    · exact h.rk q
    · have := (h.at_.hd.hk.lt v.kb rfl).2
      omega
theorem Pair.blk {g t : Nat} {cs : Array Value} (h : Pair N C G v r R w) (hb : Blk w g t cs) (hg : w.grownBy w' (some g)) (hN : N ≤ g) (h1 : t ≠ 39 := by decide) (h2 : t ≠ 105 := by decide) (h3 : t ≠ 107 := by decide) (h4 : t ≠ 83 := by decide) (h5 : t ≠ 5 := by decide) (h6 : t ≠ 35 := by decide) (h7 : t ≠ 110 := by decide) : Pair N C G v r R w' := by
  have hB : Below N w w' := ⟨hg.os, hg.tape, hg.output, hg.size, fun i hi => hg.block i (Nat.lt_of_lt_of_le hi h.ra.hN) (fun e => by injection e with e; omega)⟩
  have nT : ∀ {g' : Nat} {t' : TypeId}, IsT w g' t' → t' ≠ t → some g ≠ some g' := fun hT hne e => by
    injection e with e
    subst e
    exact hne (hT.fun_ hb.isT)
  refine ⟨⟨h.at_.hd.blk_ hb hg h1 h2 h3 h5, h.at_.hb.grown hg (nT h.at_.hb.isT h4.symm).symm, h.at_.hs.kept hg (fun g' hg' => nT (h.at_.hs.own hg').1 h5.symm), h.at_.ht.kept hg (.inr fun e => nT (own_isT h.at_.ht e).1 h6.symm rfl), h.at_.sep, h.at_.hN, h.at_.tab.low hB h.at_.tN, h.at_.tN⟩, h.ra.blkL hb hg hN h1 h7 h5, h.R_.blkL hb hg h5 h6, h.sC, h.sR, h.sT, h.rk, h.cap⟩
end
end Go.Proofs.YtjdimgigbgafbaaDoor
