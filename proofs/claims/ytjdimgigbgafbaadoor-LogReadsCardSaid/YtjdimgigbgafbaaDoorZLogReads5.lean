import Derived.Test.YtjdimgigbgafbaaDoorZLogReads4
/-
  What the law leans on, part 5: WLogL, LogSurv, LogSurvB, LogSurvC, LogSurvD, LogOk, WLogJ, WLogM, WLogN, LLogReads.
-/
namespace Go.Proofs.YtjdimgigbgafbaaDoor
set_option maxRecDepth 100000
open Go.RowKit H
open Lo Byts Seal Fram
set_option linter.unusedVariables false
namespace Lo
theorem opI_brk {s : Ds} (hb : Byte s) {fr : Nat} (ep : Int) : ∀ {i : Nat}, fr + i ≤ s.kept.length → (opI s fr ep i).ch = false → (opI s fr ep i).sm.length < i * 991
  | 0, _, hc => by cases hc
  | i + 1, hk, hc => by
    have ho := opI_ok hb (fr := fr) ep (i := i) (by omega)
    have hl := ho.sl
    have e : opI s fr ep (i + 1) = opStep ep i (s.now (fr + i)) (opI s fr ep i) := rfl
    rw [e] at hc ⊢
    unfold opStep at hc ⊢
    split at hc
    · cases hc
    · rename_i h
      rw [if_neg h]
      dsimp only
      omega
def ahO (o : Os) (i : Nat) : Int := if 0 < i ∧ i ≤ o.tm.length then o.tm.getD (i - 1) 0 else 0
theorem pfx_iff {V : List Int} {i : Nat} {a : Int} (hV : Bytes V) (hl : 10 < V.length) (hi : i < 65536) (ha : 0 ≤ a ∧ a ≤ 18446744073709551615) :
    V.take 10 = be 2 (i : Int) ++ be 8 a ↔ V.getD 0 0 * 256 + V.getD 1 0 = i ∧ num ((V.drop 2).take 8) = a := by
  have e10 : V.take 10 = V.take 2 ++ (V.drop 2).take 8 := List.take_add (l := V) (i := 2) (j := 8)
  have l2 : (V.take 2).length = 2 := by rw [List.length_take]; omega
  have l8 : ((V.drop 2).take 8).length = 8 := by rw [List.length_take, List.length_drop]; omega
  have b2 : Bytes (V.take 2) := fun z hz => hV z (List.mem_of_mem_take hz)
  have b8 : Bytes ((V.drop 2).take 8) := fun z hz => hV z (List.mem_of_mem_drop (List.mem_of_mem_take hz))
  have n2 : num (V.take 2) = V.getD 0 0 * 256 + V.getD 1 0 := by
    obtain ⟨x, y, t, rfl⟩ : ∃ x y t, V = x :: y :: t := by
      match V, hl with
      | x :: y :: t, _ => exact ⟨x, y, t, rfl⟩
    simp [num]
    try omega
  rw [e10]
  constructor
  · intro h
    obtain ⟨h1, h2⟩ := List.append_inj h (by rw [l2, be_length])
    refine ⟨?_, ?_⟩
    · rw [← n2, h1]
      exact num_be 2 _ (by omega) (by have : (256 : Int) ^ 2 = 65536 := by decide
                                      omega)
    · rw [h2]
      exact num_be 8 _ ha.1 (by have : (256 : Int) ^ 8 = 18446744073709551616 := by decide
                                omega)
  · rintro ⟨h1, h2⟩
    have k2 := be_num _ b2
    have k8 := be_num _ b8
    rw [l2, n2, h1] at k2
    rw [l8, h2] at k8
    rw [k2, k8]
theorem rstep_iff {zs : List Int} {ep : Int} {o : Os} {i : Nat} (ho : OsOk o i) (hz : Bytes zs) (hbr : o.ch = false → o.sm.length < i * 991) (hi : i < 65536) :
    (o.ch && okP zs ep && fol o i zs) = true ↔ okP zs ep = true ∧ o.sm.length = i * 991 ∧ (sV smZ zs).take 10 = be 2 (i : Int) ++ be 8 (ahO o i) := by
  have hah : 0 ≤ ahO o i ∧ ahO o i ≤ 18446744073709551615 := by
    unfold ahO
    split
    · rename_i h
      have hm : o.tm.getD (i - 1) 0 ∈ o.tm := by
        rw [List.getD, List.getElem?_eq_getElem (by omega)]
        exact List.getElem_mem _
      have := ho.tt _ hm
      omega
    · omega
  have hV : Bytes (sV smZ zs) := sV_bytes smZ zs hz
  rw [show ((o.ch && okP zs ep && fol o i zs) = true ↔ o.ch = true ∧ okP zs ep = true ∧ fol o i zs = true) from by
    simp only [Bool.and_eq_true]
    exact ⟨fun ⟨⟨a, b⟩, c⟩ => ⟨a, b, c⟩, fun ⟨a, b, c⟩ => ⟨⟨a, b⟩, c⟩⟩]
  constructor
  · rintro ⟨h1, h2, h3⟩
    have h10 := (okP_iff.1 h2).2.2.2.2.2
    have htl := ho.c1 h1
    have hl := fol_len h3
    refine ⟨h2, hl, (pfx_iff hV h10 hi hah).2 ?_⟩
    unfold fol at h3
    split at h3
    · cases h3
    · rename_i hn
      have hp : pAt zs = i := Decidable.byContradiction fun q => hn (.inl q)
      refine ⟨hp, ?_⟩
      unfold ahO
      split at h3
      · rename_i h0
        rw [if_neg (by omega)]
        exact of_decide_eq_true h3
      · rename_i h0
        rw [if_pos ⟨by omega, by omega⟩]
        exact of_decide_eq_true h3
  · rintro ⟨h2, hl, h3⟩
    have h10 := (okP_iff.1 h2).2.2.2.2.2
    have hch : o.ch = true := by
      cases hc : o.ch
      · have := hbr hc
        omega
      · rfl
    have htl := ho.c1 hch
    obtain ⟨k1, k2⟩ := (pfx_iff hV h10 hi hah).1 h3
    refine ⟨hch, h2, ?_⟩
    have k1 : pAt zs = i := k1
    have k2 : pPrev zs = ahO o i := k2
    unfold fol
    rw [if_neg (by omega)]
    unfold ahO at k2
    split
    · rename_i h0
      rw [if_neg (by omega)] at k2
      exact decide_eq_true k2
    · rename_i h0
      rw [if_pos ⟨by omega, by omega⟩] at k2
      exact decide_eq_true k2
end Lo
theorem str_app2 (a b : List Int) : strOfNums a ++ strOfNums b = strOfNums (a ++ b) := by
  apply ByteArray.ext
  apply Array.ext'
  simp [strOfNums]
theorem str_off {xs a b : List Int} (hx : Bytes xs) (ha : Bytes (a ++ b)) (h : ¬ xs = a ++ b) : ¬ strOfNums xs = strOfNums a ++ strOfNums b := fun e => by
  rw [str_app2] at e
  exact h (strOfNums_inj hx ha (congrArg ByteArray.toList e))
theorem Rk.At.grownU {r : Rk} {N g : Nat} {w w' : World} (h : r.At N w) (hg : w.grownBy w' (some g)) (ht : IsT w g 5) (hN : N ≤ g) (hs : ∀ x, r.Cl x → sblk x ≠ some g) : r.At N w' := by
  have rd : ∀ {x : Value} {zs : List Int}, r.Cl x → RD N w x zs → RD N w' x zs := fun {x zs} hx hr => by
    rcases hr with ⟨b, off, c, cs, rfl, hl, hb, hc⟩ | ⟨A, c, rfl, hr⟩
    · exact .inl ⟨b, off, c, cs, rfl, hl, hb.grown hg (fun e => hs _ hx (by injection e with e; subst e; rfl)), hc⟩
    · refine .inr ⟨A, c, rfl, hr.low ⟨hg.os, hg.tape, hg.output, hg.size, fun i hi => hg.block i (Nat.lt_of_lt_of_le hi h.hN) (fun e => by injection e with e; omega)⟩ (Nat.le_refl _)⟩
  exact ⟨h.hk.kept hg (.inr fun e => absurd (ht.fun_ (own_isT h.hk e).1) (by decide)), h.hp.kept hg (.inr fun e => absurd (ht.fun_ (own_isT h.hp e).1) (by decide)), fun x hx => rd (.inl ⟨x, hx, rfl⟩) (h.kd x hx), fun x hx => ⟨(h.pd x hx).1, rd (.inr ⟨x, hx, rfl⟩) (h.pd x hx).2⟩, h.h1, Nat.le_trans h.hN hg.size⟩
theorem Rk.At.clt {r : Rk} {N g : Nat} {w : World} {x : Value} (h : r.At N w) (hx : r.Cl x) (hg : sblk x = some g) : g < w.heap.size := by
  have rd : ∀ {x : Value} {zs : List Int}, RD N w x zs → sblk x = some g → g < w.heap.size := fun {x zs} hr hg => by
    rcases hr with ⟨b, off, c, cs, rfl, hl, hb, hc⟩ | ⟨A, c, rfl, hr⟩
    · obtain rfl : b = g := by injection hg
      exact hb.lt
    · obtain ⟨ad, rfl, hB, _⟩ := hr.2 (by decide)
      obtain rfl : ad.block = g := by injection hg
      exact Nat.lt_of_lt_of_le hB h.hN
  rcases hx with ⟨y, hy, rfl⟩ | ⟨y, hy, rfl⟩
  · exact rd (h.kd y hy) hg
  · exact rd (h.pd y hy).2 hg
theorem Rk.At.grownR {r : Rk} {N base n : Nat} {w w' : World} {v : Value} {xs : List Value} (h : r.At N w) (ho : w.ownsRow base 5 1 v n xs) (hg : w.grownBy w' v.ownBlock) (hN : N ≤ base) (hs : ∀ x, r.Cl x → ∀ g, sblk x = some g → v.ownBlock ≠ some g) : r.At N w' := by
  cases hv : v.ownBlock with
  | none => rw [hv] at hg; exact h.ext (grown_none hg)
  | some g =>
    rw [hv] at hg
    have h1 := own_isT ho hv
    exact h.grownU hg h1.1 (Nat.le_trans hN h1.2) (fun x hx e => hs x hx g e hv)
theorem Rk.At.grown64 {r : Rk} {N base n : Nat} {w w' : World} {v : Value} {xs : List Value} (h : r.At N w) (ho : w.ownsRow base 35 1 v n xs) (hg : w.grownBy w' v.ownBlock) (hN : N ≤ base) : r.At N w' := by
  cases hv : v.ownBlock with
  | none => rw [hv] at hg; exact h.ext (grown_none hg)
  | some g =>
    rw [hv] at hg
    obtain ⟨⟨cs, hc⟩, h1⟩ := own_isT ho hv
    have hc : Blk w g 35 cs := hc
    exact h.blkL hc hg (Nat.le_trans hN h1)
structure ROp (r : Rk) (N fr ct : Nat) (ep : Int) (b4 b8 b9 b12 : Nat) (w : World) (i : Nat) (s : Rk) (Q : Rl) (w' : World) : Prop where
  ik : i ≤ ct
  st : Q.st = stO fr ct ep (opI r.abs fr ep i)
  ab : s.abs = rdN r.abs i
  hr : s.At N w'
  h : Q.At w.heap.size w'
  k4 : Blk w' b4 33 #[s.K, s.P, .bool s.off, .int .i64 s.left, .int .i64 s.rd, .int .i64 s.wr, .int .i64 s.fl]
  k12 : Blk w' b12 42 #[.int .i64 (fr : Int), .int .i64 (ct : Int), .int .u64 ep, .int .u64 Q.st.nx, Q.ss, Q.ts, .int .i64 0]
  k8 : Blk w' b8 33 #[.slice none 0 0, .slice none 0 0, .bool false, .int .i64 0, .int .i64 0, .int .i64 0, .int .i64 0]
  k9 : Blk w' b9 42 #[.int .i64 0, .int .i64 0, .int .u64 0, .int .u64 0, .slice none 0 0, .slice none 0 0, .int .i64 0]
  he : Ext w w'
  fr_ : Rk.Fr s r w
  cf : Rk.CF s r w
  sep : ∀ x, s.Cl x → ∀ g, sblk x = some g → Q.ss.ownBlock ≠ some g
structure ROpened (r : Rk) (N fr ct : Nat) (ep : Int) (w : World) (r' : Rk) (R' : Rl) (Ao : Option Addr) (co : Nat) (bs : List Bo) (w' : World) : Prop where
  hr : r'.At N w'
  h : R'.At w.heap.size w'
  ab : r'.abs = rdN r.abs ct
  st : R'.st = openL r.abs fr ct ep
  rec_ : bs.map Bo.l = recs (opI r.abs fr ep ct).sm
  row : w'.ownsRow w.heap.size 39 1 (.slice Ao bs.length co) bs.length (bs.map Bo.v)
  els : ∀ b ∈ bs, w'.ownsRow w.heap.size 5 1 b.v b.l.length (nums .u8 b.l)
  he : Ext w w'
  fr_ : Rk.Fr r' r w
  cf : Rk.CF r' r w
set_option maxHeartbeats 40000000 in
theorem open22 {r : Rk} {N m : Nat} {w : World} (hr : r.At N w) (hcp : ∀ x, r.Cl x → Cap x) (hok : r.abs.Ok m) (hm : m + 8192 ≤ 1000000) (hoff : r.off = false) (hB : Byte r.abs) (fr ct : Nat) (hfc : fr + ct ≤ r.kp.length) (hc1 : 1 ≤ ct) (hct : ct ≤ 1000) (ep : Int) (hep : 0 ≤ ep ∧ ep ≤ 18446744073709551615) :
    Calls Tryd.prog 11 #[r.v, .int .i64 (fr : Int), .int .i64 (ct : Int), .int .u64 ep] w fun e w' => ∃ r' R' Ao co bs, e = .returned (.tuple #[r'.v, R'.v, .slice Ao (bs : List Bo).length co, .int .i64 0]) ∧ ROpened r N fr ct ep w r' R' Ao co bs w' := by
  have hNs := hr.hN
  have hkl := hr.h1
  have hak : r.abs.kept.length = r.kp.length := by simp [Rk.abs, abs_]
  have ooI := fun i (hi : i ≤ ct) => opI_ok hB (fr := fr) ep (i := i) (by omega)
  refine enter Tryd.func11 rfl (by kernel_rfl) ?_
  refine J.seq ?_
  refine J.region ?_
  refine L.boxA (l := [_, _, _, _, _, _, _]) rfl rfl ?_
  intro b4 w2 hb4 hs2 hk4 he2
  refine L.alloc rfl zr_33 ?_
  intro b8 w3 hb8 hs3 hk8 he3
  refine L.alloc rfl zr_42 ?_
  intro b9 w4 hb9 hs4 hk9 he4
  have he04 := (he2.trans he3).trans he4
  have hk44 : Blk w4 b4 33 #[r.K, r.P, .bool r.off, .int .i64 r.left, .int .i64 r.rd, .int .i64 r.wr, .int .i64 r.fl] := (hk4.ext he3).ext he4
  have hk84 := hk8.ext he4
  refine L.va rfl (X.assign (by conv => lhs; whnf)) ?_
  refine L.va rfl (X.assign (by conv => lhs; whnf)) ?_
  refine L.nil ?_
  refine J.seq ?_
  refine J.seq ?_
  refine J.region ?_
  refine L.va rfl (X.move (by conv => lhs; whnf)) ?_
  refine L.va rfl (X.lss rfl rfl) ?_
  refine L.va rfl (X.move (by conv => lhs; whnf)) ?_
  refine L.caseDecF (k := 25) rfl (by omega) ?_
  refine L.va rfl (X.move (by conv => lhs; whnf)) ?_
  refine L.va rfl (X.lss rfl rfl) ?_
  refine L.va rfl (X.pickF rfl (by conv => lhs; whnf)) ?_
  refine L.va rfl (X.move (by conv => lhs; whnf)) ?_
  refine L.caseDecF (k := 29) rfl (by omega) ?_
  refine L.va rfl (X.move (by conv => lhs; whnf)) ?_
  refine L.va rfl (X.fieldAddr rfl Tryd.underlying33 rfl sz_30 (by decide)) ?_
  refine L.va rfl (X.load rfl sc_30 (by first | exact Ld.blk hk44 rfl)) ?_
  refine L.va rfl (X.len rfl Tryd.underlying30) ?_
  refine L.va rfl (X.gtr rfl rfl) ?_
  refine L.va rfl (X.pickF rfl (by conv => lhs; whnf)) ?_
  refine L.va rfl (X.move (by conv => lhs; whnf)) ?_
  refine L.caseDecF (k := 36) rfl (by omega) ?_
  refine L.va rfl (X.move (by conv => lhs; whnf)) ?_
  refine L.va rfl (X.fieldAddr rfl Tryd.underlying33 rfl sz_30 (by decide)) ?_
  refine L.va rfl (X.load rfl sc_30 (by first | exact Ld.blk hk44 rfl)) ?_
  refine L.va rfl (X.len rfl Tryd.underlying30) ?_
  refine L.va rfl (X.move (by conv => lhs; whnf)) ?_
  refine L.va rfl (X.sub rfl rfl (by omega)) ?_
  refine L.va rfl (X.gtr rfl rfl) ?_
  refine L.va rfl (X.pickF rfl (by conv => lhs; whnf)) ?_
  refine L.nil ?_
  refine J.decF rfl (by omega) ?_
  refine J.skip ?_
  refine J.seq ?_
  refine J.region ?_
  refine L.va rfl (X.move (by conv => lhs; whnf)) ?_
  refine L.va rfl (X.move (by conv => lhs; whnf)) ?_
  refine L.va rfl (X.move (by conv => lhs; whnf)) ?_
  refine L.va rfl (X.build (l := [.int .i64 (fr : Int), .int .i64 (ct : Int), .int .u64 ep, .int .u64 1, .slice none 0 0, .slice none 0 0, .int .i64 0]) (Evs.cons rfl (Evs.cons rfl (Evs.cons rfl (Evs.cons rfl Evs.nil)))) (bld_run Tryd.underlying42 (bp_42 Tryd.underlying42) zr_42 rfl)) ?_
  refine L.alloc rfl zr_42 ?_
  intro b12 w5 hb12 hs5 hk12 he5
  refine L.storeAgg (vs := [_, _, _, _, _, _, _]) rfl rfl rfl rfl sz_42 (hk12) rfl ?_
  intro w6 hk126 hg6 hs6
  have hk126 : Blk w6 b12 42 #[.int .i64 (fr : Int), .int .i64 (ct : Int), .int .u64 ep, .int .u64 1, .slice none 0 0, .slice none 0 0, .int .i64 0] := hk126
  have nb : ∀ {x y : Nat}, x ≠ y → some x ≠ some y := fun hh e => hh (by injection e)
  have n4c : b4 ≠ b12 := by omega
  have n8c : b8 ≠ b12 := by omega
  have n9c : b9 ≠ b12 := by omega
  have n48 : b4 ≠ b8 := by omega
  have n49 : b4 ≠ b9 := by omega
  have n89 : b8 ≠ b9 := by omega
  have wb4 : w.heap.size ≤ b4 := by omega
  have wb8 : w.heap.size ≤ b8 := by omega
  have wb9 : w.heap.size ≤ b9 := by omega
  have wbc : w.heap.size ≤ b12 := by omega
  have hk46 := (hk44.ext he5).grown hg6 (nb n4c)
  have hk86 := (hk84.ext he5).grown hg6 (nb n8c)
  have hk96 := (hk9.ext he5).grown hg6 (nb n9c)
  have he06 : Ext w w6 := (he04.trans he5).grw hg6 (by intro g hg; injection hg with hg; omega)
  have M0 : ROp r N fr ct ep b4 b8 b9 b12 w 0 r ⟨none, 0, none, 0, stO fr ct ep (opI r.abs fr ep 0)⟩ w6 := by
    refine ⟨Nat.zero_le _, rfl, ?_, (hr.ext (he04.trans he5)).blkL hk12 hg6 (by omega), ⟨own_nil _ _ _ _, own_nil _ _ _ _⟩, hk46, hk126, hk86, hk96, he06, fun g hg => .inl hg, Rk.CF.same rfl rfl, fun x hx g hg e => by cases e⟩
    unfold rdN
    rw [show r.abs.rd + ((0 : Nat) : Int) = r.abs.rd by omega]
  refine L.nil ?_
  refine J.seq ?_
  refine J.seq ?_
  refine J.region ?_
  refine L.va rfl (X.assign (by conv => lhs; whnf)) ?_
  refine L.nil ?_
  refine J.block ?_
  refine J.loop (X := Nat × Rk × Rl) [10, 11, 13, 14, 15, 16, 17, 18, 19, 51, 52, 53, 54, 55, 56, 57, 58, 59, 60, 61, 62, 63, 64, 65, 66, 67, 68, 69, 70, 71, 72, 73, 74, 75, 76, 77, 78, 79, 80, 81, 82, 83, 84, 85, 86, 87, 88, 89, 90, 91, 92, 93, 94, 95, 96, 97, 98, 99, 100, 101, 102, 103, 104, 105, 106, 107, 108, 109, 110, 111, 112, 113, 114, 115, 116, 117, 118, 119, 120, 121, 122, 123, 124, 125, 126, 127, 128, 129, 130, 131, 132, 133, 134, 135, 136, 137, 138, 139, 140, 141, 142] (fun (i, s, Q) => [(13, .int .i64 (i : Int))]) (fun (i, s, Q) w' => ROp r N fr ct ep b4 b8 b9 b12 w i s Q w') (fun (i, _) => ct - i) ((0, r, ⟨none, 0, none, 0, stO fr ct ep (opI r.abs fr ep 0)⟩)) (At1 (by first | rfl | exact at_int rfl (by omega) | exact at_slice rfl (by omega) | exact at_int rfl (by simp))) ?_ ?_
  · exact M0
  · rintro ⟨i, s, Q⟩ g w7 M
    dsimp only at M
    have q4 := M.k4
    have q12 := M.k12
    have q8 := M.k8
    have q9 := M.k9
    have he7 := M.he
    have z7 := he7.le
    have hik := M.ik
    have lt12 := q12.lt
    have oo := ooI i hik
    have hbr := opI_brk hB ep (i := i) (fr := fr) (by omega)
    obtain ⟨o, hO⟩ : ∃ o, o = opI r.abs fr ep i := ⟨_, rfl⟩
    have hst := M.st
    rw [← hO] at oo hbr hst
    have n1 := oo.n1
    have n2 := oo.n2
    have osl := oo.sl
    have oc2 := oo.c2
    have qnx : Q.st.nx = o.nx := by rw [hst]; rfl
    have qsm : Q.st.sm = o.sm := by rw [hst]; rfl
    have qtm : Q.st.tm = o.tm := by rw [hst]; rfl
    rw [qnx] at q12
    refine J.seq ?_
    refine J.seq ?_
    refine J.region ?_
    refine L.va rfl (X.move (by conv => lhs; whnf)) ?_
    refine L.va rfl (X.move (by conv => lhs; whnf)) ?_
    refine L.va rfl (X.lss rfl rfl) ?_
    refine L.nil ?_
    refine J.dec rfl (fun hlt => ?_) (fun hlt => ?_)
    · have hi' : i < ct := by omega
      obtain ⟨zs, hzs⟩ : ∃ zs, zs = r.abs.now (fr + i) := ⟨_, rfl⟩
      have eS : opI r.abs fr ep (i + 1) = opStep ep i zs o := by rw [opI_succ, ← hO, ← hzs]
      have hzb : Bytes zs := by rw [hzs]; exact now_bytes hB (by omega)
      have hzl : zs.length = 1024 := by rw [hzs]; exact nowI_mem (p := fun y : List Int => y.length = 1024) (by omega) hok.hk (fun y hy => (hok.hp y hy).2) _ (Nat.le_refl _)
      have sok : s.abs.Ok (m + i) := by rw [M.ab]; exact rdN_ok hok i
      have K := M.hr.doC sok (by omega) ⟨0, (fr : Int) + (i : Int), none, 0, 0, false, none, 0, 0, [], []⟩ (M := N) M.hr.hN ⟨Reads.none_, Reads.none_, (fun z hz => by cases hz), by dsimp only; omega, by unfold maxLen; dsimp only; omega⟩ (fun hh => by cases hh) (by show 0 ≤ _; omega) (by show 0 ≤ _; omega)
      have eD : s.abs.do_ (Dm.dd ⟨0, (fr : Int) + (i : Int), none, 0, 0, false, none, 0, 0, [], []⟩) = (rdN r.abs (i + 1), zs, 0) := by
        rw [show Dm.dd ⟨0, (fr : Int) + (i : Int), none, 0, 0, false, none, 0, 0, [], []⟩ = ⟨0, ((fr + i : Nat) : Int), [], false, []⟩ from by unfold Dm.dd; rw [show (fr : Int) + (i : Int) = ((fr + i : Nat) : Int) by omega], do_odd _ 0 _ _ _ (fun hh => absurd hh (by decide)), M.ab, rd_do hoff i (fr + i) (by omega), ← hzs]
      unfold Rk.DoC at K
      rw [eD] at K
      refine J.skip ?_
      refine J.seq ?_
      refine J.block ?_
      refine J.seq ?_
      refine J.region ?_
      refine L.va rfl ((by first | exact X.loadAgg rfl (range_l q4) Tryd.underlying33 rfl (by kernel_rfl) | exact X.loadAgg rfl (range_blk q4) Tryd.underlying33 rfl (by kernel_rfl) | exact X.loadAgg rfl (range_l q12) Tryd.underlying33 rfl (by kernel_rfl) | exact X.loadAgg rfl (range_blk q12) Tryd.underlying33 rfl (by kernel_rfl))) ?_
      refine L.va rfl (X.move (by conv => lhs; whnf)) ?_
      refine L.va rfl (X.move (by conv => lhs; whnf)) ?_
      refine L.va rfl (X.add rfl rfl (by omega)) ?_
      refine L.va rfl (X.build (l := [.int .i64 0, .int .i64 ((fr : Int) + (i : Int)), .slice none 0 0, .bool false, .slice none 0 0]) (Evs.cons rfl Evs.nil) (bld_run Tryd.underlying58 (bp_58 Tryd.underlying58) zr_58 rfl)) ?_
      refine L.call rfl en_18 rfl (K) ?_
      rintro e w8 ⟨s3, A3, n3, c3, rfl, k1, k2, k3, ke, k5, k6, k7⟩
      refine ⟨_, rfl, ?_⟩
      dsimp only at k2 k3
      have ke : Ext w7 w8 := ke
      obtain ⟨n3e, hRD⟩ : n3 = 1024 ∧ RD N w8 (.slice A3 1024 c3) zs := by
        rcases k3 with ⟨_, h⟩ | h
        · rw [h] at hzl
          cases hzl
        · exact h
      subst n3e
      have hcap : 1024 ≤ c3 ∧ c3 ≤ maxLen := by
        obtain ⟨A', n', c', e, h1, h2⟩ := (M.cf _ (k7 rfl)).elim (hcp _) (fun q => q.2)
        injection e with e1 e2 e3
        omega
      unfold maxLen at hcap
      have z8 := ke.le
      have q48 := q4.ext ke
      have q128 := q12.ext ke
      have Q8 := M.h.ext ke
      have hN8 := k1.hN
      refine L.va rfl (X.move (by conv => lhs; whnf)) ?_
      refine L.va rfl (X.extract rfl rfl) ?_
      refine L.va rfl (X.extract rfl rfl) ?_
      refine L.va rfl (X.extract rfl rfl) ?_
      refine L.alloc rfl zr_33 ?_
      intro b14 w9 hb14 hs9 hk14 he9
      refine L.storeAgg (vs := [_, _, _, _, _, _, _]) rfl rfl rfl rfl sz_33 (hk14) rfl ?_
      intro w10 hk10 hg10 hs10
      have hk10 : Blk w10 b14 33 #[s3.K, s3.P, .bool s3.off, .int .i64 s3.left, .int .i64 s3.rd, .int .i64 s3.wr, .int .i64 s3.fl] := hk10
      have z9 := he9.le
      have z10 := hg10.size
      have q410 := (q48.ext he9).grown hg10 (nb (by have := q48.lt; omega))
      have q1210 := (q128.ext he9).grown hg10 (nb (by have := q128.lt; omega))
      have Q10 := (Q8.ext he9).blkL hk14 hg10
      have k110 := (k1.ext he9).blkL hk14 hg10 (by omega)
      have hRD10 := (hRD.ext he9 hN8).blk hk14 hg10 (by omega) (by omega) (by decide)
      refine L.va rfl (X.assign (by conv => lhs; whnf)) ?_
      refine L.va rfl (X.assign (by conv => lhs; whnf)) ?_
      refine L.nil ?_
      refine J.seq ?_
      refine J.region ?_
      refine L.va rfl ((by first | exact X.loadAgg rfl (range_l hk10) Tryd.underlying33 rfl (by kernel_rfl) | exact X.loadAgg rfl (range_blk hk10) Tryd.underlying33 rfl (by kernel_rfl))) ?_
      refine L.storeAgg (vs := [_, _, _, _, _, _, _]) rfl rfl rfl rfl sz_33 (q410) rfl ?_
      intro w11 q411 hg11 hs11
      have q411 : Blk w11 b4 33 #[s3.K, s3.P, .bool s3.off, .int .i64 s3.left, .int .i64 s3.rd, .int .i64 s3.wr, .int .i64 s3.fl] := q411
      have z11 := hg11.size
      have q1211 := q1210.grown hg11 (nb n4c.symm)
      have Q11 := Q10.blkL q410 hg11
      have k111 := k110.blkL q410 hg11 (by omega)
      have hRD11 := hRD10.blk q410 hg11 (by omega) (by omega) (by decide)
      have hr11 := Rk.RDn.reads (N := N) (c := c3) (.inr ⟨rfl, hRD11⟩) k111.hN
      have he11 : Ext w w11 := (((he7.trans ke).trans he9).grw hg10 (by intro g hg; injection hg with hg; omega)).grw hg11 (by intro g hg; injection hg with hg; omega)
      have q811 := ((((q8.ext ke).ext he9).grown hg10 (nb (by have := q8.lt; omega))).grown hg11 (nb n48.symm))
      have q911 := ((((q9.ext ke).ext he9).grown hg10 (nb (by have := q9.lt; omega))).grown hg11 (nb n49.symm))
      refine L.nil ?_
      refine J.seq ?_
      refine J.seq ?_
      refine J.region ?_
      refine L.va rfl (X.move (by conv => lhs; whnf)) ?_
      refine L.va rfl (X.neq rfl rfl) ?_
      refine L.nil ?_
      refine J.iteF rfl ?_
      refine J.skip ?_
      refine J.seq ?_
      refine J.region ?_
      refine L.va rfl (X.move (by conv => lhs; whnf)) ?_
      refine L.va rfl (X.move (by conv => lhs; whnf)) ?_
      refine L.call rfl en_41 rfl (is22 A3 1024 c3 zs ep w11 hr11 hzb hcap.1 (by omega)) ?_
      rintro e w12 ⟨A5, c5, rfl, hr5, he12, hc5, hf5⟩
      refine ⟨_, rfl, ?_⟩
      have he12 : Ext w11 w12 := he12
      have hvl := sV_le hzb
      refine L.va rfl (X.move (by conv => lhs; whnf)) ?_
      refine L.va rfl (X.extract rfl rfl) ?_
      refine L.va rfl (X.extract rfl rfl) ?_
      refine L.alloc rfl zr_75 ?_
      intro b17 w13 hb17 hs13 hk17 he13
      refine L.storeAgg (vs := [_, _, _, _]) rfl rfl rfl rfl sz_75 (hk17) rfl ?_
      intro w14 hk14' hg14 hs14
      have k17 : Blk w14 b17 75 #[.int .i64 (sK smZ zs), .int .u64 (sA smZ zs), .int .u64 (sB smZ zs), .slice A5 (sV smZ zs).length c5] := hk14'
      have z12 := he12.le
      have z13 := he13.le
      have z14 := hg14.size
      have he1114 : Ext w11 w14 := (he12.trans he13).grw hg14 (by intro g hg; injection hg with hg; omega)
      have hr14 := ((hr5.ext he13).grw hg14 (by intro g hg; injection hg with hg; omega)).more (B' := w14.heap.size) (by omega)
      have q414 := q411.ext he1114
      have q1214 : Blk w14 b12 42 #[.int .i64 (fr : Int), .int .i64 (ct : Int), .int .u64 ep, .int .u64 o.nx, Q.ss, Q.ts, .int .i64 0] := q1211.ext he1114
      have q814 := q811.ext he1114
      have q914 := q911.ext he1114
      have Q14 := Q11.ext he1114
      have k114 := k111.ext he1114
      have he14 := he11.trans he1114
      have n17 : b17 ≠ b12 := by have := q128.lt; omega
      have fr14 : Rk.Fr s3 r w := fun g hg => (k5 g hg).elim (fun hh => M.fr_ g hh) (fun hh => .inr (by omega))
      have cf14 : Rk.CF s3 r w := fun x hx => (k6 rfl x hx).elim (fun hh => M.cf x hh) (fun hh => .inr ⟨fun g hg => Nat.le_trans z7 (hh.1 g hg), hh.2⟩)
      have hsBb : okP zs ep = true → 1 ≤ sB smZ zs ∧ sB smZ zs < 4611686018427387904 ∧ 10 < (sV smZ zs).length := fun h => (okP_iff.1 h).2.2.2
      refine L.va rfl (X.assign (by conv => lhs; whnf)) ?_
      refine L.nil ?_
      refine J.cut (X := Unit) [78, 79, 80, 81, 82, 83, 84, 85, 86, 87, 88, 89] (fun _ => []) (fun _ w' => w14.grownBy w' (some b12) ∧ Blk w' b12 42 #[.int .i64 (fr : Int), .int .i64 (ct : Int), .int .u64 ep, .int .u64 (opNx ep zs o), Q.ss, Q.ts, .int .i64 0]) ?_ ?_
      · refine J.seq ?_
        refine J.region ?_
        refine L.va rfl (X.move (by conv => lhs; whnf)) ?_
        refine L.va rfl (X.move (by conv => lhs; whnf)) ?_
        cases hko : okP zs ep
        · have e : opNx ep zs o = o.nx := by unfold opNx; rw [hko]; rfl
          rw [e]
          refine L.caseBF (k := 79) rfl (by rfl) ?_
          refine L.no rfl ?_
          refine L.no rfl ?_
          refine L.no rfl ?_
          refine L.no rfl ?_
          refine L.no rfl ?_
          refine L.va rfl (X.pickF rfl (by conv => lhs; whnf)) ?_
          refine L.nil ?_
          refine J.iteF rfl ?_
          refine J.skip ?_
          refine ⟨(), At0 , (by (iterate 9 refine Agr.lk rfl ?_); exact Agr.rfl'), ?_⟩
          exact ⟨grown_ext (Ext.refl _), q1214⟩
        · have hb := hsBb hko
          have e : opNx ep zs o = max o.nx (sB smZ zs + 1) := by unfold opNx; rw [if_pos hko]
          rw [e]
          refine L.caseBT (k := 79) rfl (by rfl) ?_
          refine L.va rfl (X.fieldAddr rfl Tryd.underlying75 rfl sz_35 (by decide)) ?_
          refine L.va rfl (X.load rfl sc_35 (by first | exact Ld.blk k17 rfl | exact Ld.blk q1214 rfl)) ?_
          refine L.va rfl (X.fieldAddr rfl Tryd.underlying42 rfl sz_35 (by decide)) ?_
          refine L.va rfl (X.load rfl sc_35 (by first | exact Ld.blk k17 rfl | exact Ld.blk q1214 rfl)) ?_
          refine L.va rfl (X.geq rfl rfl) ?_
          refine L.va rfl (X.pickT rfl (by conv => lhs; whnf)) ?_
          refine L.nil ?_
          refine J.dec rfl (fun q => ?_) (fun q => ?_)
          · have e2 : max o.nx (sB smZ zs + 1) = sB smZ zs + 1 := by omega
            rw [e2]
            refine J.region ?_
            refine L.va rfl (X.fieldAddr rfl Tryd.underlying75 rfl sz_35 (by decide)) ?_
            refine L.va rfl (X.load rfl sc_35 (by first | exact Ld.blk k17 rfl | exact Ld.blk q1214 rfl)) ?_
            refine L.va rfl (X.addU rfl rfl (by omega)) ?_
            refine L.va rfl (X.fieldAddr rfl Tryd.underlying42 rfl sz_35 (by decide)) ?_
            refine L.store rfl rfl (by conv => lhs; whnf) rfl sz_35 (q1214) (by first | decide | exact Nat.le_of_ble_eq_true rfl) ?_
            intro w15 q1215 hg15 hs15
            refine L.nil ?_
            refine ⟨(), At0 , (by (iterate 13 refine Agr.lk rfl ?_); exact Agr.rfl'), ?_⟩
            exact ⟨hg15, q1215⟩
          · have e2 : max o.nx (sB smZ zs + 1) = o.nx := by omega
            rw [e2]
            refine J.skip ?_
            refine ⟨(), At0 , (by (iterate 9 refine Agr.lk rfl ?_); exact Agr.rfl'), ?_⟩
            exact ⟨grown_ext (Ext.refl _), q1214⟩
      · rintro _ g w15 ⟨hg15, q1215⟩
        obtain ⟨nx1, hnx⟩ : ∃ x, x = opNx ep zs o := ⟨_, rfl⟩
        rw [← hnx] at q1215
        have q1215 : Blk w15 b12 42 #[.int .i64 (fr : Int), .int .i64 (ct : Int), .int .u64 ep, .int .u64 nx1, Q.ss, Q.ts, .int .i64 0] := q1215
        have z15 := hg15.size
        have k1715 := k17.grown hg15 (nb n17)
        have q415 := q414.grown hg15 (nb n4c)
        have q815 := q814.grown hg15 (nb n8c)
        have q915 := q914.grown hg15 (nb n9c)
        have Q15 := Q14.blkL q1214 hg15
        have k115 := k114.blkL q1214 hg15 (by omega)
        have he15 : Ext w w15 := he14.grw hg15 (by intro g hg; injection hg with hg; omega)
        have hr15 := (hr14.off q1214 (fun i z => by
          match i with
          | 0 => intro e; cases e
          | 1 => intro e; cases e
          | 2 => intro e; cases e
          | 3 => intro e; cases e
          | 4 => intro e; cases e
          | 5 => intro e; cases e
          | 6 => intro e; cases e
          | i + 7 => intro e; cases e) hg15).more (B' := w15.heap.size) (by omega)
        have hbt : ∀ {g : Nat}, Q.ss.ownBlock = some g → g < w7.heap.size := fun hg => (M.h.hs.lt _ hg).2
        have sep15 : ∀ x, s3.Cl x → ∀ g, sblk x = some g → Q.ss.ownBlock ≠ some g := fun x hx g hg e => by
          rcases k6 rfl x hx with h | h
          · exact M.sep x h g hg e
          · have h1 := h.1 g hg
            have h2 := hbt e
            omega
        have ht15 := Reads.of_own Q15.ht
        refine J.seq ?_
        refine J.region ?_
        refine L.va rfl (X.assign (by conv => lhs; whnf)) ?_
        refine L.nil ?_
        refine J.cut (X := Unit) [19, 90, 91, 92, 93, 94, 95, 96, 97, 98, 99, 100, 101, 102, 103, 104] (fun _ => [(19, .int .u64 (ahO o i))]) (fun _ w' => w' = w15) ?_ ?_
        · refine J.seq ?_
          refine J.region ?_
          refine L.va rfl (X.move (by conv => lhs; whnf)) ?_
          refine L.va rfl (X.gtr rfl rfl) ?_
          refine L.va rfl (X.move (by conv => lhs; whnf)) ?_
          refine L.caseDec (k := 92) rfl (fun q1 => ?_) (fun q1 => ?_)
          · refine L.va rfl (X.move (by conv => lhs; whnf)) ?_
            refine L.va rfl (X.fieldAddr rfl Tryd.underlying42 rfl sz_40 (by decide)) ?_
            refine L.va rfl (X.load rfl sc_40 (by first | exact Ld.blk k1715 rfl | exact Ld.blk q1215 rfl)) ?_
            refine L.va rfl (X.len rfl Tryd.underlying40) ?_
            refine L.va rfl (X.leq rfl rfl) ?_
            refine L.va rfl (X.pickT rfl (by conv => lhs; whnf)) ?_
            refine L.nil ?_
            refine J.dec rfl (fun q2 => ?_) (fun q2 => ?_)
            · have e : ahO o i = Q.st.tm.getD ((i : Int) - 1).toNat 0 := by
                unfold ahO
                rw [if_pos ⟨by omega, by rw [← qtm]; omega⟩, qtm, show ((i : Int) - 1).toNat = i - 1 by omega]
              have hA := ht15.some_ (by omega)
              rw [e]
              refine J.region ?_
              refine L.va rfl (X.fieldAddr rfl Tryd.underlying42 rfl sz_40 (by decide)) ?_
              refine L.va rfl (X.load rfl sc_40 (by first | exact Ld.blk k1715 rfl | exact Ld.blk q1215 rfl | exact Ld.num ht15 (by omega) | exact hA)) ?_
              refine L.va rfl (X.move (by conv => lhs; whnf)) ?_
              refine L.va rfl (X.sub rfl rfl (by omega)) ?_
              refine L.va rfl ((by first | exact X.index1n rfl rfl Tryd.underlying40 sz_35 (by first | exact Option.some_ne_none _ | exact ht15.some_ (by omega) | exact hA) (by omega) | exact X.index1 rfl rfl Tryd.underlying40 sz_35 (by first | exact Option.some_ne_none _ | exact ht15.some_ (by omega) | exact hA) (by omega))) ?_
              refine L.va rfl (X.load rfl sc_35 (by first | exact Ld.blk k1715 rfl | exact Ld.blk q1215 rfl | exact Ld.num ht15 (by omega) | exact hA)) ?_
              refine L.va rfl (X.assign (by conv => lhs; whnf)) ?_
              refine L.nil ?_
              refine ⟨(), At1 (by first | rfl | exact at_int rfl (by omega) | exact at_slice rfl (by omega) | exact at_int rfl (by simp)), (by (iterate 17 refine Agr.lk rfl ?_); exact Agr.rfl'), ?_⟩
              rfl
            · have e : ahO o i = 0 := by
                unfold ahO
                rw [if_neg (by rw [← qtm]; omega)]
              rw [e]
              refine J.skip ?_
              refine ⟨(), At1 (by first | rfl | exact at_int rfl (by omega) | exact at_slice rfl (by omega) | exact at_int rfl (by simp)), (by (iterate 10 refine Agr.lk rfl ?_); exact Agr.rfl'), ?_⟩
              rfl
          · have e : ahO o i = 0 := by
              unfold ahO
              rw [if_neg (by omega)]
            rw [e]
            refine L.no rfl ?_
            refine L.no rfl ?_
            refine L.no rfl ?_
            refine L.no rfl ?_
            refine L.no rfl ?_
            refine L.va rfl (X.pickF rfl (by conv => lhs; whnf)) ?_
            refine L.nil ?_
            refine J.iteF rfl ?_
            refine J.skip ?_
            refine ⟨(), At1 (by first | rfl | exact at_int rfl (by omega) | exact at_slice rfl (by omega) | exact at_int rfl (by simp)), (by (iterate 10 refine Agr.lk rfl ?_); exact Agr.rfl'), ?_⟩
            rfl
        · rintro _ g w16 rfl
          have hah : 0 ≤ ahO o i ∧ ahO o i ≤ 18446744073709551615 := by
            unfold ahO
            split
            · have hm : o.tm.getD (i - 1) 0 ∈ o.tm := by
                rw [List.getD, List.getElem?_eq_getElem (by omega)]
                exact List.getElem_mem _
              have := oo.tt _ hm
              omega
            · omega
          have hit := rstep_iff (ep := ep) oo hzb hbr (by omega)
          have STAY : ∀ {u : World}, Ext w16 u → ¬ (o.ch && okP zs ep && fol o i zs) = true → ROp r N fr ct ep b4 b8 b9 b12 w (i + 1) s3 ⟨Q.sA, Q.sc, Q.tA, Q.tc, stO fr ct ep (opI r.abs fr ep (i + 1))⟩ u := by
            intro u hu hno
            have eO : opStep ep i zs o = ⟨nx1, false, o.tm, o.sm⟩ := by unfold opStep; rw [if_neg hno, hnx]
            have eT : stO fr ct ep (opI r.abs fr ep (i + 1)) = ⟨fr, ct, ep, nx1, Q.st.sm, Q.st.tm, 0⟩ := by rw [eS, eO, qsm, qtm]; rfl
            rw [eT]
            refine ⟨by omega, eT.symm, k2, k115.ext hu, ⟨(Q15.ext hu).hs, (Q15.ext hu).ht⟩, q415.ext hu, q1215.ext hu, q815.ext hu, q915.ext hu, he15.trans hu, fr14, cf14, sep15⟩
          refine J.seq ?_
          cases hko : okP zs ep
          · refine J.draw (ℓ := 1000000) (S := Ext w16) mixed (fun w17 hS hS_h => ?_)
            refine D.va 0 rfl (by kernel_rfl) (fun _ _ _ h => h) rfl (fun w' hw => X.move (by conv => lhs; whnf)) hS ?_
            refine D.va 1 rfl (by kernel_rfl) (fun _ _ _ h => h) rfl (fun w' hw => X.move (by conv => lhs; whnf)) hS ?_
            refine D.caseBF (k := 106) rfl (by rfl) ?_
            refine D.no 2 rfl (by kernel_rfl) (fun _ _ _ h => h) rfl hS ?_
            refine D.no 3 rfl (by kernel_rfl) (fun _ _ _ h => h) rfl hS ?_
            refine D.no 4 rfl (by kernel_rfl) (fun _ _ _ h => h) rfl hS ?_
            refine D.no 5 rfl (by kernel_rfl) (fun _ _ _ h => h) rfl hS ?_
            refine D.no 6 rfl (by kernel_rfl) (fun _ _ _ h => h) rfl hS ?_
            refine D.no 7 rfl (by kernel_rfl) (fun _ _ _ h => h) rfl hS ?_
            refine D.va 8 rfl (by kernel_rfl) (fun _ _ _ h => h) rfl (fun w' hw => X.pickF rfl (by conv => lhs; whnf)) hS ?_
            refine D.va 9 rfl (by kernel_rfl) (fun _ _ _ h => h) rfl (fun w' hw => X.move (by conv => lhs; whnf)) hS ?_
            refine D.no 10 rfl (by kernel_rfl) (fun _ _ _ h => h) rfl hS ?_
            refine D.no 11 rfl (by kernel_rfl) (fun _ _ _ h => h) rfl hS ?_
            refine D.no 12 rfl (by kernel_rfl) (fun _ _ _ h => h) rfl hS ?_
            refine D.no 13 rfl (by kernel_rfl) (fun _ _ _ h => h) rfl hS ?_
            refine D.no 14 rfl (by kernel_rfl) (fun _ _ _ h => h) rfl hS ?_
            refine D.no 15 rfl (by kernel_rfl) (fun _ _ _ h => h) rfl hS ?_
            refine D.no 16 rfl (by kernel_rfl) (fun _ _ _ h => h) rfl hS ?_
            refine D.no 17 rfl (by kernel_rfl) (fun _ _ _ h => h) rfl hS ?_
            refine D.no 18 rfl (by kernel_rfl) (fun _ _ _ h => h) rfl hS ?_
            refine D.no 19 rfl (by kernel_rfl) (fun _ _ _ h => h) rfl hS ?_
            refine D.no 20 rfl (by kernel_rfl) (fun _ _ _ h => h) rfl hS ?_
            refine D.no 21 rfl (by kernel_rfl) (fun _ _ _ h => h) rfl hS ?_
            refine D.no 22 rfl (by kernel_rfl) (fun _ _ _ h => h) rfl hS ?_
            refine D.va 23 rfl (by kernel_rfl) (fun _ _ _ h => h) rfl (fun w' hw => X.pickF rfl (by conv => lhs; whnf)) hS ?_
            refine D.done (by kernel_rfl) ?_
            replace k1715 := k1715.ext hS
            replace q1215 := q1215.ext hS
            refine J.iteF rfl ?_
            refine J.skip ?_
            refine J.region ?_
            refine L.va rfl (X.move (by conv => lhs; whnf)) ?_
            refine L.va rfl (X.add rfl rfl (by omega)) ?_
            refine L.va rfl (X.assign (by conv => lhs; whnf)) ?_
            refine L.nil ?_
            refine ⟨(i + 1, s3, ⟨Q.sA, Q.sc, Q.tA, Q.tc, stO fr ct ep (opI r.abs fr ep (i + 1))⟩), At1 (by first | rfl | exact at_int rfl (by omega) | exact at_slice rfl (by omega) | exact at_int rfl (by simp)), (by (iterate 28 refine Agr.lk rfl ?_); refine Agr.lk rfl ?_; refine Agr.hav rfl ?_; (iterate 1 refine Agr.lk rfl ?_); refine Agr.lk rfl ?_; refine Agr.hav rfl ?_; (iterate 27 refine Agr.lk rfl ?_); exact Agr.lk rfl (Agr.hav rfl Agr.rfl')), ?_⟩
            exact ⟨STAY hS (fun h => by rw [hko, Bool.and_false, Bool.false_and] at h; cases h), by show ct - (i + 1) < ct - i; omega⟩
          · have hb := hsBb hko
            by_cases hl : o.sm.length = i * 991
            · have hr10 : Reads w16 w16.heap.size 1 A5 10 (nums .u8 ((sV smZ zs).take 10)) := by
                have := hr15.first (k := 10) (by omega)
                simpa [nums] using this
              have K121 := fun w' => high22 2 (i : Int) w' (by omega) (by omega) (by omega)
              have K124 := fun w' => high22 8 (ahO o i) w' hah.1 hah.2 (by omega)
              refine J.draw (ℓ := 1000000) (S := Ext w16) mixed (fun w17 hS hS_h => ?_)
              refine D.va 0 rfl (by kernel_rfl) (fun _ _ _ h => h) rfl (fun w' hw => X.move (by conv => lhs; whnf)) hS ?_
              refine D.va 1 rfl (by kernel_rfl) (fun _ _ _ h => h) rfl (fun w' hw => X.move (by conv => lhs; whnf)) hS ?_
              refine D.caseBT (k := 106) rfl (by rfl) ?_
              refine D.va 2 rfl (by kernel_rfl) (fun _ _ _ h => h) rfl (fun w' hw => X.fieldAddr rfl Tryd.underlying42 rfl sz_39 (by decide)) hS ?_
              refine D.va 3 rfl (by kernel_rfl) (fun _ _ _ h => h) rfl (fun w' hw => X.load rfl sc_39 (by first | exact Ld.blk (k1715.ext hw) rfl | exact Ld.blk (q1215.ext hw) rfl)) hS ?_
              refine D.va 4 rfl (by kernel_rfl) (fun _ _ _ h => h) rfl (fun w' hw => X.len rfl Tryd.underlying39) hS ?_
              refine D.va 5 rfl (by kernel_rfl) (fun _ _ _ h => h) rfl (fun w' hw => X.move (by conv => lhs; whnf)) hS ?_
              refine D.va 6 rfl (by kernel_rfl) (fun _ _ _ h => h) rfl (fun w' hw => X.mul rfl rfl (by omega)) hS ?_
              refine D.va 7 rfl (by kernel_rfl) (fun _ _ _ h => h) rfl (fun w' hw => X.eql rfl rfl) hS ?_
              refine D.va 8 rfl (by kernel_rfl) (fun _ _ _ h => h) rfl (fun w' hw => X.pickT rfl (by conv => lhs; whnf)) hS ?_
              refine D.va 9 rfl (by kernel_rfl) (fun _ _ _ h => h) rfl (fun w' hw => X.move (by conv => lhs; whnf)) hS ?_
              refine D.caseDecT (k := 114) rfl (by rw [qsm]; omega) ?_
              refine D.va 10 rfl (by kernel_rfl) (fun _ _ _ h => h) rfl (fun w' hw => X.fieldAddr rfl Tryd.underlying75 rfl sz_39 (by decide)) hS ?_
              refine D.va 11 rfl (by kernel_rfl) (fun _ _ _ h => h) rfl (fun w' hw => X.load rfl sc_39 (by first | exact Ld.blk (k1715.ext hw) rfl | exact Ld.blk (q1215.ext hw) rfl)) hS ?_
              refine D.va 12 rfl (by kernel_rfl) (fun _ _ _ h => h) rfl (fun w' hw => (by first | exact X.sliceTon (j := 10) rfl rfl Tryd.underlying39 sz_5 (by omega) | exact X.sliceTo rfl rfl Tryd.underlying39 sz_5 (by omega))) hS ?_
              refine D.va 13 rfl (by kernel_rfl) (fun _ _ _ h => h) rfl (fun w' hw => X.conv rfl (((hr10.ext hw).more (Ext.le hw)).conv (c := c5) Tryd.underlying39 Tryd.underlying5 Tryd.underlying9)) hS ?_
              refine D.va 14 rfl (by kernel_rfl) (fun _ _ _ h => h) rfl (fun w' hw => X.move (by conv => lhs; whnf)) hS ?_
              refine D.va 15 rfl (by kernel_rfl) (fun _ _ _ h => h) rfl (fun w' hw => (by first | exact X.convU rfl is_3 Tryd.underlying35 (by omega) | exact X.convw rfl is_3 Tryd.underlying35)) hS ?_
              refine D.va 18 rfl (by kernel_rfl) (fun _ _ _ h => h) rfl (fun w' hw => X.move (by conv => lhs; whnf)) hS ?_
              have zA := (hS).le
              refine D.one 16 (by kernel_rfl) rfl ?_
              refine L.call rfl en_42 rfl ((K121 _)) ?_
              rintro e wA ⟨Aa, ca, rfl, hoa, hea⟩
              refine ⟨_, rfl, ?_⟩
              have hS1 := (hS).trans hea
              refine L.nil ?_
              refine ⟨fun _ => hS1, ?_⟩
              try replace hob := hob.ext hea
              refine D.two 17 19 (by kernel_rfl) rfl rfl ?_ ?_
              · refine L.va rfl (X.conv rfl ((own_reads hoa).conv (c := ca) Tryd.underlying39 Tryd.underlying5 Tryd.underlying9)) ?_
                refine L.nil ?_
                refine ⟨fun _ => hS1, ?_⟩
                have zB := (hS1).le
                refine D.one 19 (by kernel_rfl) rfl ?_
                refine L.call rfl en_42 rfl ((K124 _)) ?_
                rintro e wB ⟨Ab, cb, rfl, hob, heb⟩
                refine ⟨_, rfl, ?_⟩
                have hS2 := (hS1).trans heb
                refine L.nil ?_
                refine ⟨fun _ => hS2, ?_⟩
                try replace hoa := hoa.ext heb
                refine D.one 20 (by kernel_rfl) rfl ?_
                refine L.va rfl (X.conv rfl ((own_reads hob).conv (c := cb) Tryd.underlying39 Tryd.underlying5 Tryd.underlying9)) ?_
                refine L.nil ?_
                refine ⟨fun _ => hS2, ?_⟩
                refine D.va 21 rfl (by kernel_rfl) (fun _ _ _ h => h) rfl (fun w' hw => X.addS rfl rfl (by rw [strOfNums_size, strOfNums_size, be_length, be_length]; decide)) hS2 ?_
                refine D.va 22 rfl (by kernel_rfl) (fun _ _ _ h => h) rfl (fun w' hw => X.eqlS rfl rfl) hS2 ?_
                refine D.va 23 rfl (by kernel_rfl) (fun _ _ _ h => h) rfl (fun w' hw => X.pickT rfl (by conv => lhs; whnf)) hS2 ?_
                refine D.done (by kernel_rfl) ?_
                replace k1715 := k1715.ext hS2
                replace q1215 := q1215.ext hS2
                have hSu := hS2
                have k1716 := k1715
                have q1216 := q1215
                have q416 := q415.ext hSu
                have q816 := q815.ext hSu
                have q916 := q915.ext hSu
                have Q16 := Q15.ext hSu
                have s16 := k115.ext hSu
                have hr16 := hr15.ext hSu
                have he16 := he15.trans hSu
                have zu := hSu.le
                by_cases hp : (sV smZ zs).take 10 = be 2 (i : Int) ++ be 8 (ahO o i)
                · refine J.decT rfl (by rw [str_app2, hp]) ?_
                  have hyes := hit.2 ⟨hko, hl, hp⟩
                  have eO : opStep ep i zs o = ⟨nx1, true, o.tm ++ [sB smZ zs], o.sm ++ pBy zs⟩ := by unfold opStep; rw [if_pos hyes, hnx]
                  have eT : stO fr ct ep (opI r.abs fr ep (i + 1)) = ⟨fr, ct, ep, nx1, Q.st.sm ++ pBy zs, Q.st.tm ++ [sB smZ zs], 0⟩ := by rw [eS, eO, qsm, qtm]; rfl
                  refine J.seq ?_
                  refine J.region ?_
                  refine L.va rfl (X.fieldAddr rfl Tryd.underlying42 rfl sz_40 (by decide)) ?_
                  refine L.va rfl (X.load rfl sc_40 (by first | exact Ld.blk k1716 rfl | exact Ld.blk q1216 rfl)) ?_
                  refine L.va rfl (X.fieldAddr rfl Tryd.underlying75 rfl sz_35 (by decide)) ?_
                  refine L.va rfl (X.load rfl sc_35 (by first | exact Ld.blk k1716 rfl | exact Ld.blk q1216 rfl)) ?_
                  refine L.bslice (vs := [_]) rfl (Evs.cons (by conv => lhs; whnf) Evs.nil) rfl rfl rfl rfl Tryd.underlying40 sz_35 zr_35 (by decide) ?_
                  intro b20 w20 hb20 hs20 hk20 he20
                  have z20 := he20.le
                  have k1720 := k1716.ext he20
                  have q1220 := q1216.ext he20
                  have Q20 := Q16.ext he20
                  have ht20 := Q20.ht
                  have htl : Q.st.tm.length ≤ 1000 ∧ Q.st.sm.length ≤ 991000 := by rw [qtm, qsm]; omega
                  have hs20' := Q20.hs
                  refine L.appendQ (q := Q.st.tm.length + 1) (ys := Q.st.tm ++ [sB smZ zs]) rfl rfl rfl Tryd.underlying40 el_35 (ht20) ((blk_reads (q := 1) (l := nums .u64 [sB smZ zs]) hk20 hk20.lt rfl)) (by omega) (by simp) (by unfold maxLen; omega) (by omega) ?_
                  intro A21 c21 w21 ho21 hg21 hb21 hor21
                  have z21 := hg21.size
                  have k1721 := k1720.grown hg21 (fun e => own_blk_ne ht20 k1720 (by decide) e.symm)
                  have q1221 := q1220.grown hg21 (fun e => own_blk_ne ht20 q1220 (by decide) e.symm)
                  have q421 := (q416.ext he20).grown hg21 (fun e => own_blk_ne ht20 (q416.ext he20) (by decide) e.symm)
                  have q821 := (q816.ext he20).grown hg21 (fun e => own_blk_ne ht20 (q816.ext he20) (by decide) e.symm)
                  have q921 := (q916.ext he20).grown hg21 (fun e => own_blk_ne ht20 (q916.ext he20) (by decide) e.symm)
                  have hs21 := hs20'.kept hg21 (own_or hs20' ht20 (by decide))
                  have s21 := (s16.ext he20).grown64 ht20 hg21 hNs
                  have he21 : Ext w w21 := (he16.trans he20).grw hg21 (fun g hg => (own_isT ht20 hg).2)
                  have hr21 := ((hr16.ext he20).fresh hf5 hg21 (fun b hb => by have := (M.h.ht.lt b hb).2; omega)).more (B' := w21.heap.size) (by omega)
                  refine L.va rfl (X.fieldAddr rfl Tryd.underlying42 rfl sz_40 (by decide)) ?_
                  refine L.store rfl rfl (by conv => lhs; whnf) rfl sz_40 (q1221) (by first | decide | exact Nat.le_of_ble_eq_true rfl) ?_
                  intro w22 q1222 hg22 hs22
                  have q1222 : Blk w22 b12 42 #[.int .i64 (fr : Int), .int .i64 (ct : Int), .int .u64 ep, .int .u64 nx1, Q.ss, .slice A21 (Q.st.tm.length + 1) c21, .int .i64 0] := q1222
                  have z22 := hg22.size
                  have k1722 := k1721.grown hg22 (nb n17)
                  have q422 := q421.grown hg22 (nb n4c)
                  have q822 := q821.grown hg22 (nb n8c)
                  have q922 := q921.grown hg22 (nb n9c)
                  have hs22' := hs21.kept hg22 (.inr (own_blk_ne hs21 q1221 (by decide)))
                  have ho22 := ho21.kept hg22 (.inr (own_blk_ne ho21 q1221 (by decide)))
                  have s22 := s21.blkL q1221 hg22 (by omega)
                  have he22 : Ext w w22 := he21.grw hg22 (by intro g hg; injection hg with hg; omega)
                  have hr22 := (hr21.fresh hf5 hg22 (fun b hb => by injection hb with hb; omega)).more (B' := w22.heap.size) (by omega)
                  have hpl : (pBy zs).length = (sV smZ zs).length - 10 := by unfold pBy; rw [List.length_drop]
                  have hrB := part_nums (i := 10) (j := (sV smZ zs).length) hr22 (by omega) (Nat.le_refl _) hc5
                  rw [show ((sV smZ zs).drop 10).take ((sV smZ zs).length - 10) = pBy zs from List.take_of_length_le (by rw [List.length_drop]; exact Nat.le_refl _)] at hrB
                  refine L.nil ?_
                  refine J.draw (ℓ := 7) (S := (fun w' => Blk w' b12 42 #[.int .i64 (fr : Int), .int .i64 (ct : Int), .int .u64 ep, .int .u64 nx1, Q.ss, .slice A21 (Q.st.tm.length + 1) c21, .int .i64 0] ∧ Blk w' b17 75 #[.int .i64 (sK smZ zs), .int .u64 (sA smZ zs), .int .u64 (sB smZ zs), .slice A5 (sV smZ zs).length c5])) mixed (fun w23 hSE hS_h => ?_)
                  have hS : ((fun w' => Blk w' b12 42 #[.int .i64 (fr : Int), .int .i64 (ct : Int), .int .u64 ep, .int .u64 nx1, Q.ss, .slice A21 (Q.st.tm.length + 1) c21, .int .i64 0] ∧ Blk w' b17 75 #[.int .i64 (sK smZ zs), .int .u64 (sA smZ zs), .int .u64 (sB smZ zs), .slice A5 (sV smZ zs).length c5])) w23 := And.intro (q1222.ext hSE) (k1722.ext hSE)
                  have hs23 := hs22'.ext hSE
                  have ne1 : some b12 ≠ Q.ss.ownBlock := fun e => own_blk_ne hs23 hS.1 (by decide) e.symm
                  have ne2 : some b17 ≠ Q.ss.ownBlock := fun e => own_blk_ne hs23 hS.2 (by decide) e.symm
                  have z23 := hSE.le
                  refine D.va 0 rfl (by kernel_rfl) (fun _ _ _ h => h) rfl (fun w' hw => X.fieldAddr rfl Tryd.underlying42 rfl sz_39 (by decide)) hS ?_
                  refine D.va 1 rfl (by kernel_rfl) (fun _ _ _ h => h) rfl (fun w' hw => X.load rfl sc_39 (by first | exact Ld.blk hw.1 rfl | exact Ld.blk hw.2 rfl)) hS ?_
                  refine D.va 2 rfl (by kernel_rfl) (fun _ _ _ h => h) rfl (fun w' hw => X.fieldAddr rfl Tryd.underlying75 rfl sz_39 (by decide)) hS ?_
                  refine D.va 3 rfl (by kernel_rfl) (fun _ _ _ h => h) rfl (fun w' hw => X.load rfl sc_39 (by first | exact Ld.blk hw.1 rfl | exact Ld.blk hw.2 rfl)) hS ?_
                  refine D.va 4 rfl (by kernel_rfl) (fun _ _ _ h => h) rfl (fun w' hw => (by first | exact X.sliceFromn (i := 10) rfl rfl Tryd.underlying39 sz_5 (by omega) | exact X.sliceFrom rfl rfl Tryd.underlying39 sz_5 (by omega))) hS ?_
                  refine D.one 5 (by kernel_rfl) rfl ?_
                  refine L.appendQ (q := Q.st.sm.length + ((sV smZ zs).length - 10)) (ys := Q.st.sm ++ pBy zs) rfl rfl rfl Tryd.underlying39 el_5 (hs23) ((hrB.ext hSE)) (by omega) (by simp) (by unfold maxLen; omega) (by omega) ?_
                  intro A24 c24 w24 ho24 hg24 hb24 hor24
                  have hS1 := And.intro (hS.1.grown hg24 ne1) (hS.2.grown hg24 ne2)
                  refine L.nil ?_
                  refine ⟨fun _ => hS1, ?_⟩
                  refine D.va 6 rfl (by kernel_rfl) (fun _ _ _ h => h) rfl (fun w' hw => X.fieldAddr rfl Tryd.underlying42 rfl sz_39 (by decide)) hS1 ?_
                  refine D.one 7 (by kernel_rfl) rfl ?_
                  refine L.store rfl rfl (by conv => lhs; whnf) rfl sz_39 (hS1.1) (by first | decide | exact Nat.le_of_ble_eq_true rfl) ?_
                  intro w25 q1225 hg25 hs25
                  refine L.nil ?_
                  refine ⟨fun h => absurd rfl h, ?_⟩
                  refine D.done (by kernel_rfl) ?_
                  refine J.region ?_
                  refine L.va rfl (X.move (by conv => lhs; whnf)) ?_
                  refine L.va rfl (X.add rfl rfl (by omega)) ?_
                  refine L.va rfl (X.assign (by conv => lhs; whnf)) ?_
                  refine L.nil ?_
                  have s25 := ((s22.ext hSE).grownR hs23 hg24 hNs sep15).blkL hS1.1 hg25 (by omega)
                  have l1 : (Q.st.sm ++ pBy zs).length = Q.st.sm.length + ((sV smZ zs).length - 10) := by rw [List.length_append, hpl]
                  have l2 : (Q.st.tm ++ [sB smZ zs]).length = Q.st.tm.length + 1 := by simp
                  have q1225 : Blk w25 b12 42 #[.int .i64 (fr : Int), .int .i64 (ct : Int), .int .u64 ep, .int .u64 nx1, .slice A24 (Q.st.sm.length + ((sV smZ zs).length - 10)) c24, .slice A21 (Q.st.tm.length + 1) c21, .int .i64 0] := q1225
                  have ho23 := ho22.ext hSE
                  have gK : ∀ {b tt : Nat} {cs : Array Value}, tt ≠ 5 → b ≠ b12 → Blk w22 b tt cs → Blk w25 b tt cs := fun hne hb h => ((h.ext hSE).grown hg24 (fun e => own_blk_ne hs23 (h.ext hSE) (fun q => hne q.symm) e.symm)).grown hg25 (nb hb)
                  have he25 : Ext w w25 := ((he22.trans hSE).grw hg24 (fun g hg => (own_isT hs23 hg).2)).grw hg25 (by intro g hg; injection hg with hg; omega)
                  have sz := s22.ext hSE
                  refine ⟨(i + 1, s3, ⟨A24, c24, A21, c21, stO fr ct ep (opI r.abs fr ep (i + 1))⟩), At1 (by first | rfl | exact at_int rfl (by omega) | exact at_slice rfl (by omega) | exact at_int rfl (by simp)), (by (iterate 43 refine Agr.lk rfl ?_); refine Agr.lk rfl ?_; refine Agr.hav rfl ?_; (iterate 1 refine Agr.lk rfl ?_); refine Agr.lk rfl ?_; refine Agr.hav rfl ?_; (iterate 27 refine Agr.lk rfl ?_); exact Agr.lk rfl (Agr.hav rfl Agr.rfl')), ?_⟩
                  refine ⟨?_, by show ct - (i + 1) < ct - i; omega⟩
                  rw [eT]
                  refine ⟨by omega, eT.symm, k2, s25, ⟨?_, ?_⟩, gK (by decide) n4c q422, ?_, gK (by decide) n8c q822, gK (by decide) n9c q922, he25, fr14, cf14, fun x hx g hg e => ?_⟩
                  · show World.ownsRow _ _ _ _ (.slice A24 (Q.st.sm ++ pBy zs).length c24) (Q.st.sm ++ pBy zs).length _
                    rw [l1]
                    exact ho24.kept hg25 (.inr (own_blk_ne ho24 hS1.1 (by decide)))
                  · show World.ownsRow _ _ _ _ (.slice A21 (Q.st.tm ++ [sB smZ zs]).length c21) (Q.st.tm ++ [sB smZ zs]).length _
                    rw [l2]
                    have h24 := ho23.kept hg24 (own_or ho23 hs23 (by decide))
                    exact h24.kept hg25 (.inr (own_blk_ne h24 hS1.1 (by decide)))
                  · show Blk w25 b12 42 #[.int .i64 (fr : Int), .int .i64 (ct : Int), .int .u64 ep, .int .u64 nx1, .slice A24 (Q.st.sm ++ pBy zs).length c24, .slice A21 (Q.st.tm ++ [sB smZ zs]).length c21, .int .i64 0]
                    rw [l1, l2]
                    exact q1225
                  · have e : Value.ownBlock (.slice A24 (Q.st.sm ++ pBy zs).length c24) = some g := e
                    rw [l1] at e
                    rcases hor24 with h | h
                    · exact sep15 x hx g hg (h ▸ e)
                    · rw [h] at e
                      injection e with e
                      have := sz.clt hx hg
                      omega
                · refine J.decF rfl (by exact (str_off (fun z hz => sV_bytes smZ zs hzb z (List.mem_of_mem_take hz)) (fun z hz => (List.mem_append.1 hz).elim (be_bytes _ _ z) (be_bytes _ _ z)) hp)) ?_
                  refine J.skip ?_
                  refine J.region ?_
                  refine L.va rfl (X.move (by conv => lhs; whnf)) ?_
                  refine L.va rfl (X.add rfl rfl (by omega)) ?_
                  refine L.va rfl (X.assign (by conv => lhs; whnf)) ?_
                  refine L.nil ?_
                  refine ⟨(i + 1, s3, ⟨Q.sA, Q.sc, Q.tA, Q.tc, stO fr ct ep (opI r.abs fr ep (i + 1))⟩), At1 (by first | rfl | exact at_int rfl (by omega) | exact at_slice rfl (by omega) | exact at_int rfl (by simp)), (by (iterate 29 refine Agr.lk rfl ?_); refine Agr.lk rfl ?_; refine Agr.hav rfl ?_; (iterate 1 refine Agr.lk rfl ?_); refine Agr.lk rfl ?_; refine Agr.hav rfl ?_; (iterate 27 refine Agr.lk rfl ?_); exact Agr.lk rfl (Agr.hav rfl Agr.rfl')), ?_⟩
                  exact ⟨STAY hSu (fun h => hp (hit.1 h).2.2), by show ct - (i + 1) < ct - i; omega⟩
              · have zB := (hS1).le
                refine L.call rfl en_42 rfl ((K124 _)) ?_
                rintro e wB ⟨Ab, cb, rfl, hob, heb⟩
                refine ⟨_, rfl, ?_⟩
                have hS2 := (hS1).trans heb
                refine L.nil ?_
                refine ⟨fun _ => hS2, ?_⟩
                try replace hoa := hoa.ext heb
                refine D.two 17 20 (by kernel_rfl) rfl rfl ?_ ?_
                · refine L.va rfl (X.conv rfl ((own_reads hoa).conv (c := ca) Tryd.underlying39 Tryd.underlying5 Tryd.underlying9)) ?_
                  refine L.nil ?_
                  refine ⟨fun _ => hS2, ?_⟩
                  refine D.one 20 (by kernel_rfl) rfl ?_
                  refine L.va rfl (X.conv rfl ((own_reads hob).conv (c := cb) Tryd.underlying39 Tryd.underlying5 Tryd.underlying9)) ?_
                  refine L.nil ?_
                  refine ⟨fun _ => hS2, ?_⟩
                  refine D.va 21 rfl (by kernel_rfl) (fun _ _ _ h => h) rfl (fun w' hw => X.addS rfl rfl (by rw [strOfNums_size, strOfNums_size, be_length, be_length]; decide)) hS2 ?_
                  refine D.va 22 rfl (by kernel_rfl) (fun _ _ _ h => h) rfl (fun w' hw => X.eqlS rfl rfl) hS2 ?_
                  refine D.va 23 rfl (by kernel_rfl) (fun _ _ _ h => h) rfl (fun w' hw => X.pickT rfl (by conv => lhs; whnf)) hS2 ?_
                  refine D.done (by kernel_rfl) ?_
                  replace k1715 := k1715.ext hS2
                  replace q1215 := q1215.ext hS2
                  have hSu := hS2
                  have k1716 := k1715
                  have q1216 := q1215
                  have q416 := q415.ext hSu
                  have q816 := q815.ext hSu
                  have q916 := q915.ext hSu
                  have Q16 := Q15.ext hSu
                  have s16 := k115.ext hSu
                  have hr16 := hr15.ext hSu
                  have he16 := he15.trans hSu
                  have zu := hSu.le
                  by_cases hp : (sV smZ zs).take 10 = be 2 (i : Int) ++ be 8 (ahO o i)
                  · refine J.decT rfl (by rw [str_app2, hp]) ?_
                    have hyes := hit.2 ⟨hko, hl, hp⟩
                    have eO : opStep ep i zs o = ⟨nx1, true, o.tm ++ [sB smZ zs], o.sm ++ pBy zs⟩ := by unfold opStep; rw [if_pos hyes, hnx]
                    have eT : stO fr ct ep (opI r.abs fr ep (i + 1)) = ⟨fr, ct, ep, nx1, Q.st.sm ++ pBy zs, Q.st.tm ++ [sB smZ zs], 0⟩ := by rw [eS, eO, qsm, qtm]; rfl
                    refine J.seq ?_
                    refine J.region ?_
                    refine L.va rfl (X.fieldAddr rfl Tryd.underlying42 rfl sz_40 (by decide)) ?_
                    refine L.va rfl (X.load rfl sc_40 (by first | exact Ld.blk k1716 rfl | exact Ld.blk q1216 rfl)) ?_
                    refine L.va rfl (X.fieldAddr rfl Tryd.underlying75 rfl sz_35 (by decide)) ?_
                    refine L.va rfl (X.load rfl sc_35 (by first | exact Ld.blk k1716 rfl | exact Ld.blk q1216 rfl)) ?_
                    refine L.bslice (vs := [_]) rfl (Evs.cons (by conv => lhs; whnf) Evs.nil) rfl rfl rfl rfl Tryd.underlying40 sz_35 zr_35 (by decide) ?_
                    intro b20 w20 hb20 hs20 hk20 he20
                    have z20 := he20.le
                    have k1720 := k1716.ext he20
                    have q1220 := q1216.ext he20
                    have Q20 := Q16.ext he20
                    have ht20 := Q20.ht
                    have htl : Q.st.tm.length ≤ 1000 ∧ Q.st.sm.length ≤ 991000 := by rw [qtm, qsm]; omega
                    have hs20' := Q20.hs
                    refine L.appendQ (q := Q.st.tm.length + 1) (ys := Q.st.tm ++ [sB smZ zs]) rfl rfl rfl Tryd.underlying40 el_35 (ht20) ((blk_reads (q := 1) (l := nums .u64 [sB smZ zs]) hk20 hk20.lt rfl)) (by omega) (by simp) (by unfold maxLen; omega) (by omega) ?_
                    intro A21 c21 w21 ho21 hg21 hb21 hor21
                    have z21 := hg21.size
                    have k1721 := k1720.grown hg21 (fun e => own_blk_ne ht20 k1720 (by decide) e.symm)
                    have q1221 := q1220.grown hg21 (fun e => own_blk_ne ht20 q1220 (by decide) e.symm)
                    have q421 := (q416.ext he20).grown hg21 (fun e => own_blk_ne ht20 (q416.ext he20) (by decide) e.symm)
                    have q821 := (q816.ext he20).grown hg21 (fun e => own_blk_ne ht20 (q816.ext he20) (by decide) e.symm)
                    have q921 := (q916.ext he20).grown hg21 (fun e => own_blk_ne ht20 (q916.ext he20) (by decide) e.symm)
                    have hs21 := hs20'.kept hg21 (own_or hs20' ht20 (by decide))
                    have s21 := (s16.ext he20).grown64 ht20 hg21 hNs
                    have he21 : Ext w w21 := (he16.trans he20).grw hg21 (fun g hg => (own_isT ht20 hg).2)
                    have hr21 := ((hr16.ext he20).fresh hf5 hg21 (fun b hb => by have := (M.h.ht.lt b hb).2; omega)).more (B' := w21.heap.size) (by omega)
                    refine L.va rfl (X.fieldAddr rfl Tryd.underlying42 rfl sz_40 (by decide)) ?_
                    refine L.store rfl rfl (by conv => lhs; whnf) rfl sz_40 (q1221) (by first | decide | exact Nat.le_of_ble_eq_true rfl) ?_
                    intro w22 q1222 hg22 hs22
                    have q1222 : Blk w22 b12 42 #[.int .i64 (fr : Int), .int .i64 (ct : Int), .int .u64 ep, .int .u64 nx1, Q.ss, .slice A21 (Q.st.tm.length + 1) c21, .int .i64 0] := q1222
                    have z22 := hg22.size
                    have k1722 := k1721.grown hg22 (nb n17)
                    have q422 := q421.grown hg22 (nb n4c)
                    have q822 := q821.grown hg22 (nb n8c)
                    have q922 := q921.grown hg22 (nb n9c)
                    have hs22' := hs21.kept hg22 (.inr (own_blk_ne hs21 q1221 (by decide)))
                    have ho22 := ho21.kept hg22 (.inr (own_blk_ne ho21 q1221 (by decide)))
                    have s22 := s21.blkL q1221 hg22 (by omega)
                    have he22 : Ext w w22 := he21.grw hg22 (by intro g hg; injection hg with hg; omega)
                    have hr22 := (hr21.fresh hf5 hg22 (fun b hb => by injection hb with hb; omega)).more (B' := w22.heap.size) (by omega)
                    have hpl : (pBy zs).length = (sV smZ zs).length - 10 := by unfold pBy; rw [List.length_drop]
                    have hrB := part_nums (i := 10) (j := (sV smZ zs).length) hr22 (by omega) (Nat.le_refl _) hc5
                    rw [show ((sV smZ zs).drop 10).take ((sV smZ zs).length - 10) = pBy zs from List.take_of_length_le (by rw [List.length_drop]; exact Nat.le_refl _)] at hrB
                    refine L.nil ?_
                    refine J.draw (ℓ := 7) (S := (fun w' => Blk w' b12 42 #[.int .i64 (fr : Int), .int .i64 (ct : Int), .int .u64 ep, .int .u64 nx1, Q.ss, .slice A21 (Q.st.tm.length + 1) c21, .int .i64 0] ∧ Blk w' b17 75 #[.int .i64 (sK smZ zs), .int .u64 (sA smZ zs), .int .u64 (sB smZ zs), .slice A5 (sV smZ zs).length c5])) mixed (fun w23 hSE hS_h => ?_)
                    have hS : ((fun w' => Blk w' b12 42 #[.int .i64 (fr : Int), .int .i64 (ct : Int), .int .u64 ep, .int .u64 nx1, Q.ss, .slice A21 (Q.st.tm.length + 1) c21, .int .i64 0] ∧ Blk w' b17 75 #[.int .i64 (sK smZ zs), .int .u64 (sA smZ zs), .int .u64 (sB smZ zs), .slice A5 (sV smZ zs).length c5])) w23 := And.intro (q1222.ext hSE) (k1722.ext hSE)
                    have hs23 := hs22'.ext hSE
                    have ne1 : some b12 ≠ Q.ss.ownBlock := fun e => own_blk_ne hs23 hS.1 (by decide) e.symm
                    have ne2 : some b17 ≠ Q.ss.ownBlock := fun e => own_blk_ne hs23 hS.2 (by decide) e.symm
                    have z23 := hSE.le
                    refine D.va 0 rfl (by kernel_rfl) (fun _ _ _ h => h) rfl (fun w' hw => X.fieldAddr rfl Tryd.underlying42 rfl sz_39 (by decide)) hS ?_
                    refine D.va 1 rfl (by kernel_rfl) (fun _ _ _ h => h) rfl (fun w' hw => X.load rfl sc_39 (by first | exact Ld.blk hw.1 rfl | exact Ld.blk hw.2 rfl)) hS ?_
                    refine D.va 2 rfl (by kernel_rfl) (fun _ _ _ h => h) rfl (fun w' hw => X.fieldAddr rfl Tryd.underlying75 rfl sz_39 (by decide)) hS ?_
                    refine D.va 3 rfl (by kernel_rfl) (fun _ _ _ h => h) rfl (fun w' hw => X.load rfl sc_39 (by first | exact Ld.blk hw.1 rfl | exact Ld.blk hw.2 rfl)) hS ?_
                    refine D.va 4 rfl (by kernel_rfl) (fun _ _ _ h => h) rfl (fun w' hw => (by first | exact X.sliceFromn (i := 10) rfl rfl Tryd.underlying39 sz_5 (by omega) | exact X.sliceFrom rfl rfl Tryd.underlying39 sz_5 (by omega))) hS ?_
                    refine D.one 5 (by kernel_rfl) rfl ?_
                    refine L.appendQ (q := Q.st.sm.length + ((sV smZ zs).length - 10)) (ys := Q.st.sm ++ pBy zs) rfl rfl rfl Tryd.underlying39 el_5 (hs23) ((hrB.ext hSE)) (by omega) (by simp) (by unfold maxLen; omega) (by omega) ?_
                    intro A24 c24 w24 ho24 hg24 hb24 hor24
                    have hS1 := And.intro (hS.1.grown hg24 ne1) (hS.2.grown hg24 ne2)
                    refine L.nil ?_
                    refine ⟨fun _ => hS1, ?_⟩
                    refine D.va 6 rfl (by kernel_rfl) (fun _ _ _ h => h) rfl (fun w' hw => X.fieldAddr rfl Tryd.underlying42 rfl sz_39 (by decide)) hS1 ?_
                    refine D.one 7 (by kernel_rfl) rfl ?_
                    refine L.store rfl rfl (by conv => lhs; whnf) rfl sz_39 (hS1.1) (by first | decide | exact Nat.le_of_ble_eq_true rfl) ?_
                    intro w25 q1225 hg25 hs25
                    refine L.nil ?_
                    refine ⟨fun h => absurd rfl h, ?_⟩
                    refine D.done (by kernel_rfl) ?_
                    refine J.region ?_
                    refine L.va rfl (X.move (by conv => lhs; whnf)) ?_
                    refine L.va rfl (X.add rfl rfl (by omega)) ?_
                    refine L.va rfl (X.assign (by conv => lhs; whnf)) ?_
                    refine L.nil ?_
                    have s25 := ((s22.ext hSE).grownR hs23 hg24 hNs sep15).blkL hS1.1 hg25 (by omega)
                    have l1 : (Q.st.sm ++ pBy zs).length = Q.st.sm.length + ((sV smZ zs).length - 10) := by rw [List.length_append, hpl]
                    have l2 : (Q.st.tm ++ [sB smZ zs]).length = Q.st.tm.length + 1 := by simp
                    have q1225 : Blk w25 b12 42 #[.int .i64 (fr : Int), .int .i64 (ct : Int), .int .u64 ep, .int .u64 nx1, .slice A24 (Q.st.sm.length + ((sV smZ zs).length - 10)) c24, .slice A21 (Q.st.tm.length + 1) c21, .int .i64 0] := q1225
                    have ho23 := ho22.ext hSE
                    have gK : ∀ {b tt : Nat} {cs : Array Value}, tt ≠ 5 → b ≠ b12 → Blk w22 b tt cs → Blk w25 b tt cs := fun hne hb h => ((h.ext hSE).grown hg24 (fun e => own_blk_ne hs23 (h.ext hSE) (fun q => hne q.symm) e.symm)).grown hg25 (nb hb)
                    have he25 : Ext w w25 := ((he22.trans hSE).grw hg24 (fun g hg => (own_isT hs23 hg).2)).grw hg25 (by intro g hg; injection hg with hg; omega)
                    have sz := s22.ext hSE
                    refine ⟨(i + 1, s3, ⟨A24, c24, A21, c21, stO fr ct ep (opI r.abs fr ep (i + 1))⟩), At1 (by first | rfl | exact at_int rfl (by omega) | exact at_slice rfl (by omega) | exact at_int rfl (by simp)), (by (iterate 43 refine Agr.lk rfl ?_); refine Agr.lk rfl ?_; refine Agr.hav rfl ?_; (iterate 1 refine Agr.lk rfl ?_); refine Agr.lk rfl ?_; refine Agr.hav rfl ?_; (iterate 27 refine Agr.lk rfl ?_); exact Agr.lk rfl (Agr.hav rfl Agr.rfl')), ?_⟩
                    refine ⟨?_, by show ct - (i + 1) < ct - i; omega⟩
                    rw [eT]
                    refine ⟨by omega, eT.symm, k2, s25, ⟨?_, ?_⟩, gK (by decide) n4c q422, ?_, gK (by decide) n8c q822, gK (by decide) n9c q922, he25, fr14, cf14, fun x hx g hg e => ?_⟩
                    · show World.ownsRow _ _ _ _ (.slice A24 (Q.st.sm ++ pBy zs).length c24) (Q.st.sm ++ pBy zs).length _
                      rw [l1]
                      exact ho24.kept hg25 (.inr (own_blk_ne ho24 hS1.1 (by decide)))
                    · show World.ownsRow _ _ _ _ (.slice A21 (Q.st.tm ++ [sB smZ zs]).length c21) (Q.st.tm ++ [sB smZ zs]).length _
                      rw [l2]
                      have h24 := ho23.kept hg24 (own_or ho23 hs23 (by decide))
                      exact h24.kept hg25 (.inr (own_blk_ne h24 hS1.1 (by decide)))
                    · show Blk w25 b12 42 #[.int .i64 (fr : Int), .int .i64 (ct : Int), .int .u64 ep, .int .u64 nx1, .slice A24 (Q.st.sm ++ pBy zs).length c24, .slice A21 (Q.st.tm ++ [sB smZ zs]).length c21, .int .i64 0]
                      rw [l1, l2]
                      exact q1225
                    · have e : Value.ownBlock (.slice A24 (Q.st.sm ++ pBy zs).length c24) = some g := e
                      rw [l1] at e
                      rcases hor24 with h | h
                      · exact sep15 x hx g hg (h ▸ e)
                      · rw [h] at e
                        injection e with e
                        have := sz.clt hx hg
                        omega
                  · refine J.decF rfl (by exact (str_off (fun z hz => sV_bytes smZ zs hzb z (List.mem_of_mem_take hz)) (fun z hz => (List.mem_append.1 hz).elim (be_bytes _ _ z) (be_bytes _ _ z)) hp)) ?_
                    refine J.skip ?_
                    refine J.region ?_
                    refine L.va rfl (X.move (by conv => lhs; whnf)) ?_
                    refine L.va rfl (X.add rfl rfl (by omega)) ?_
                    refine L.va rfl (X.assign (by conv => lhs; whnf)) ?_
                    refine L.nil ?_
                    refine ⟨(i + 1, s3, ⟨Q.sA, Q.sc, Q.tA, Q.tc, stO fr ct ep (opI r.abs fr ep (i + 1))⟩), At1 (by first | rfl | exact at_int rfl (by omega) | exact at_slice rfl (by omega) | exact at_int rfl (by simp)), (by (iterate 29 refine Agr.lk rfl ?_); refine Agr.lk rfl ?_; refine Agr.hav rfl ?_; (iterate 1 refine Agr.lk rfl ?_); refine Agr.lk rfl ?_; refine Agr.hav rfl ?_; (iterate 27 refine Agr.lk rfl ?_); exact Agr.lk rfl (Agr.hav rfl Agr.rfl')), ?_⟩
                    exact ⟨STAY hSu (fun h => hp (hit.1 h).2.2), by show ct - (i + 1) < ct - i; omega⟩
                · refine L.va rfl (X.conv rfl ((own_reads hob).conv (c := cb) Tryd.underlying39 Tryd.underlying5 Tryd.underlying9)) ?_
                  refine L.nil ?_
                  refine ⟨fun _ => hS2, ?_⟩
                  refine D.one 17 (by kernel_rfl) rfl ?_
                  refine L.va rfl (X.conv rfl ((own_reads hoa).conv (c := ca) Tryd.underlying39 Tryd.underlying5 Tryd.underlying9)) ?_
                  refine L.nil ?_
                  refine ⟨fun _ => hS2, ?_⟩
                  refine D.va 21 rfl (by kernel_rfl) (fun _ _ _ h => h) rfl (fun w' hw => X.addS rfl rfl (by rw [strOfNums_size, strOfNums_size, be_length, be_length]; decide)) hS2 ?_
                  refine D.va 22 rfl (by kernel_rfl) (fun _ _ _ h => h) rfl (fun w' hw => X.eqlS rfl rfl) hS2 ?_
                  refine D.va 23 rfl (by kernel_rfl) (fun _ _ _ h => h) rfl (fun w' hw => X.pickT rfl (by conv => lhs; whnf)) hS2 ?_
                  refine D.done (by kernel_rfl) ?_
                  replace k1715 := k1715.ext hS2
                  replace q1215 := q1215.ext hS2
                  have hSu := hS2
                  have k1716 := k1715
                  have q1216 := q1215
                  have q416 := q415.ext hSu
                  have q816 := q815.ext hSu
                  have q916 := q915.ext hSu
                  have Q16 := Q15.ext hSu
                  have s16 := k115.ext hSu
                  have hr16 := hr15.ext hSu
                  have he16 := he15.trans hSu
                  have zu := hSu.le
                  by_cases hp : (sV smZ zs).take 10 = be 2 (i : Int) ++ be 8 (ahO o i)
                  · refine J.decT rfl (by rw [str_app2, hp]) ?_
                    have hyes := hit.2 ⟨hko, hl, hp⟩
                    have eO : opStep ep i zs o = ⟨nx1, true, o.tm ++ [sB smZ zs], o.sm ++ pBy zs⟩ := by unfold opStep; rw [if_pos hyes, hnx]
                    have eT : stO fr ct ep (opI r.abs fr ep (i + 1)) = ⟨fr, ct, ep, nx1, Q.st.sm ++ pBy zs, Q.st.tm ++ [sB smZ zs], 0⟩ := by rw [eS, eO, qsm, qtm]; rfl
                    refine J.seq ?_
                    refine J.region ?_
                    refine L.va rfl (X.fieldAddr rfl Tryd.underlying42 rfl sz_40 (by decide)) ?_
                    refine L.va rfl (X.load rfl sc_40 (by first | exact Ld.blk k1716 rfl | exact Ld.blk q1216 rfl)) ?_
                    refine L.va rfl (X.fieldAddr rfl Tryd.underlying75 rfl sz_35 (by decide)) ?_
                    refine L.va rfl (X.load rfl sc_35 (by first | exact Ld.blk k1716 rfl | exact Ld.blk q1216 rfl)) ?_
                    refine L.bslice (vs := [_]) rfl (Evs.cons (by conv => lhs; whnf) Evs.nil) rfl rfl rfl rfl Tryd.underlying40 sz_35 zr_35 (by decide) ?_
                    intro b20 w20 hb20 hs20 hk20 he20
                    have z20 := he20.le
                    have k1720 := k1716.ext he20
                    have q1220 := q1216.ext he20
                    have Q20 := Q16.ext he20
                    have ht20 := Q20.ht
                    have htl : Q.st.tm.length ≤ 1000 ∧ Q.st.sm.length ≤ 991000 := by rw [qtm, qsm]; omega
                    have hs20' := Q20.hs
                    refine L.appendQ (q := Q.st.tm.length + 1) (ys := Q.st.tm ++ [sB smZ zs]) rfl rfl rfl Tryd.underlying40 el_35 (ht20) ((blk_reads (q := 1) (l := nums .u64 [sB smZ zs]) hk20 hk20.lt rfl)) (by omega) (by simp) (by unfold maxLen; omega) (by omega) ?_
                    intro A21 c21 w21 ho21 hg21 hb21 hor21
                    have z21 := hg21.size
                    have k1721 := k1720.grown hg21 (fun e => own_blk_ne ht20 k1720 (by decide) e.symm)
                    have q1221 := q1220.grown hg21 (fun e => own_blk_ne ht20 q1220 (by decide) e.symm)
                    have q421 := (q416.ext he20).grown hg21 (fun e => own_blk_ne ht20 (q416.ext he20) (by decide) e.symm)
                    have q821 := (q816.ext he20).grown hg21 (fun e => own_blk_ne ht20 (q816.ext he20) (by decide) e.symm)
                    have q921 := (q916.ext he20).grown hg21 (fun e => own_blk_ne ht20 (q916.ext he20) (by decide) e.symm)
                    have hs21 := hs20'.kept hg21 (own_or hs20' ht20 (by decide))
                    have s21 := (s16.ext he20).grown64 ht20 hg21 hNs
                    have he21 : Ext w w21 := (he16.trans he20).grw hg21 (fun g hg => (own_isT ht20 hg).2)
                    have hr21 := ((hr16.ext he20).fresh hf5 hg21 (fun b hb => by have := (M.h.ht.lt b hb).2; omega)).more (B' := w21.heap.size) (by omega)
                    refine L.va rfl (X.fieldAddr rfl Tryd.underlying42 rfl sz_40 (by decide)) ?_
                    refine L.store rfl rfl (by conv => lhs; whnf) rfl sz_40 (q1221) (by first | decide | exact Nat.le_of_ble_eq_true rfl) ?_
                    intro w22 q1222 hg22 hs22
                    have q1222 : Blk w22 b12 42 #[.int .i64 (fr : Int), .int .i64 (ct : Int), .int .u64 ep, .int .u64 nx1, Q.ss, .slice A21 (Q.st.tm.length + 1) c21, .int .i64 0] := q1222
                    have z22 := hg22.size
                    have k1722 := k1721.grown hg22 (nb n17)
                    have q422 := q421.grown hg22 (nb n4c)
                    have q822 := q821.grown hg22 (nb n8c)
                    have q922 := q921.grown hg22 (nb n9c)
                    have hs22' := hs21.kept hg22 (.inr (own_blk_ne hs21 q1221 (by decide)))
                    have ho22 := ho21.kept hg22 (.inr (own_blk_ne ho21 q1221 (by decide)))
                    have s22 := s21.blkL q1221 hg22 (by omega)
                    have he22 : Ext w w22 := he21.grw hg22 (by intro g hg; injection hg with hg; omega)
                    have hr22 := (hr21.fresh hf5 hg22 (fun b hb => by injection hb with hb; omega)).more (B' := w22.heap.size) (by omega)
                    have hpl : (pBy zs).length = (sV smZ zs).length - 10 := by unfold pBy; rw [List.length_drop]
                    have hrB := part_nums (i := 10) (j := (sV smZ zs).length) hr22 (by omega) (Nat.le_refl _) hc5
                    rw [show ((sV smZ zs).drop 10).take ((sV smZ zs).length - 10) = pBy zs from List.take_of_length_le (by rw [List.length_drop]; exact Nat.le_refl _)] at hrB
                    refine L.nil ?_
                    refine J.draw (ℓ := 7) (S := (fun w' => Blk w' b12 42 #[.int .i64 (fr : Int), .int .i64 (ct : Int), .int .u64 ep, .int .u64 nx1, Q.ss, .slice A21 (Q.st.tm.length + 1) c21, .int .i64 0] ∧ Blk w' b17 75 #[.int .i64 (sK smZ zs), .int .u64 (sA smZ zs), .int .u64 (sB smZ zs), .slice A5 (sV smZ zs).length c5])) mixed (fun w23 hSE hS_h => ?_)
                    have hS : ((fun w' => Blk w' b12 42 #[.int .i64 (fr : Int), .int .i64 (ct : Int), .int .u64 ep, .int .u64 nx1, Q.ss, .slice A21 (Q.st.tm.length + 1) c21, .int .i64 0] ∧ Blk w' b17 75 #[.int .i64 (sK smZ zs), .int .u64 (sA smZ zs), .int .u64 (sB smZ zs), .slice A5 (sV smZ zs).length c5])) w23 := And.intro (q1222.ext hSE) (k1722.ext hSE)
                    have hs23 := hs22'.ext hSE
                    have ne1 : some b12 ≠ Q.ss.ownBlock := fun e => own_blk_ne hs23 hS.1 (by decide) e.symm
                    have ne2 : some b17 ≠ Q.ss.ownBlock := fun e => own_blk_ne hs23 hS.2 (by decide) e.symm
                    have z23 := hSE.le
                    refine D.va 0 rfl (by kernel_rfl) (fun _ _ _ h => h) rfl (fun w' hw => X.fieldAddr rfl Tryd.underlying42 rfl sz_39 (by decide)) hS ?_
                    refine D.va 1 rfl (by kernel_rfl) (fun _ _ _ h => h) rfl (fun w' hw => X.load rfl sc_39 (by first | exact Ld.blk hw.1 rfl | exact Ld.blk hw.2 rfl)) hS ?_
                    refine D.va 2 rfl (by kernel_rfl) (fun _ _ _ h => h) rfl (fun w' hw => X.fieldAddr rfl Tryd.underlying75 rfl sz_39 (by decide)) hS ?_
                    refine D.va 3 rfl (by kernel_rfl) (fun _ _ _ h => h) rfl (fun w' hw => X.load rfl sc_39 (by first | exact Ld.blk hw.1 rfl | exact Ld.blk hw.2 rfl)) hS ?_
                    refine D.va 4 rfl (by kernel_rfl) (fun _ _ _ h => h) rfl (fun w' hw => (by first | exact X.sliceFromn (i := 10) rfl rfl Tryd.underlying39 sz_5 (by omega) | exact X.sliceFrom rfl rfl Tryd.underlying39 sz_5 (by omega))) hS ?_
                    refine D.one 5 (by kernel_rfl) rfl ?_
                    refine L.appendQ (q := Q.st.sm.length + ((sV smZ zs).length - 10)) (ys := Q.st.sm ++ pBy zs) rfl rfl rfl Tryd.underlying39 el_5 (hs23) ((hrB.ext hSE)) (by omega) (by simp) (by unfold maxLen; omega) (by omega) ?_
                    intro A24 c24 w24 ho24 hg24 hb24 hor24
                    have hS1 := And.intro (hS.1.grown hg24 ne1) (hS.2.grown hg24 ne2)
                    refine L.nil ?_
                    refine ⟨fun _ => hS1, ?_⟩
                    refine D.va 6 rfl (by kernel_rfl) (fun _ _ _ h => h) rfl (fun w' hw => X.fieldAddr rfl Tryd.underlying42 rfl sz_39 (by decide)) hS1 ?_
                    refine D.one 7 (by kernel_rfl) rfl ?_
                    refine L.store rfl rfl (by conv => lhs; whnf) rfl sz_39 (hS1.1) (by first | decide | exact Nat.le_of_ble_eq_true rfl) ?_
                    intro w25 q1225 hg25 hs25
                    refine L.nil ?_
                    refine ⟨fun h => absurd rfl h, ?_⟩
                    refine D.done (by kernel_rfl) ?_
                    refine J.region ?_
                    refine L.va rfl (X.move (by conv => lhs; whnf)) ?_
                    refine L.va rfl (X.add rfl rfl (by omega)) ?_
                    refine L.va rfl (X.assign (by conv => lhs; whnf)) ?_
                    refine L.nil ?_
                    have s25 := ((s22.ext hSE).grownR hs23 hg24 hNs sep15).blkL hS1.1 hg25 (by omega)
                    have l1 : (Q.st.sm ++ pBy zs).length = Q.st.sm.length + ((sV smZ zs).length - 10) := by rw [List.length_append, hpl]
                    have l2 : (Q.st.tm ++ [sB smZ zs]).length = Q.st.tm.length + 1 := by simp
                    have q1225 : Blk w25 b12 42 #[.int .i64 (fr : Int), .int .i64 (ct : Int), .int .u64 ep, .int .u64 nx1, .slice A24 (Q.st.sm.length + ((sV smZ zs).length - 10)) c24, .slice A21 (Q.st.tm.length + 1) c21, .int .i64 0] := q1225
                    have ho23 := ho22.ext hSE
                    have gK : ∀ {b tt : Nat} {cs : Array Value}, tt ≠ 5 → b ≠ b12 → Blk w22 b tt cs → Blk w25 b tt cs := fun hne hb h => ((h.ext hSE).grown hg24 (fun e => own_blk_ne hs23 (h.ext hSE) (fun q => hne q.symm) e.symm)).grown hg25 (nb hb)
                    have he25 : Ext w w25 := ((he22.trans hSE).grw hg24 (fun g hg => (own_isT hs23 hg).2)).grw hg25 (by intro g hg; injection hg with hg; omega)
                    have sz := s22.ext hSE
                    refine ⟨(i + 1, s3, ⟨A24, c24, A21, c21, stO fr ct ep (opI r.abs fr ep (i + 1))⟩), At1 (by first | rfl | exact at_int rfl (by omega) | exact at_slice rfl (by omega) | exact at_int rfl (by simp)), (by (iterate 43 refine Agr.lk rfl ?_); refine Agr.lk rfl ?_; refine Agr.hav rfl ?_; (iterate 1 refine Agr.lk rfl ?_); refine Agr.lk rfl ?_; refine Agr.hav rfl ?_; (iterate 27 refine Agr.lk rfl ?_); exact Agr.lk rfl (Agr.hav rfl Agr.rfl')), ?_⟩
                    refine ⟨?_, by show ct - (i + 1) < ct - i; omega⟩
                    rw [eT]
                    refine ⟨by omega, eT.symm, k2, s25, ⟨?_, ?_⟩, gK (by decide) n4c q422, ?_, gK (by decide) n8c q822, gK (by decide) n9c q922, he25, fr14, cf14, fun x hx g hg e => ?_⟩
                    · show World.ownsRow _ _ _ _ (.slice A24 (Q.st.sm ++ pBy zs).length c24) (Q.st.sm ++ pBy zs).length _
                      rw [l1]
                      exact ho24.kept hg25 (.inr (own_blk_ne ho24 hS1.1 (by decide)))
                    · show World.ownsRow _ _ _ _ (.slice A21 (Q.st.tm ++ [sB smZ zs]).length c21) (Q.st.tm ++ [sB smZ zs]).length _
                      rw [l2]
                      have h24 := ho23.kept hg24 (own_or ho23 hs23 (by decide))
                      exact h24.kept hg25 (.inr (own_blk_ne h24 hS1.1 (by decide)))
                    · show Blk w25 b12 42 #[.int .i64 (fr : Int), .int .i64 (ct : Int), .int .u64 ep, .int .u64 nx1, .slice A24 (Q.st.sm ++ pBy zs).length c24, .slice A21 (Q.st.tm ++ [sB smZ zs]).length c21, .int .i64 0]
                      rw [l1, l2]
                      exact q1225
                    · have e : Value.ownBlock (.slice A24 (Q.st.sm ++ pBy zs).length c24) = some g := e
                      rw [l1] at e
                      rcases hor24 with h | h
                      · exact sep15 x hx g hg (h ▸ e)
                      · rw [h] at e
                        injection e with e
                        have := sz.clt hx hg
                        omega
                  · refine J.decF rfl (by exact (str_off (fun z hz => sV_bytes smZ zs hzb z (List.mem_of_mem_take hz)) (fun z hz => (List.mem_append.1 hz).elim (be_bytes _ _ z) (be_bytes _ _ z)) hp)) ?_
                    refine J.skip ?_
                    refine J.region ?_
                    refine L.va rfl (X.move (by conv => lhs; whnf)) ?_
                    refine L.va rfl (X.add rfl rfl (by omega)) ?_
                    refine L.va rfl (X.assign (by conv => lhs; whnf)) ?_
                    refine L.nil ?_
                    refine ⟨(i + 1, s3, ⟨Q.sA, Q.sc, Q.tA, Q.tc, stO fr ct ep (opI r.abs fr ep (i + 1))⟩), At1 (by first | rfl | exact at_int rfl (by omega) | exact at_slice rfl (by omega) | exact at_int rfl (by simp)), (by (iterate 29 refine Agr.lk rfl ?_); refine Agr.lk rfl ?_; refine Agr.hav rfl ?_; (iterate 1 refine Agr.lk rfl ?_); refine Agr.lk rfl ?_; refine Agr.hav rfl ?_; (iterate 27 refine Agr.lk rfl ?_); exact Agr.lk rfl (Agr.hav rfl Agr.rfl')), ?_⟩
                    exact ⟨STAY hSu (fun h => hp (hit.1 h).2.2), by show ct - (i + 1) < ct - i; omega⟩
            · refine J.draw (ℓ := 1000000) (S := Ext w16) mixed (fun w17 hS hS_h => ?_)
              refine D.va 0 rfl (by kernel_rfl) (fun _ _ _ h => h) rfl (fun w' hw => X.move (by conv => lhs; whnf)) hS ?_
              refine D.va 1 rfl (by kernel_rfl) (fun _ _ _ h => h) rfl (fun w' hw => X.move (by conv => lhs; whnf)) hS ?_
              refine D.caseBT (k := 106) rfl (by rfl) ?_
              refine D.va 2 rfl (by kernel_rfl) (fun _ _ _ h => h) rfl (fun w' hw => X.fieldAddr rfl Tryd.underlying42 rfl sz_39 (by decide)) hS ?_
              refine D.va 3 rfl (by kernel_rfl) (fun _ _ _ h => h) rfl (fun w' hw => X.load rfl sc_39 (by first | exact Ld.blk (k1715.ext hw) rfl | exact Ld.blk (q1215.ext hw) rfl)) hS ?_
              refine D.va 4 rfl (by kernel_rfl) (fun _ _ _ h => h) rfl (fun w' hw => X.len rfl Tryd.underlying39) hS ?_
              refine D.va 5 rfl (by kernel_rfl) (fun _ _ _ h => h) rfl (fun w' hw => X.move (by conv => lhs; whnf)) hS ?_
              refine D.va 6 rfl (by kernel_rfl) (fun _ _ _ h => h) rfl (fun w' hw => X.mul rfl rfl (by omega)) hS ?_
              refine D.va 7 rfl (by kernel_rfl) (fun _ _ _ h => h) rfl (fun w' hw => X.eql rfl rfl) hS ?_
              refine D.va 8 rfl (by kernel_rfl) (fun _ _ _ h => h) rfl (fun w' hw => X.pickT rfl (by conv => lhs; whnf)) hS ?_
              refine D.va 9 rfl (by kernel_rfl) (fun _ _ _ h => h) rfl (fun w' hw => X.move (by conv => lhs; whnf)) hS ?_
              refine D.caseDecF (k := 114) rfl (by rw [qsm]; omega) ?_
              refine D.no 10 rfl (by kernel_rfl) (fun _ _ _ h => h) rfl hS ?_
              refine D.no 11 rfl (by kernel_rfl) (fun _ _ _ h => h) rfl hS ?_
              refine D.no 12 rfl (by kernel_rfl) (fun _ _ _ h => h) rfl hS ?_
              refine D.no 13 rfl (by kernel_rfl) (fun _ _ _ h => h) rfl hS ?_
              refine D.no 14 rfl (by kernel_rfl) (fun _ _ _ h => h) rfl hS ?_
              refine D.no 15 rfl (by kernel_rfl) (fun _ _ _ h => h) rfl hS ?_
              refine D.no 16 rfl (by kernel_rfl) (fun _ _ _ h => h) rfl hS ?_
              refine D.no 17 rfl (by kernel_rfl) (fun _ _ _ h => h) rfl hS ?_
              refine D.no 18 rfl (by kernel_rfl) (fun _ _ _ h => h) rfl hS ?_
              refine D.no 19 rfl (by kernel_rfl) (fun _ _ _ h => h) rfl hS ?_
              refine D.no 20 rfl (by kernel_rfl) (fun _ _ _ h => h) rfl hS ?_
              refine D.no 21 rfl (by kernel_rfl) (fun _ _ _ h => h) rfl hS ?_
              refine D.no 22 rfl (by kernel_rfl) (fun _ _ _ h => h) rfl hS ?_
              refine D.va 23 rfl (by kernel_rfl) (fun _ _ _ h => h) rfl (fun w' hw => X.pickF rfl (by conv => lhs; whnf)) hS ?_
              refine D.done (by kernel_rfl) ?_
              replace k1715 := k1715.ext hS
              replace q1215 := q1215.ext hS
              refine J.iteF rfl ?_
              refine J.skip ?_
              refine J.region ?_
              refine L.va rfl (X.move (by conv => lhs; whnf)) ?_
              refine L.va rfl (X.add rfl rfl (by omega)) ?_
              refine L.va rfl (X.assign (by conv => lhs; whnf)) ?_
              refine L.nil ?_
              refine ⟨(i + 1, s3, ⟨Q.sA, Q.sc, Q.tA, Q.tc, stO fr ct ep (opI r.abs fr ep (i + 1))⟩), At1 (by first | rfl | exact at_int rfl (by omega) | exact at_slice rfl (by omega) | exact at_int rfl (by simp)), (by (iterate 29 refine Agr.lk rfl ?_); refine Agr.lk rfl ?_; refine Agr.hav rfl ?_; (iterate 1 refine Agr.lk rfl ?_); refine Agr.lk rfl ?_; refine Agr.hav rfl ?_; (iterate 27 refine Agr.lk rfl ?_); exact Agr.lk rfl (Agr.hav rfl Agr.rfl')), ?_⟩
              exact ⟨STAY hS (fun h => hl (hit.1 h).2.1), by show ct - (i + 1) < ct - i; omega⟩
    · obtain rfl : i = ct := by omega
      have hul := used_le oo.sb
      have osg := oo.sg
      have hqs := Reads.of_own M.h.hs
      have hqt := Reads.of_own M.h.ht
      have bds := own_bd M.h.hs
      have bdt := own_bd M.h.ht
      have hmx : maxLen = 9223372036854775807 := rfl
      have K20 := rall09 Q.sA Q.st.sm.length Q.sc Q.st.sm w7 hqs (by rw [qsm]; exact oo.sb) bds.1 (by omega) (by rw [qsm]; omega)
      refine J.exit ?_
      refine J.seq ?_
      refine J.region ?_
      refine L.va rfl (X.fieldAddr rfl Tryd.underlying42 rfl sz_39 (by decide)) ?_
      refine L.va rfl (X.load rfl sc_39 (by first | exact Ld.blk q4 rfl | exact Ld.blk q12 rfl)) ?_
      refine L.call rfl en_43 rfl (K20) ?_
      rintro e w8 ⟨Ao, co, bs, p, er, rfl, eA, hrow, hels, he8⟩
      refine ⟨_, rfl, ?_⟩
      rw [qsm] at eA
      have he8 : Ext w7 w8 := he8
      have eU : used o.sm = p := by unfold used; rw [eA]
      have eR : recs o.sm = bs.map Bo.l := by unfold recs; rw [eA]
      rw [eU] at hul
      have z8 := he8.le
      have q48 := q4.ext he8
      have q128 : Blk w8 b12 42 #[.int .i64 (fr : Int), .int .i64 (i : Int), .int .u64 ep, .int .u64 o.nx, Q.ss, Q.ts, .int .i64 0] := q12.ext he8
      obtain ⟨R0, hR0⟩ : ∃ R0 : Rl, R0 = ⟨Q.sA, Q.sc, Q.tA, Q.tc, ⟨fr, i, ep, o.nx, Q.st.sm, Q.st.tm, 0⟩⟩ := ⟨_, rfl⟩
      have K153 : ∀ w', R0.At w.heap.size w' → Calls Tryd.prog 44 #[.agg #[.int .i64 (fr : Int), .int .i64 (i : Int), .int .u64 ep, .int .u64 o.nx, Q.ss, Q.ts, .int .i64 0], .int .i64 (p : Int)] w' fun e w'' => ∃ R' : Rl, e = .returned R'.v ∧ R'.st = ⟨fr, i, ep, o.nx, Q.st.sm.take p, Q.st.tm.take ((p + 990) / 991), 0⟩ ∧ R'.At w'.heap.size w'' ∧ Ext w' w'' := by
        intro w' hA
        rw [hR0] at hA
        exact cut22 ⟨Q.sA, Q.sc, Q.tA, Q.tc, ⟨fr, i, ep, o.nx, Q.st.sm, Q.st.tm, 0⟩⟩ p w' (Reads.of_own hA.hs) bds.1 (Reads.of_own hA.ht) bdt.1 (by show p ≤ Q.st.sm.length; rw [qsm]; omega) (by show (p + 990) / 991 ≤ Q.st.tm.length; rw [qtm]; omega) (by show Q.st.sm.length ≤ _; rw [qsm]; omega)
      have hQ8 : R0.At w.heap.size w8 := by rw [hR0]; exact ⟨(M.h.ext he8).hs, (M.h.ext he8).ht⟩
      have c8 := q8.ext he8
      have c9 := q9.ext he8
      have hsa8 := M.hr.ext he8
      have heS8 := he7.trans he8
      refine L.va rfl (X.move (by conv => lhs; whnf)) ?_
      refine L.va rfl (X.extract rfl rfl) ?_
      refine L.va rfl (X.extract rfl rfl) ?_
      refine L.va rfl (X.extract rfl rfl) ?_
      refine L.va rfl (X.assign (by conv => lhs; whnf)) ?_
      refine L.va rfl (X.assign (by conv => lhs; whnf)) ?_
      refine L.va rfl (X.assign (by conv => lhs; whnf)) ?_
      refine L.nil ?_
      refine J.seq ?_
      refine J.draw (ℓ := 1000000) (S := (fun w' => Blk w' b4 33 #[s.K, s.P, .bool s.off, .int .i64 s.left, .int .i64 s.rd, .int .i64 s.wr, .int .i64 s.fl] ∧ Blk w' b12 42 #[.int .i64 (fr : Int), .int .i64 (i : Int), .int .u64 ep, .int .u64 o.nx, Q.ss, Q.ts, .int .i64 0])) mixed (fun w9 hSE hS_h => ?_)
      have hS : ((fun w' => Blk w' b4 33 #[s.K, s.P, .bool s.off, .int .i64 s.left, .int .i64 s.rd, .int .i64 s.wr, .int .i64 s.fl] ∧ Blk w' b12 42 #[.int .i64 (fr : Int), .int .i64 (i : Int), .int .u64 ep, .int .u64 o.nx, Q.ss, Q.ts, .int .i64 0])) w9 := And.intro (q48.ext hSE) (q128.ext hSE)
      have hQ := hQ8.ext hSE
      have k8c := c8.ext hSE
      have k9c := c9.ext hSE
      have hsa := hsa8.ext hSE
      have heS := heS8.trans hSE
      have hrow' := hrow.ext hSE
      have hels' : ∀ b ∈ bs, World.ownsRow _ w7.heap.size 5 1 b.v b.l.length (nums .u8 b.l) := fun b hb => (hels b hb).ext hSE
      refine D.va 0 rfl (by kernel_rfl) (fun _ _ _ h => h) rfl (fun w' hw => X.loadAgg rfl (range_l hw.1) Tryd.underlying33 rfl (by kernel_rfl)) hS ?_
      refine D.va 1 rfl (by kernel_rfl) (fun _ _ _ h => h) rfl (fun w' hw => X.loadAgg rfl (range_l hw.2) Tryd.underlying42 rfl (by kernel_rfl)) hS ?_
      refine D.va 2 rfl (by kernel_rfl) (fun _ _ _ h => h) rfl (fun w' hw => X.move (by conv => lhs; whnf)) hS ?_
      refine D.va 4 rfl (by kernel_rfl) (fun _ _ _ h => h) rfl (fun w' hw => X.move (by conv => lhs; whnf)) hS ?_
      refine D.one 3 (by kernel_rfl) rfl ?_
      refine L.call rfl en_44 rfl ((K153 _ hQ)) ?_
      rintro e wC ⟨R6, rfl, sR, aR, heR⟩
      refine ⟨_, rfl, ?_⟩
      have hS1 := And.intro ((hS).1.ext heR) ((hS).2.ext heR)
      refine L.nil ?_
      refine ⟨fun _ => hS1, ?_⟩
      have zR := (heS).le
      replace aR := aR.lower zR
      replace hQ := hQ.ext heR
      try replace k8c := k8c.ext heR
      try replace k8d := k8d.ext heR
      replace k9c := k9c.ext heR
      replace hsa := hsa.ext heR
      replace heS := heS.trans heR
      replace hrow' := hrow'.ext heR
      replace hels' := fun b hb => (hels' b hb).ext heR
      refine D.one 5 (by kernel_rfl) rfl ?_
      refine L.storeAgg (vs := [_, _, _, _, _, _, _]) rfl rfl rfl rfl sz_33 (k8c) rfl ?_
      intro wD k8d hg8 hs8
      have hS2 := And.intro ((hS1).1.grown hg8 (nb n48)) ((hS1).2.grown hg8 (nb n8c.symm))
      refine L.nil ?_
      refine ⟨fun _ => hS2, ?_⟩
      try replace aR := aR.blkL k8c hg8
      replace hQ := hQ.blkL k8c hg8
      try replace k9c := k9c.grown hg8 (nb n89.symm)
      try replace k9d := k9d.grown hg8 (nb n89.symm)
      replace hsa := hsa.blkL k8c hg8 (by omega)
      replace heS := heS.grw hg8 (by intro g hg; injection hg with hg; omega)
      replace hrow' := hrow'.kept hg8 (.inr (own_blk_ne hrow' k8c (by decide)))
      replace hels' := fun b hb => (hels' b hb).kept hg8 (.inr (own_blk_ne (hels' b hb) k8c (by decide)))
      refine D.one 6 (by kernel_rfl) rfl ?_
      refine L.storeAgg (vs := [_, _, _, _, _, _, _]) rfl rfl rfl rfl sz_42 (k9c) rfl ?_
      intro wE k9d hg9 hs9
      have hS3 := And.intro ((hS2).1.grown hg9 (nb n49)) ((hS2).2.grown hg9 (nb n9c.symm))
      refine L.nil ?_
      refine ⟨fun _ => hS3, ?_⟩
      replace aR := aR.blkL k9c hg9
      try replace k8c := k8c.grown hg9 (nb n89)
      try replace k8d := k8d.grown hg9 (nb n89)
      replace hsa := hsa.blkL k9c hg9 (by omega)
      replace heS := heS.grw hg9 (by intro g hg; injection hg with hg; omega)
      replace hrow' := hrow'.kept hg9 (.inr (own_blk_ne hrow' k9c (by decide)))
      replace hels' := fun b hb => (hels' b hb).kept hg9 (.inr (own_blk_ne (hels' b hb) k9c (by decide)))
      refine D.va 7 rfl (by kernel_rfl) (fun _ _ _ h => h) rfl (fun w' hw => X.assign (by conv => lhs; whnf)) hS3 ?_
      refine D.va 8 rfl (by kernel_rfl) (fun _ _ _ h => h) rfl (fun w' hw => X.assign (by conv => lhs; whnf)) hS3 ?_
      refine D.done (by kernel_rfl) ?_
      refine J.ret ?_
      refine finCCTT rfl (run_cell k8d Tryd.underlying33 rfl (by kernel_rfl)) rfl (run_cell k9d Tryd.underlying42 rfl (by kernel_rfl)) ?_
      refine ⟨s, R6, Ao, co, bs, rfl, hsa, aR, M.ab, ?_, by rw [← hO, eR], hrow'.mono z7, fun b hb => (hels' b hb).mono z7, heS, M.fr_, M.cf⟩
      rw [sR, qsm, qtm]
      unfold openL
      rw [← hO, eU]
end Go.Proofs.YtjdimgigbgafbaaDoor
namespace Go.Proofs.YtjdimgigbgafbaaDoor
set_option maxRecDepth 100000
open Byts Seal Fram
set_option linter.unusedVariables false
namespace Lo
def frs (rs : List (List Int)) : List Int := rs.flatMap (frm smZ)
theorem frs_nil : frs [] = [] := rfl
theorem frs_cons (b : List Int) (rs : List (List Int)) : frs (b :: rs) = frm smZ b ++ frs rs := by simp [frs]
theorem frs_append (a b : List (List Int)) : frs (a ++ b) = frs a ++ frs b := by simp [frs]
theorem frs_snoc (a : List (List Int)) (b : List Int) : frs (a ++ [b]) = frs a ++ frm smZ b := by simp [frs]
theorem frm_len (b : List Int) : (frm smZ b).length = 8 + b.length := frm_length smZ (fun _ => rfl) b
structure Cuts (zs : List Int) (rs : List (List Int)) (t : List Int) : Prop where
  e : zs = frs rs ++ t
  s : ∀ b ∈ rs, b.length ≤ 60000
  d : gE smZ t ≠ 0
theorem allF_shift : ∀ (n : Nat) (zs : List Int) (p : Nat), zs.length - p ≤ n → allF zs p = ((allF (zs.drop p) 0).1, p + (allF (zs.drop p) 0).2.1, (allF (zs.drop p) 0).2.2)
  | 0, zs, p, h => by
    rw [allF_end (by omega), allF_end (zs := zs.drop p) (by rw [List.length_drop]; omega)]
    rfl
  | n + 1, zs, p, h => by
    by_cases hp : p < zs.length
    · by_cases he : gE smZ (zs.drop p) = 0
      · have hs : 1 ≤ gStep (zs.drop p) := by unfold gStep; omega
        have hl : 0 < (zs.drop p).length := by rw [List.length_drop]; omega
        rw [allF_ok hp he, allF_ok (zs := zs.drop p) (p := 0) hl (by rw [List.drop_zero]; exact he), List.drop_zero]
        rw [allF_shift n zs (p + gStep (zs.drop p)) (by omega), Nat.zero_add, allF_shift n (zs.drop p) (gStep (zs.drop p)) (by rw [List.length_drop]; omega)]
        rw [List.drop_drop]
        simp only [Nat.add_assoc]
      · have hl : 0 < (zs.drop p).length := by rw [List.length_drop]; omega
        rw [allF_bad hp he, allF_bad (zs := zs.drop p) (p := 0) hl (by rw [List.drop_zero]; exact he), List.drop_zero]
        rfl
    · rw [allF_end (by omega), allF_end (zs := zs.drop p) (by rw [List.length_drop]; omega)]
      rfl
theorem allF_frm (b t : List Int) (hb : b.length ≤ 60000) : allF (frm smZ b ++ t) 0 = (b :: (allF t 0).1, 8 + b.length + (allF t 0).2.1, (allF t 0).2.2) := by
  have h0 := gE_frm smZ (fun _ => rfl) b t hb
  have h1 := gB_frm smZ (fun _ => rfl) b t hb
  have hlen := frm_len b
  have hs : gStep (frm smZ b ++ t) = 8 + b.length := by unfold gStep; rw [h1.2]; omega
  have hd : (frm smZ b ++ t).drop (8 + b.length) = t := by rw [← hlen, List.drop_left]
  rw [allF_ok (by rw [List.length_append]; omega) (by rw [List.drop_zero]; exact h0.2), List.drop_zero, h1.1, hs, allF_shift _ _ _ (Nat.le_refl _), Nat.zero_add, hd]
theorem allF_dead {t : List Int} (h : gE smZ t ≠ 0) : (allF t 0).1 = [] ∧ (allF t 0).2.1 = 0 := by
  by_cases hl : 0 < t.length
  · rw [allF_bad hl (by rw [List.drop_zero]; exact h)]
    exact ⟨rfl, rfl⟩
  · rw [allF_end (by omega)]
    exact ⟨rfl, rfl⟩
theorem allF_frs (t : List Int) : ∀ (rs : List (List Int)), (∀ b ∈ rs, b.length ≤ 60000) → (allF (frs rs ++ t) 0).1 = rs ++ (allF t 0).1 ∧ (allF (frs rs ++ t) 0).2.1 = (frs rs).length + (allF t 0).2.1
  | [], _ => by rw [frs_nil, List.nil_append]; exact ⟨rfl, (Nat.zero_add _).symm⟩
  | b :: rs, h => by
    have ih := allF_frs t rs (fun x hx => h x (List.mem_cons_of_mem _ hx))
    rw [frs_cons, List.append_assoc, allF_frm b _ (h b List.mem_cons_self)]
    refine ⟨?_, ?_⟩
    · show b :: (allF (frs rs ++ t) 0).1 = _
      rw [ih.1]
      rfl
    · show 8 + b.length + (allF (frs rs ++ t) 0).2.1 = _
      rw [ih.2, List.length_append, frm_len]
      omega
theorem Cuts.rec_ {zs t : List Int} {rs : List (List Int)} (h : Cuts zs rs t) : recs zs = rs ∧ used zs = (frs rs).length := by
  have h1 := allF_frs t rs h.s
  have h2 := allF_dead h.d
  unfold recs used
  rw [h.e, h1.1, h1.2, h2.1, h2.2, List.append_nil]
  exact ⟨rfl, rfl⟩
theorem Cuts.take {zs t : List Int} {rs : List (List Int)} (h : Cuts zs rs t) : zs.take (used zs) = frs rs := by
  rw [h.rec_.2, h.e, List.take_left]
theorem getD_left {a b : List Int} {i : Nat} (h : i < a.length) : (a ++ b).getD i 0 = a.getD i 0 := by
  rw [List.getD, List.getD, List.getElem?_append_left h]
theorem frs_pre {a b : List (List Int)} (h : a <+: b) : frs a <+: frs b := by
  obtain ⟨c, rfl⟩ := h
  exact ⟨frs c, (frs_append a c).symm⟩
end Lo
end Go.Proofs.YtjdimgigbgafbaaDoor
namespace Go.Proofs.YtjdimgigbgafbaaDoor
set_option maxRecDepth 100000
open Byts Seal Fram
set_option linter.unusedVariables false
namespace Lo
def opK (K : Nat → List Int) (ep : Int) : Nat → Os
  | 0 => ⟨1, true, [], []⟩
  | i + 1 => opStep ep i (K i) (opK K ep i)
theorem opK_same {K K' : Nat → List Int} {ep : Int} : ∀ {n : Nat}, (∀ j < n, K' j = K j) → opK K' ep n = opK K ep n
  | 0, _ => rfl
  | n + 1, h => by
    show opStep ep n (K' n) (opK K' ep n) = opStep ep n (K n) (opK K ep n)
    rw [h n (by omega), opK_same (fun j hj => h j (by omega))]
section
variable {K : Nat → List Int} {ep : Int} {n : Nat}
theorem opK_ok : ∀ {n : Nat}, (∀ j < n, Bytes (K j)) → OsOk (opK K ep n) n
  | 0, _ => OsOk.zero
  | n + 1, h => (opK_ok (fun j hj => h j (by omega))).step ep (h n (by omega))
theorem opStep_yes {i : Nat} {zs : List Int} {o : Os} (h : (o.ch && okP zs ep && fol o i zs) = true) : (opStep ep i zs o).ch = true ∧ (opStep ep i zs o).tm = o.tm ++ [sB smZ zs] ∧ (opStep ep i zs o).sm = o.sm ++ pBy zs := by
  unfold opStep
  rw [if_pos h]
  exact ⟨rfl, rfl, rfl⟩
theorem opStep_no {i : Nat} {zs : List Int} {o : Os} (h : ¬ (o.ch && okP zs ep && fol o i zs) = true) : (opStep ep i zs o).ch = false ∧ (opStep ep i zs o).tm = o.tm ∧ (opStep ep i zs o).sm = o.sm := by
  unfold opStep
  rw [if_neg h]
  exact ⟨rfl, rfl, rfl⟩
theorem opStep_ch {i : Nat} {zs : List Int} {o : Os} : (opStep ep i zs o).ch = true ↔ (o.ch && okP zs ep && fol o i zs) = true := by
  by_cases h : (o.ch && okP zs ep && fol o i zs) = true
  · exact ⟨fun _ => h, fun _ => (opStep_yes h).1⟩
  · refine ⟨fun hc => ?_, fun hc => absurd hc h⟩
    rw [(opStep_no h).1] at hc
    cases hc
theorem step3 {o : Os} {zs : List Int} {i : Nat} : (o.ch && okP zs ep && fol o i zs) = true ↔ o.ch = true ∧ okP zs ep = true ∧ fol o i zs = true := by
  simp only [Bool.and_eq_true]
  constructor
  · rintro ⟨⟨a, b⟩, c⟩; exact ⟨a, b, c⟩
  · rintro ⟨a, b, c⟩; exact ⟨⟨a, b⟩, c⟩
theorem opK_stuck {i : Nat} (h : (opK K ep i).ch = false ∨ (opK K ep i).sm.length ≠ i * 991) : ∀ d, (opK K ep (i + d)).sm = (opK K ep i).sm ∧ (opK K ep (i + d)).tm = (opK K ep i).tm ∧ (0 < d → (opK K ep (i + d)).ch = false)
  | 0 => ⟨rfl, rfl, fun h => absurd h (by omega)⟩
  | d + 1 => by
    obtain ⟨h1, h2, h3⟩ := opK_stuck h d
    have hno : ¬ ((opK K ep (i + d)).ch && okP (K (i + d)) ep && fol (opK K ep (i + d)) (i + d) (K (i + d))) = true := by
      rw [step3]
      rintro ⟨a, b, c⟩
      by_cases hd : 0 < d
      · rw [h3 hd] at a
        cases a
      · obtain rfl : d = 0 := by omega
        rcases h with h | h
        · rw [Nat.add_zero, h] at a
          cases a
        · exact h (fol_len c)
    obtain ⟨k1, k2, k3⟩ := opStep_no hno
    exact ⟨k3.trans h1, k2.trans h2, fun _ => k1⟩
theorem opK_pre : ∀ {i : Nat} (d : Nat), (opK K ep i).sm <+: (opK K ep (i + d)).sm ∧ (opK K ep i).tm <+: (opK K ep (i + d)).tm
  | i, 0 => ⟨List.prefix_refl _, List.prefix_refl _⟩
  | i, d + 1 => by
    obtain ⟨h1, h2⟩ := opK_pre (i := i) d
    by_cases hc : ((opK K ep (i + d)).ch && okP (K (i + d)) ep && fol (opK K ep (i + d)) (i + d) (K (i + d))) = true
    · obtain ⟨_, k2, k3⟩ := opStep_yes hc
      refine ⟨h1.trans ?_, h2.trans ?_⟩
      · show _ <+: (opStep ep (i + d) (K (i + d)) (opK K ep (i + d))).sm
        rw [k3]
        exact List.prefix_append _ _
      · show _ <+: (opStep ep (i + d) (K (i + d)) (opK K ep (i + d))).tm
        rw [k2]
        exact List.prefix_append _ _
    · obtain ⟨_, k2, k3⟩ := opStep_no hc
      refine ⟨?_, ?_⟩
      · show _ <+: (opStep ep (i + d) (K (i + d)) (opK K ep (i + d))).sm
        rw [k3]; exact h1
      · show _ <+: (opStep ep (i + d) (K (i + d)) (opK K ep (i + d))).tm
        rw [k2]; exact h2
theorem opK_pre' {i : Nat} (h : i ≤ n) : (opK K ep i).sm <+: (opK K ep n).sm ∧ (opK K ep i).tm <+: (opK K ep n).tm := by
  have := opK_pre (K := K) (ep := ep) (i := i) (n - i)
  rwa [show i + (n - i) = n by omega] at this
theorem opK_whole (hb : ∀ j < n, Bytes (K j)) {i : Nat} (hi : i ≤ n) (h : i * 991 ≤ (opK K ep n).sm.length) : (opK K ep i).ch = true ∧ (opK K ep i).sm.length = i * 991 ∧ (opK K ep i).tm.length = i := by
  have ho := opK_ok (K := K) (ep := ep) (n := i) (fun j hj => hb j (by omega))
  have hlen : (opK K ep i).sm.length = i * 991 := by
    apply Decidable.byContradiction
    intro hn
    have h1 := (opK_stuck (K := K) (ep := ep) (i := i) (.inr hn) (n - i)).1
    rw [show i + (n - i) = n by omega] at h1
    have h2 := ho.sl
    rw [h1] at h
    omega
  have hch : (opK K ep i).ch = true := by
    rcases i with _ | i
    · rfl
    · cases hc : (opK K ep (i + 1)).ch
      · have hno : ¬ ((opK K ep i).ch && okP (K i) ep && fol (opK K ep i) i (K i)) = true := by
          rw [← opStep_ch (ep := ep)]
          show ¬ (opK K ep (i + 1)).ch = true
          rw [hc]
          decide
        have h2 : (opK K ep (i + 1)).sm = (opK K ep i).sm := (opStep_no hno).2.2
        have h3 := (opK_ok (K := K) (ep := ep) (n := i) (fun j hj => hb j (by omega))).sl
        rw [h2] at hlen
        omega
      · rfl
  exact ⟨hch, hlen, ho.c1 hch⟩
theorem opK_take (hb : ∀ j < n, Bytes (K j)) {i : Nat} (hi : i ≤ n) (h : i * 991 ≤ (opK K ep n).sm.length) : (opK K ep i).sm = (opK K ep n).sm.take (i * 991) ∧ (opK K ep i).tm = (opK K ep n).tm.take i := by
  obtain ⟨_, h2, h3⟩ := opK_whole hb hi h
  obtain ⟨p1, p2⟩ := opK_pre' (K := K) (ep := ep) hi
  exact ⟨by rw [← h2]; exact (List.prefix_iff_eq_take.1 p1), by
    have := List.prefix_iff_eq_take.1 p2
    rwa [h3] at this⟩
end
def prevT (o : Os) (j : Nat) : Int := if j = 0 then 0 else o.tm.getD (j - 1) 0
theorem fol_iff {o : Os} {i : Nat} {zs : List Int} : fol o i zs = true ↔ pAt zs = i ∧ o.sm.length = i * 991 ∧ pPrev zs = prevT o i := by
  unfold fol prevT
  by_cases h1 : pAt zs ≠ i ∨ o.sm.length ≠ i * 991
  · rw [if_pos h1]
    constructor
    · intro h; cases h
    · rintro ⟨a, b, _⟩
      rcases h1 with h1 | h1
      · exact absurd a h1
      · exact absurd b h1
  · rw [if_neg h1]
    by_cases h0 : i = 0
    · rw [if_pos h0, if_pos h0, decide_eq_true_iff]
      constructor
      · intro h; exact ⟨by omega, by omega, h⟩
      · rintro ⟨_, _, h⟩; exact h
    · rw [if_neg h0, if_neg h0, decide_eq_true_iff]
      constructor
      · intro h; exact ⟨by omega, by omega, h⟩
      · rintro ⟨_, _, h⟩; exact h
structure Wrt (fr ct : Nat) (ep : Int) (K0 : Nat → List Int) (F : List Int) (n0 : Nat) (nx0 nx : Int) (j : Nat) (z : List Int) : Prop where
  lo : n0 / 991 ≤ j
  hi : j < ct
  by_ : Bytes z
  ok : okP z ep = true
  at_ : pAt z = j
  t0 : nx0 ≤ sB smZ z
  t1 : sB smZ z < nx
  pr : pPrev z < sB smZ z
  ch : ∃ n, pBy z = (F.drop (j * 991)).take n ∧ n0 < j * 991 + n ∧ j * 991 + n ≤ F.length ∧ n ≤ 991
  p0 : j = n0 / 991 → pPrev z = prevT (opK K0 ep j) j
  p1 : n0 / 991 < j → nx0 ≤ pPrev z
structure Bas (ct : Nat) (ep : Int) (K0 : Nat → List Int) (r0 : List (List Int)) (nx0 : Int) : Prop where
  by_ : ∀ j < ct, Bytes (K0 j)
  cut : ∃ t, Cuts (opK K0 ep ct).sm r0 t
  lt : ∀ j < ct, okP (K0 j) ep = true → pPrev (K0 j) < sB smZ (K0 j) ∧ sB smZ (K0 j) < nx0
  n1 : 1 ≤ nx0
theorem take_add {F : List Int} {a n : Nat} : F.take a ++ (F.drop a).take n = F.take (a + n) := by
  rw [List.take_add]
end Lo
end Go.Proofs.YtjdimgigbgafbaaDoor
namespace Go.Proofs.YtjdimgigbgafbaaDoor
set_option maxRecDepth 100000
open Byts Seal Fram
set_option linter.unusedVariables false
namespace Lo
def kp (s : Ds) (fr : Nat) : Nat → List Int := fun j => s.kept.getD (fr + j) []
def nw (s : Ds) (fr : Nat) : Nat → List Int := fun j => s.now (fr + j)
theorem nowI_cases (ks : List (List Int)) (ps : List (Nat × List Int)) (a : Nat) : ∀ i, i ≤ ps.length → nowI ks [] ps a i = ks.getD a [] ∨ ∃ x ∈ ps, x.1 = a ∧ nowI ks [] ps a i = x.2
  | 0, _ => .inl rfl
  | i + 1, hi => by
    have hp : ps.getD i (0, []) ∈ ps := by
      have : ps.getD i (0, []) = ps[i] := by simp [List.getD, show i < ps.length by omega]
      rw [this]
      exact List.getElem_mem _
    unfold nowI
    split
    · rename_i h
      exact .inr ⟨_, hp, h, rfl⟩
    · exact nowI_cases ks ps a i (by omega)
theorem nowI_app (ks : List (List Int)) (ps : List (Nat × List Int)) (y : Nat × List Int) (a : Nat) : ∀ i, i ≤ ps.length → nowI ks [] (ps ++ [y]) a i = nowI ks [] ps a i
  | 0, _ => rfl
  | i + 1, hi => by
    have e : (ps ++ [y]).getD i (0, []) = ps.getD i (0, []) := by rw [List.getD, List.getD, List.getElem?_append_left (by omega)]
    unfold nowI
    rw [e, nowI_app ks ps y a i (by omega)]
theorem now_push {s s' : Ds} {b : Nat} {z : List Int} (h1 : s'.kept = s.kept) (h2 : s'.pend = s.pend ++ [(b, z)]) (a : Nat) : s'.now a = if b = a then z else s.now a := by
  unfold Ds.now
  rw [h1, h2, List.length_append]
  show nowI s.kept [] (s.pend ++ [(b, z)]) a (s.pend.length + 1) = _
  have e : (s.pend ++ [(b, z)]).getD s.pend.length (0, []) = (b, z) := by rw [List.getD, List.getElem?_append_right (Nat.le_refl _), Nat.sub_self]; rfl
  rw [show nowI s.kept [] (s.pend ++ [(b, z)]) a (s.pend.length + 1) = if ((s.pend ++ [(b, z)]).getD s.pend.length (0, [])).1 = a then ((s.pend ++ [(b, z)]).getD s.pend.length (0, [])).2 else nowI s.kept [] (s.pend ++ [(b, z)]) a s.pend.length from rfl, e, nowI_app _ _ _ _ _ (Nat.le_refl _)]
structure Inv (fr ct : Nat) (ep : Int) (s : Ds) (l : Ls) (r0 rs : List (List Int)) (nx0 : Int) : Prop where
  e1 : l.fr = fr
  e2 : l.ct = ct
  e3 : l.ep = ep
  kl : fr + ct ≤ s.kept.length
  bas : Bas ct ep (kp s fr) r0 nx0
  sm : l.sm = frs rs
  pre : r0 <+: rs
  sz : ∀ b ∈ rs, b.length ≤ 60000
  pd : ∀ x ∈ s.pend, ∃ j, x.1 = fr + j ∧ Wrt fr ct ep (kp s fr) (frs rs) (frs r0).length nx0 l.nx j x.2
  nx : nx0 ≤ l.nx
  tm : ∀ t ∈ l.tm, 0 ≤ t ∧ t < l.nx
  live : l.bad = 0 → l.sm <+: (opK (nw s fr) ep ct).sm ∧ l.tm = (opK (nw s fr) ep ct).tm.take ((l.sm.length + 990) / 991) ∧ ((frs r0).length < l.sm.length → ∀ i, (frs r0).length / 991 ≤ i → i < l.tm.length → nx0 ≤ l.tm.getD i 0)
  bd : l.bad = 0 ∨ l.bad = 14
section
variable {fr ct : Nat} {ep : Int} {s s' : Ds} {l : Ls} {r0 rs : List (List Int)} {nx0 : Int}
theorem nw_same (h1 : s'.kept = s.kept) (h2 : s'.pend = s.pend) : nw s' fr = nw s fr := by
  funext j
  unfold nw Ds.now
  rw [h1, h2]
theorem kp_same (h1 : s'.kept = s.kept) : kp s' fr = kp s fr := by
  funext j
  unfold kp
  rw [h1]
theorem Inv.same (h : Inv fr ct ep s l r0 rs nx0) (h1 : s'.kept = s.kept) (h2 : s'.pend = s.pend) : Inv fr ct ep s' l r0 rs nx0 := by
  refine ⟨h.e1, h.e2, h.e3, by rw [h1]; exact h.kl, by rw [kp_same h1]; exact h.bas, h.sm, h.pre, h.sz, by rw [kp_same h1, h2]; exact h.pd, h.nx, h.tm, by rw [nw_same h1 h2]; exact h.live, h.bd⟩
theorem Inv.nw_or (h : Inv fr ct ep s l r0 rs nx0) (j : Nat) : nw s fr j = kp s fr j ∨ Wrt fr ct ep (kp s fr) (frs rs) (frs r0).length nx0 l.nx j (nw s fr j) := by
  rcases nowI_cases s.kept s.pend (fr + j) s.pend.length (Nat.le_refl _) with h1 | ⟨x, hx, h1, h2⟩
  · exact .inl h1
  · obtain ⟨j', h3, h4⟩ := h.pd x hx
    obtain rfl : j' = j := by omega
    right
    show Wrt fr ct ep (kp s fr) (frs rs) (frs r0).length nx0 l.nx j' (nowI s.kept [] s.pend (fr + j') s.pend.length)
    rw [h2]
    exact h4
theorem Inv.sick (h : Inv fr ct ep s l r0 rs nx0) : Inv fr ct ep s { l with bad := 14 } r0 rs nx0 :=
  ⟨h.e1, h.e2, h.e3, h.kl, h.bas, h.sm, h.pre, h.sz, h.pd, h.nx, h.tm, fun hb => absurd (show (14 : Int) = 0 from hb) (by decide), .inr rfl⟩
theorem do_1 (s : Ds) (a : Nat) (b : List Int) (ha : a < s.kept.length) (hb : b.length = 1024) : ((s.do_ ⟨1, (a : Int), b, true, []⟩).2.2 = 14 ∧ (s.do_ ⟨1, (a : Int), b, true, []⟩).1.kept = s.kept ∧ (s.do_ ⟨1, (a : Int), b, true, []⟩).1.pend = s.pend) ∨ ((s.do_ ⟨1, (a : Int), b, true, []⟩).2.2 = 0 ∧ (s.do_ ⟨1, (a : Int), b, true, []⟩).1.kept = s.kept ∧ (s.do_ ⟨1, (a : Int), b, true, []⟩).1.pend = s.pend ++ [(a, b)]) := by
  unfold Ds.do_
  rw [if_neg (show ¬ (1 : Int) = 3 by decide), if_neg (show ¬ (1 : Int) = 4 by decide)]
  split
  · exact .inl ⟨rfl, rfl, rfl⟩
  · rw [if_neg, if_neg (show ¬ (1 : Int) = 0 by decide), if_neg]
    · split
      · exact .inl ⟨rfl, rfl, rfl⟩
      · rw [if_pos (show (1 : Int) = 1 from rfl)]
        refine .inr ⟨rfl, rfl, ?_⟩
        rfl
    · rintro ⟨_, h⟩
      exact h hb
    · rintro ⟨_, h | h⟩
      · have h : (a : Int) < 0 := h
        omega
      · have h : (s.kept.length : Int) ≤ (a : Int) := h
        omega
end
end Lo
end Go.Proofs.YtjdimgigbgafbaaDoor
namespace Go.Proofs.YtjdimgigbgafbaaDoor
set_option maxRecDepth 100000
open Byts Seal Fram
set_option linter.unusedVariables false
namespace Lo
theorem Wrt.grow {fr ct : Nat} {ep : Int} {K0 : Nat → List Int} {F : List Int} {n0 : Nat} {nx0 nx nx' : Int} {j : Nat} {z : List Int} (W : Wrt fr ct ep K0 F n0 nx0 nx j z) (x : List Int) (hn : nx ≤ nx') : Wrt fr ct ep K0 (F ++ x) n0 nx0 nx' j z := by
  obtain ⟨n, h1, h2, h3, h4⟩ := W.ch
  have t1 := W.t1
  refine ⟨W.lo, W.hi, W.by_, W.ok, W.at_, W.t0, by omega, W.pr, ⟨n, ?_, h2, by rw [List.length_append]; omega, h4⟩, W.p0, W.p1⟩
  rw [h1, List.drop_append_of_le_length (by omega), List.take_append_of_le_length (by rw [List.length_drop]; omega)]
theorem Wrt.later {fr ct : Nat} {ep : Int} {K0 : Nat → List Int} {F : List Int} {n0 : Nat} {nx0 nx nx' : Int} {j : Nat} {z : List Int} (W : Wrt fr ct ep K0 F n0 nx0 nx j z) (hn : nx ≤ nx') : Wrt fr ct ep K0 F n0 nx0 nx' j z := by
  have t1 := W.t1
  exact ⟨W.lo, W.hi, W.by_, W.ok, W.at_, W.t0, by omega, W.pr, W.ch, W.p0, W.p1⟩
structure Mid (fr ct : Nat) (ep : Int) (s : Ds) (l : Ls) (r0 rs : List (List Int)) (nx0 : Int) (st j : Nat) : Prop where
  e1 : l.fr = fr
  e2 : l.ct = ct
  e3 : l.ep = ep
  kl : fr + ct ≤ s.kept.length
  bas : Bas ct ep (kp s fr) r0 nx0
  sm : l.sm = frs rs
  sb : Bytes l.sm
  pre : r0 <+: rs
  sz : ∀ b ∈ rs, b.length ≤ 60000
  pd : ∀ x ∈ s.pend, ∃ j, x.1 = fr + j ∧ Wrt fr ct ep (kp s fr) (frs rs) (frs r0).length nx0 l.nx j x.2
  nx : nx0 ≤ l.nx
  tm : ∀ t ∈ l.tm, 0 ≤ t ∧ t < l.nx
  bad : l.bad = 0
  ch : (opK (nw s fr) ep j).ch = true
  smj : (opK (nw s fr) ep j).sm = (frs rs).take (j * 991)
  tmj : (opK (nw s fr) ep j).tm = l.tm.take j
  tl : (opK (nw s fr) ep j).tm.length = j
  tl2 : st < j → l.tm.length = j
  new : ∀ i, (frs r0).length / 991 ≤ i → i < j → nx0 ≤ l.tm.getD i 0
section
variable {fr ct : Nat} {ep : Int} {s s' : Ds} {l : Ls} {r0 rs : List (List Int)} {nx0 : Int} {st j : Nat}
theorem Mid.sick (h : Mid fr ct ep s l r0 rs nx0 st j) (h1 : s'.kept = s.kept) (h2 : s'.pend = s.pend) : Inv fr ct ep s' { l with bad := 14 } r0 rs nx0 :=
  Inv.same (s := s) ⟨h.e1, h.e2, h.e3, h.kl, h.bas, h.sm, h.pre, h.sz, h.pd, h.nx, h.tm, fun hb => absurd (show (14 : Int) = 0 from hb) (by decide), .inr rfl⟩ h1 h2
theorem getD_take {l : List Int} {i j : Nat} (h : i < j) : (l.take j).getD i 0 = l.getD i 0 := by
  rw [List.getD, List.getD, List.getElem?_take, if_pos h]
theorem Mid.step (h : Mid fr ct ep s l r0 rs nx0 st j) (hep : 0 ≤ ep ∧ ep ≤ 18446744073709551615) (hct : ct ≤ 65000) (hj : j < ct) (hst : st ≤ j) (hlt : j * 991 < (frs rs).length) (hk : (frs r0).length / 991 ≤ j) (h0 : (frs r0).length < (frs rs).length) (h1 : (frs r0).length < (j + 1) * 991) (hnx : l.nx < 4611686018427387904) :
    ((wrL s l j).2.2 = 0 ∧ Mid fr ct ep (wrL s l j).1 (wrL s l j).2.1 r0 rs nx0 st (j + 1) ∧ (wrL s l j).2.1.nx = l.nx + 1) ∨ ((wrL s l j).2.2 = 14 ∧ Inv fr ct ep (wrL s l j).1 { (wrL s l j).2.1 with bad := 14 } r0 rs nx0) := by
  have hn1 := h.bas.n1
  have hn2 := h.nx
  have htl : j ≤ l.tm.length := by
    have h2 := h.tl
    rw [h.tmj, List.length_take] at h2
    omega
  have hp : 0 ≤ prevL l j ∧ prevL l j < l.nx ∧ (0 < j → prevL l j ∈ l.tm) := by
    unfold prevL
    by_cases hj0 : j = 0
    · rw [if_pos hj0]; exact ⟨Int.le_refl _, by omega, fun h => by omega⟩
    · rw [if_neg hj0]
      have hm : l.tm.getD (j - 1) 0 ∈ l.tm := by
        rw [List.getD, List.getElem?_eq_getElem (by omega)]
        exact List.getElem_mem _
      exact ⟨(h.tm _ hm).1, (h.tm _ hm).2, fun _ => hm⟩
  have hpT : prevL l j = prevT (opK (nw s fr) ep j) j := by
    unfold prevL prevT
    by_cases hj0 : j = 0
    · rw [if_pos hj0, if_pos hj0]
    · rw [if_neg hj0, if_neg hj0, h.tmj, getD_take (by omega)]
  have hcl : (chunk l j).length = min 991 ((frs rs).length - j * 991) := by unfold chunk; rw [List.length_take, List.length_drop, h.sm]
  obtain ⟨k1, k2, k3, k4, k5⟩ := okP_sec (ep := ep) (nx := l.nx) (i := j) (p := prevL l j) (ch := chunk l j) hep ⟨by omega, hnx⟩ (by omega) (by omega) (by omega) ⟨hp.1, by omega⟩
  have hbl : (shB j (prevL l j) (chunk l j)).length ≤ 1001 := by unfold shB; simp only [List.length_append, be_length]; omega
  have hzl : (secL l.ep l.nx (shB j (prevL l j) (chunk l j))).length = 1024 := secL_len _ _ _ hbl
  obtain ⟨z, hz⟩ : ∃ z, z = secL l.ep l.nx (shB j (prevL l j) (chunk l j)) := ⟨_, rfl⟩
  have hzb : Bytes z := by
    rw [hz]
    refine sec_bytes (shB_bytes ?_)
    unfold chunk
    exact fun y hy => h.sb y (List.mem_of_mem_drop (List.mem_of_mem_take hy))
  rw [← h.e3, ← hz] at k1 k2 k3 k4 k5
  rw [h.e3] at k1
  have hkl := h.kl
  have hD := do_1 s (fr + j) z (by omega) (by rw [hz]; exact hzl)
  have eW : wrL s l j = (let r := s.do_ ⟨1, ((fr + j : Nat) : Int), z, true, []⟩; (r.1, if r.2.2 = 0 then { l with tm := l.tm.take j ++ [l.nx], nx := l.nx + 1 } else l, r.2.2)) := by
    unfold wrL
    rw [← hz, h.e1]
  rw [eW]
  dsimp only
  rcases hD with ⟨d1, d2, d3⟩ | ⟨d1, d2, d3⟩
  · rw [d1, if_neg (by decide)]
    exact .inr ⟨rfl, h.sick d2 d3⟩
  · rw [d1, if_pos rfl]
    refine .inl ⟨rfl, ?_, rfl⟩
    obtain ⟨s1, hs1⟩ : ∃ s1, s1 = (s.do_ ⟨1, ((fr + j : Nat) : Int), z, true, []⟩).1 := ⟨_, rfl⟩
    rw [← hs1] at d2 d3 ⊢
    have en : ∀ i, nw s1 fr i = if i = j then z else nw s fr i := fun i => by
      show s1.now (fr + i) = _
      rw [now_push d2 d3]
      by_cases hi : i = j
      · rw [if_pos (by omega), if_pos hi]
      · rw [if_neg (by omega), if_neg hi]
        rfl
    have ej : opK (nw s1 fr) ep j = opK (nw s fr) ep j := opK_same fun i hi => by rw [en, if_neg (by omega)]
    have ez : nw s1 fr j = z := by rw [en, if_pos rfl]
    have hsl : (opK (nw s fr) ep j).sm.length = j * 991 := by rw [h.smj, List.length_take]; omega
    have hc : ((opK (nw s1 fr) ep j).ch && okP (nw s1 fr j) ep && fol (opK (nw s1 fr) ep j) j (nw s1 fr j)) = true := by
      rw [step3, ej, ez, fol_iff]
      exact ⟨h.ch, k1, k3, hsl, by rw [k4, hpT]⟩
    obtain ⟨q1, q2, q3⟩ := opStep_yes hc
    have ekp : kp s1 fr = kp s fr := kp_same d2
    have W : Wrt fr ct ep (kp s fr) (frs rs) (frs r0).length nx0 (l.nx + 1) j z := by
      refine ⟨hk, hj, hzb, k1, k3, by rw [k2]; exact hn2, by rw [k2]; omega, by rw [k4, k2]; exact hp.2.1, ⟨min 991 ((frs rs).length - j * 991), ?_, by omega, by omega, by omega⟩, fun hjk => ?_, fun hjk => ?_⟩
      · rw [k5]
        unfold chunk
        rw [h.sm, List.take_eq_take_min, List.length_drop]
      · rw [k4, hpT]
        have : opK (nw s fr) ep j = opK (kp s fr) ep j := opK_same fun i hi => by
          rcases nowI_cases s.kept s.pend (fr + i) s.pend.length (Nat.le_refl _) with c1 | ⟨x, hx, c1, c2⟩
          · exact c1
          · obtain ⟨j', c3, c4⟩ := h.pd x hx
            have := c4.lo
            omega
        rw [this]
      · rw [k4]
        unfold prevL
        rw [if_neg (by omega)]
        exact h.new (j - 1) (by omega) (by omega)
    have htk : (l.tm.take j).length = j := by rw [List.length_take]; omega
    refine ⟨h.e1, h.e2, h.e3, by rw [d2]; exact h.kl, by rw [ekp]; exact h.bas, h.sm, h.sb, h.pre, h.sz, ?_, by show nx0 ≤ l.nx + 1; omega, ?_, h.bad, ?_, ?_, ?_, ?_, ?_, ?_⟩
    · rw [ekp, d3]
      intro x hx
      rcases List.mem_append.1 hx with hx | hx
      · obtain ⟨j', c1, c2⟩ := h.pd x hx
        exact ⟨j', c1, c2.later (by show l.nx ≤ l.nx + 1; omega)⟩
      · obtain rfl : x = (fr + j, z) := by simpa using hx
        exact ⟨j, rfl, W⟩
    · intro t ht
      show 0 ≤ t ∧ t < l.nx + 1
      rcases List.mem_append.1 ht with ht | ht
      · have := h.tm t (List.mem_of_mem_take ht)
        omega
      · obtain rfl : t = l.nx := by simpa using ht
        omega
    · exact q1
    · show (opStep ep j (nw s1 fr j) (opK (nw s1 fr) ep j)).sm = _
      rw [q3, ej, ez, h.smj, k5]
      unfold chunk
      rw [h.sm, take_add, Nat.add_mul, Nat.one_mul]
    · show (opStep ep j (nw s1 fr j) (opK (nw s1 fr) ep j)).tm = (l.tm.take j ++ [l.nx]).take (j + 1)
      rw [q2, ej, ez, h.tmj, k2, List.take_of_length_le (l := l.tm.take j ++ [l.nx]) (by rw [List.length_append, htk]; exact Nat.le_refl _)]
    · show (opStep ep j (nw s1 fr j) (opK (nw s1 fr) ep j)).tm.length = j + 1
      rw [q2, ej, List.length_append, h.tl]
      rfl
    · intro _
      show (l.tm.take j ++ [l.nx]).length = j + 1
      rw [List.length_append, htk]
      rfl
    · intro i hi hij
      show nx0 ≤ (l.tm.take j ++ [l.nx]).getD i 0
      by_cases hi2 : i = j
      · rw [List.getD, List.getElem?_append_right (by omega), htk, hi2, Nat.sub_self]
        exact hn2
      · rw [getD_left (by omega), getD_take (by omega)]
        exact h.new i hi (by omega)
theorem Mid.all (hep : 0 ≤ ep ∧ ep ≤ 18446744073709551615) (hct : ct ≤ 65000) (h0 : (frs r0).length < (frs rs).length) : ∀ (k : Nat) (s : Ds) (l : Ls) (j : Nat), Mid fr ct ep s l r0 rs nx0 st j → j + k ≤ ct → st ≤ j → (0 < k → (j + k - 1) * 991 < (frs rs).length) → (frs r0).length / 991 ≤ j → (0 < k → l.nx + (k : Int) - 1 < 4611686018427387904) →
    ((wrN s l j k).2.2 = 0 ∧ Mid fr ct ep (wrN s l j k).1 (wrN s l j k).2.1 r0 rs nx0 st (j + k)) ∨ ((wrN s l j k).2.2 = 14 ∧ Inv fr ct ep (wrN s l j k).1 (wrN s l j k).2.1 r0 rs nx0 ∧ (wrN s l j k).2.1.bad = 14)
  | 0, s, l, j, h, _, _, _, _, _ => .inl ⟨rfl, h⟩
  | k + 1, s, l, j, h, h1, hst, h2, h3, h4 => by
    have h2' := h2 (by omega)
    have h4' := h4 (by omega)
    have hS := h.step hep hct (by omega) hst (by have : j * 991 ≤ (j + (k + 1) - 1) * 991 := Nat.mul_le_mul_right _ (by omega); omega) h3 h0 (by omega) (by omega)
    have eN : wrN s l j (k + 1) = if (wrL s l j).2.2 = 0 then wrN (wrL s l j).1 (wrL s l j).2.1 (j + 1) k else ((wrL s l j).1, { (wrL s l j).2.1 with bad := (wrL s l j).2.2 }, (wrL s l j).2.2) := rfl
    rw [eN]
    rcases hS with ⟨k1, k2, k3⟩ | ⟨k1, k2⟩
    · rw [if_pos k1]
      have := Mid.all hep hct h0 k _ _ (j + 1) k2 (by omega) (by omega) (fun _ => by rw [show j + 1 + k - 1 = j + (k + 1) - 1 by omega]; exact h2') (by omega) (fun _ => by rw [k3]; omega)
      rwa [show j + 1 + k = j + (k + 1) by omega] at this
    · rw [if_neg (by rw [k1]; decide), k1]
      exact .inr ⟨rfl, k2, rfl⟩
theorem Inv.app (h : Inv fr ct ep s l r0 rs nx0) (hep : 0 ≤ ep ∧ ep ≤ 18446744073709551615) (hct : ct ≤ 65000) (hsb : Bytes l.sm) (b : List Int) (hb : Bytes b) :
    Inv fr ct ep (appL s l b).1 (appL s l b).2.1 r0 (if (appL s l b).2.2 = 0 ∨ ((appL s l b).2.2 = 14 ∧ l.bad = 0) then rs ++ [b] else rs) nx0 ∧ ((appL s l b).2.1.bad ≠ 0 ↔ l.bad ≠ 0 ∨ (appL s l b).2.2 = 14) := by
  obtain ⟨R, hR⟩ : ∃ R, R = appL s l b := ⟨_, rfl⟩
  rw [← hR]
  unfold appL at hR
  by_cases h0 : l.bad = 0
  · rw [if_neg (by omega)] at hR
    by_cases h6 : 60000 < b.length
    · rw [if_pos h6] at hR
      subst hR
      dsimp only
      rw [if_neg (by omega)]
      exact ⟨h, ⟨fun hh => absurd h0 hh, fun hh => hh.elim (fun q => absurd h0 q) (fun q => absurd q (by decide))⟩⟩
    · rw [if_neg h6] at hR
      dsimp only at hR
      have hfl := frm_len b
      rw [hfl] at hR
      by_cases hfull : l.ct * 991 < l.sm.length + (8 + b.length) ∨ 4611686018427387904 ≤ l.nx + (((l.sm.length + (8 + b.length) - 1) / 991 - l.sm.length / 991 : Nat) : Int)
      · rw [if_pos hfull] at hR
        subst hR
        dsimp only
        rw [if_neg (by omega)]
        exact ⟨h, ⟨fun hh => absurd h0 hh, fun hh => hh.elim (fun q => absurd h0 q) (fun q => absurd q (by decide))⟩⟩
      · rw [if_neg hfull] at hR
        obtain ⟨first, hfi⟩ : ∃ x, x = l.sm.length / 991 := ⟨_, rfl⟩
        obtain ⟨last, hla⟩ : ∃ x, x = (l.sm.length + (8 + b.length) - 1) / 991 := ⟨_, rfl⟩
        rw [← hfi, ← hla] at hfull hR
        have hf1 : ¬ l.ct * 991 < l.sm.length + (8 + b.length) := fun q => hfull (.inl q)
        have hf2 : ¬ 4611686018427387904 ≤ l.nx + ((last - first : Nat) : Int) := fun q => hfull (.inr q)
        have he2 := h.e2
        have hfl2 : first ≤ last := by omega
        have hlc : last < ct := by rw [he2] at hf1; omega
        have eF : frs (rs ++ [b]) = l.sm ++ frm smZ b := by rw [frs_snoc, h.sm]
        have lF : (frs (rs ++ [b])).length = l.sm.length + (8 + b.length) := by rw [eF, List.length_append, hfl]
        have l0 : (frs r0).length ≤ l.sm.length := by rw [h.sm]; exact (frs_pre h.pre).length_le
        obtain ⟨v1, v2, v3⟩ := h.live h0
        have nb : ∀ j < ct, Bytes (nw s fr j) := fun j hj => (h.nw_or j).elim (fun e => by rw [e]; exact h.bas.by_ j hj) (fun W => W.by_)
        have hw1 : first * 991 ≤ (opK (nw s fr) ep ct).sm.length := by have := v1.length_le; omega
        have hwh := opK_whole nb (i := first) (by omega) hw1
        have htk := opK_take nb (i := first) (by omega) hw1
        have hM : Mid fr ct ep s { l with sm := l.sm ++ frm smZ b } r0 (rs ++ [b]) nx0 first first := by
          refine ⟨h.e1, h.e2, h.e3, h.kl, h.bas, eF.symm, ?_, h.pre.trans (List.prefix_append _ _), ?_, ?_, h.nx, h.tm, h0, hwh.1, ?_, ?_, hwh.2.2, fun q => absurd q (Nat.lt_irrefl _), ?_⟩
          · intro z hz
            rcases List.mem_append.1 hz with hz | hz
            · exact hsb z hz
            · exact frm_bytes _ hb z hz
          · intro x hx
            rcases List.mem_append.1 hx with hx | hx
            · exact h.sz x hx
            · obtain rfl : x = b := by simpa using hx
              omega
          · intro x hx
            obtain ⟨j', c1, c2⟩ := h.pd x hx
            refine ⟨j', c1, ?_⟩
            rw [eF, h.sm]
            exact c2.grow _ (Int.le_refl _)
          · rw [htk.1, eF, List.take_append_of_le_length (by omega)]
            obtain ⟨y, hy⟩ := v1
            rw [← hy, List.take_append_of_le_length (by omega)]
          · rw [htk.2]
            show _ = l.tm.take first
            rw [v2, List.take_take, Nat.min_eq_left (by omega)]
          · intro i hi hif
            by_cases hlt : (frs r0).length < l.sm.length
            · refine v3 hlt i hi ?_
              have : (l.tm.take first).length = first := by rw [v2, List.take_take, Nat.min_eq_left (by omega), ← htk.2]; exact hwh.2.2
              rw [List.length_take] at this
              omega
            · omega
        have hA := Mid.all hep hct (by rw [lF]; omega) (last + 1 - first) s { l with sm := l.sm ++ frm smZ b } first hM (by omega) (Nat.le_refl _) (fun _ => by rw [lF, show first + (last + 1 - first) - 1 = last by omega]; omega) (by omega) (fun _ => by show l.nx + ((last + 1 - first : Nat) : Int) - 1 < _; omega)
        rw [show first + (last + 1 - first) = last + 1 by omega] at hA
        rw [← hR] at hA
        rcases hA with ⟨a1, a2⟩ | ⟨a1, a2, a3⟩
        · rw [if_pos (.inl a1)]
          refine ⟨⟨a2.e1, a2.e2, a2.e3, a2.kl, a2.bas, a2.sm, a2.pre, a2.sz, a2.pd, a2.nx, a2.tm, fun _ => ?_, .inl a2.bad⟩, ⟨fun q => absurd a2.bad q, fun q => q.elim (fun q => absurd h0 q) (fun q => by rw [a1] at q; cases q)⟩⟩
          have ea : (opK (nw R.1 fr) ep (last + 1)).sm = R.2.1.sm := by
            rw [a2.smj, a2.sm]
            exact List.take_of_length_le (by rw [lF]; omega)
          have hp := opK_pre' (K := nw R.1 fr) (ep := ep) (i := last + 1) (n := ct) (by omega)
          have hm : (R.2.1.sm.length + 990) / 991 = last + 1 := by rw [a2.sm, lF]; omega
          have htl2 := a2.tl2 (by omega)
          refine ⟨by rw [← ea]; exact hp.1, ?_, fun _ i hi hit => a2.new i hi (by omega)⟩
          rw [hm]
          have h3 := List.prefix_iff_eq_take.1 hp.2
          rw [a2.tl, a2.tmj, List.take_of_length_le (by omega)] at h3
          exact h3
        · rw [if_pos (.inr ⟨a1, h0⟩)]
          exact ⟨a2, ⟨fun _ => .inr a1, fun _ => by rw [a3]; decide⟩⟩
  · rw [if_pos h0] at hR
    subst hR
    dsimp only
    have hbb := h.bd
    have hb2 : l.bad = 14 := by omega
    rw [hb2, if_neg (by decide)]
    exact ⟨h, ⟨fun _ => .inl (by decide), fun _ => by decide⟩⟩
end
end Lo
end Go.Proofs.YtjdimgigbgafbaaDoor
namespace Go.Proofs.YtjdimgigbgafbaaDoor
set_option maxRecDepth 100000
open Byts Seal Fram
set_option linter.unusedVariables false
namespace Lo
structure Both (s : Ds) (l : Ls) (n m : Nat) : Prop where
  ok : s.Ok m
  by_ : Byte s
  kl : s.kept.length = n
  lo : Lo.Ok l n
theorem Both.more {s : Ds} {l : Ls} {n m m' : Nat} (h : Both s l n m) (hm : m ≤ m') : Both s l n m' := ⟨h.ok.more hm, h.by_, h.kl, h.lo⟩
theorem byte_same {s s' : Ds} (h : Byte s) (h1 : s'.kept = s.kept) (h2 : s'.pend = s.pend) : Byte s' := ⟨by rw [h1]; exact h.k, by rw [h2]; exact h.p⟩
theorem byte_push {s s' : Ds} {a : Nat} {z : List Int} (h : Byte s) (hz : Bytes z) (h1 : s'.kept = s.kept) (h2 : s'.pend = s.pend ++ [(a, z)]) : Byte s' := by
  refine ⟨by rw [h1]; exact h.k, ?_⟩
  rw [h2]
  intro x hx
  rcases List.mem_append.1 hx with hx | hx
  · exact h.p x hx
  · obtain rfl : x = (a, z) := by simpa using hx
    exact hz
theorem secB {ep nx : Int} {bd : List Int} (h : Bytes bd) : Bytes (secL ep nx bd) := by
  intro z hz
  unfold secL sec at hz
  rcases List.mem_append.1 hz with hz | hz
  · exact hd_bytes _ _ _ _ (by decide) h z hz
  · exact smZ_bytes _ z hz
structure Wn (l l' : Ls) : Prop where
  fr : l'.fr = l.fr
  ct : l'.ct = l.ct
  ep : l'.ep = l.ep
  sm : l'.sm = l.sm
  n1 : 1 ≤ l'.nx
  n2 : l'.nx ≤ 4611686018427387904
  tt : ∀ t ∈ l'.tm, 0 ≤ t ∧ t ≤ 4611686018427387904
  tc : l'.tm.length ≤ l.ct
theorem wrN_ok {n : Nat} : ∀ (k : Nat) (s : Ds) (l : Ls) (j m : Nat), s.Ok m → Byte s → s.kept.length = n → l.fr + l.ct ≤ n → j + k ≤ l.ct → j ≤ l.tm.length → 1 ≤ l.nx → l.nx + (k : Int) ≤ 4611686018427387904 → Bytes l.sm → (∀ t ∈ l.tm, 0 ≤ t ∧ t ≤ 4611686018427387904) → l.tm.length ≤ l.ct → l.bad = 0 →
    (wrN s l j k).1.Ok (m + k) ∧ Byte (wrN s l j k).1 ∧ (wrN s l j k).1.kept.length = n ∧ Wn l (wrN s l j k).2.1 ∧ (((wrN s l j k).2.2 = 0 ∧ (wrN s l j k).2.1.bad = 0 ∧ (0 < k → (wrN s l j k).2.1.tm.length = j + k)) ∨ ((wrN s l j k).2.2 = 14 ∧ (wrN s l j k).2.1.bad = 14))
  | 0, s, l, j, m, h1, h2, h3, h4, h5, h6, h7, h8, h9, h10, h11, h12 => ⟨h1, h2, h3, ⟨rfl, rfl, rfl, rfl, h7, by show l.nx ≤ _; omega, h10, h11⟩, .inl ⟨rfl, h12, fun h => absurd h (Nat.lt_irrefl _)⟩⟩
  | k + 1, s, l, j, m, h1, h2, h3, h4, h5, h6, h7, h8, h9, h10, h11, h12 => by
    have hbl : (shB j (prevL l j) (chunk l j)).length ≤ 1001 := by have := chunk_le l j; unfold shB; simp only [List.length_append, be_length]; omega
    obtain ⟨z, hz⟩ : ∃ z, z = secL l.ep l.nx (shB j (prevL l j) (chunk l j)) := ⟨_, rfl⟩
    have hzl : z.length = 1024 := by rw [hz]; exact secL_len _ _ _ hbl
    have hzb : Bytes z := by rw [hz]; exact secB (shB_bytes (chunk_bytes h9 j))
    have hD := do_1 s (l.fr + j) z (by omega) hzl
    have hO := h1.do_ ⟨1, ((l.fr + j : Nat) : Int), z, true, []⟩ (by have := h1.hn; show ((l.fr + j : Nat) : Int) ≤ _; omega)
    have eW : wrL s l j = (let r := s.do_ ⟨1, ((l.fr + j : Nat) : Int), z, true, []⟩; (r.1, if r.2.2 = 0 then { l with tm := l.tm.take j ++ [l.nx], nx := l.nx + 1 } else l, r.2.2)) := by
      unfold wrL
      rw [← hz]
    have eN : wrN s l j (k + 1) = if (wrL s l j).2.2 = 0 then wrN (wrL s l j).1 (wrL s l j).2.1 (j + 1) k else ((wrL s l j).1, { (wrL s l j).2.1 with bad := (wrL s l j).2.2 }, (wrL s l j).2.2) := rfl
    obtain ⟨s1, hs1⟩ : ∃ s1, s1 = (s.do_ ⟨1, ((l.fr + j : Nat) : Int), z, true, []⟩).1 := ⟨_, rfl⟩
    rw [eN, eW]
    dsimp only
    rw [← hs1] at hD hO ⊢
    rcases hD with ⟨d1, d2, d3⟩ | ⟨d1, d2, d3⟩
    · rw [d1, if_neg (by decide), if_neg (by decide)]
      exact ⟨hO.more (by omega), byte_same h2 d2 d3, by show s1.kept.length = n; rw [d2]; exact h3, ⟨rfl, rfl, rfl, rfl, h7, by show l.nx ≤ _; omega, h10, h11⟩, .inr ⟨rfl, rfl⟩⟩
    · rw [d1, if_pos rfl, if_pos rfl]
      have hl : (l.tm.take j ++ [l.nx]).length = j + 1 := by rw [List.length_append, List.length_take, Nat.min_eq_left h6]; rfl
      have ih := wrN_ok (n := n) k s1 { l with tm := l.tm.take j ++ [l.nx], nx := l.nx + 1 } (j + 1) (m + 1) hO (byte_push h2 hzb d2 d3) (by rw [d2]; exact h3) h4 (by show j + 1 + k ≤ l.ct; omega) (by show j + 1 ≤ (l.tm.take j ++ [l.nx]).length; omega) (by show 1 ≤ l.nx + 1; omega) (by show l.nx + 1 + (k : Int) ≤ _; omega) h9 (fun t ht => by
        rcases List.mem_append.1 ht with ht | ht
        · exact h10 t (List.mem_of_mem_take ht)
        · obtain rfl : t = l.nx := by simpa using ht
          omega) (by show (l.tm.take j ++ [l.nx]).length ≤ l.ct; omega) h12
      obtain ⟨i1, i2, i3, i4, i5⟩ := ih
      refine ⟨by rw [show m + (k + 1) = m + 1 + k by omega]; exact i1, i2, i3, ⟨i4.fr, i4.ct, i4.ep, i4.sm, i4.n1, i4.n2, i4.tt, i4.tc⟩, ?_⟩
      rcases i5 with ⟨a1, a2, a3⟩ | a
      · refine .inl ⟨a1, a2, fun _ => ?_⟩
        by_cases hk : 0 < k
        · rw [a3 hk]; omega
        · obtain rfl : k = 0 := by omega
          show (l.tm.take j ++ [l.nx]).length = j + 1
          exact hl
      · exact .inr a
theorem Both.app {s : Ds} {l : Ls} {n m : Nat} (h : Both s l n m) (b : List Int) (hb : Bytes b) : Both (appL s l b).1 (appL s l b).2.1 n (m + (l.ct + 1)) ∧ (appL s l b).2.1.fr = l.fr ∧ (appL s l b).2.1.ct = l.ct ∧ (appL s l b).2.1.ep = l.ep := by
  obtain ⟨R, hR⟩ : ∃ R, R = appL s l b := ⟨_, rfl⟩
  rw [← hR]
  unfold appL at hR
  have hL := h.lo
  by_cases h0 : l.bad = 0
  · rw [if_neg (by omega)] at hR
    by_cases h6 : 60000 < b.length
    · rw [if_pos h6] at hR
      subst hR
      exact ⟨h.more (by omega), rfl, rfl, rfl⟩
    · rw [if_neg h6] at hR
      dsimp only at hR
      have hfl : (frm smZ b).length = 8 + b.length := frm_length smZ (fun _ => rfl) b
      rw [hfl] at hR
      by_cases hfull : l.ct * 991 < l.sm.length + (8 + b.length) ∨ 4611686018427387904 ≤ l.nx + (((l.sm.length + (8 + b.length) - 1) / 991 - l.sm.length / 991 : Nat) : Int)
      · rw [if_pos hfull] at hR
        subst hR
        exact ⟨h.more (by omega), rfl, rfl, rfl⟩
      · rw [if_neg hfull] at hR
        obtain ⟨first, hfi⟩ : ∃ x, x = l.sm.length / 991 := ⟨_, rfl⟩
        obtain ⟨last, hla⟩ : ∃ x, x = (l.sm.length + (8 + b.length) - 1) / 991 := ⟨_, rfl⟩
        rw [← hfi, ← hla] at hfull hR
        have hf1 : ¬ l.ct * 991 < l.sm.length + (8 + b.length) := fun q => hfull (.inl q)
        have hf2 : ¬ 4611686018427387904 ≤ l.nx + ((last - first : Nat) : Int) := fun q => hfull (.inr q)
        have htl := hL.tl h0
        have hsb : Bytes (l.sm ++ frm smZ b) := fun z hz => (List.mem_append.1 hz).elim (hL.sb z) (frm_bytes _ hb z)
        have K := wrN_ok (n := n) (last + 1 - first) s { l with sm := l.sm ++ frm smZ b } first m h.ok h.by_ h.kl hL.f1 (by show first + (last + 1 - first) ≤ l.ct; omega) (by show first ≤ l.tm.length; omega) hL.n1 (by show l.nx + ((last + 1 - first : Nat) : Int) ≤ _; omega) hsb hL.tt hL.tc h0
        rw [← hR] at K
        obtain ⟨k1, k2, k3, k4, k5⟩ := K
        have hc := k4.ct
        have hsm := k4.sm
        have hc : R.2.1.ct = l.ct := hc
        have hsm : R.2.1.sm = l.sm ++ frm smZ b := hsm
        have hfr : R.2.1.fr = l.fr := k4.fr
        have hep : R.2.1.ep = l.ep := k4.ep
        refine ⟨⟨k1.more (by omega), k2, k3, ⟨by rw [hfr, hc]; exact hL.f1, by rw [hc]; exact hL.f2, by rw [hep]; exact hL.e, k4.n1, k4.n2, by rw [hsm]; exact hsb, by rw [hsm, hc, List.length_append, hfl]; omega, fun hb0 => ?_, k4.tt, by rw [hc]; exact k4.tc⟩⟩, hfr, hc, hep⟩
        rcases k5 with ⟨a1, a2, a3⟩ | ⟨a1, a2⟩
        · rw [a3 (by omega), hsm, List.length_append, hfl]
          omega
        · rw [a2] at hb0
          cases hb0
  · rw [if_pos h0] at hR
    subst hR
    exact ⟨h.more (by omega), rfl, rfl, rfl⟩
theorem Both.open_ {s : Ds} {n m fr ct : Nat} {ep : Int} (h1 : s.Ok m) (h2 : Byte s) (h3 : s.kept.length = n) (hfc : fr + ct ≤ n) (hc : 1 ≤ ct) (hep : 0 ≤ ep ∧ ep ≤ 18446744073709551615) : Both (rdN s ct) (openL s fr ct ep) n (m + ct) :=
  ⟨rdN_ok h1 ct, ⟨h2.k, h2.p⟩, h3, by have := openL_ok h2 (fr := fr) (ct := ct) (by omega) hc hep; rwa [h3] at this⟩
end Lo
end Go.Proofs.YtjdimgigbgafbaaDoor
namespace Go.Proofs.YtjdimgigbgafbaaDoor
set_option maxRecDepth 100000
open Go.RowKit H
open Lo Byts Seal Fram
set_option linter.unusedVariables false
theorem Kq.ls {G : Lg} {v : Dk} {C : Nat → Prop} {w w' : World} (k : Kq v.kb v.d C w w') : Chg (G.LS v C w) w w' := k.chg.mono fun g hS => by
  rcases hS with h | h | h
  · exact .inl h
  · exact .inr (.inl h)
  · exact .inr (.inr (.inl h))
structure De where
  (kind n b : Int) (kA : Option Addr) (kn kc : Nat) (keep : List Bool)
abbrev De.vals (x : De) : List Value := [.int .i64 x.kind, .int .i64 x.n, .int .u8 x.b, .slice x.kA x.kn x.kc]
abbrev De.v (x : De) : Value := .agg x.vals.toArray
structure De.At (x : De) (N : Nat) (w : World) : Prop where
  hk : Reads w N 1 x.kA x.kn (x.keep.map Value.bool)
  hn : -9223372036854775808 ≤ x.n ∧ x.n ≤ 9223372036854775807
  hb : 0 ≤ x.b ∧ x.b < 256
  hl : x.kn ≤ maxLen
theorem De.At.low {x : De} {N : Nat} {w w' : World} (h : x.At N w) (hb : Below N w w') : x.At N w' := ⟨h.hk.low hb (Nat.le_refl _), h.hn, h.hb, h.hl⟩
structure DesAt (xs : List De) (A : Option Addr) (n N : Nat) (w : World) : Prop where
  hr : Reads w N 4 A n (xs.flatMap De.vals)
  hx : ∀ x ∈ xs, x.At N w
  hn : xs.length = n
theorem DesAt.low {xs : List De} {A : Option Addr} {n N : Nat} {w w' : World} (h : DesAt xs A n N w) (hb : Below N w w') : DesAt xs A n N w' := ⟨h.hr.low hb (Nat.le_refl _), fun x hx => (h.hx x hx).low hb, h.hn⟩
theorem DesAt.row {xs : List De} {A : Option Addr} {n N : Nat} {w : World} (h : DesAt xs A n N w) {i : Nat} (hi : i < n) : ∃ x, xs[i]? = some x ∧ x ∈ xs ∧ x.At N w := by
  have hlt : i < xs.length := by rw [h.hn]; exact hi
  exact ⟨xs[i], List.getElem?_eq_getElem hlt, List.getElem_mem hlt, h.hx _ (List.getElem_mem hlt)⟩
structure Bos (w : World) (B : Nat) (A : Option Addr) (bs : List Bo) : Prop where
  hr : Reads w B 1 A bs.length (bs.map Bo.v)
  el : ∀ b ∈ bs, Reads w B 1 b.A b.l.length (nums .u8 b.l)
theorem bytes22 {A B : Option Addr} {cA cB M : Nat} {as_ bs : List Bo} {w : World} (h1 : Bos w M A as_) (h2 : Bos w M B bs) (hM : M ≤ w.heap.size) (he : as_.map Bo.l = bs.map Bo.l) (hl : bs.length ≤ 1000000) :
    Calls Tryd.prog 19 #[.slice A as_.length cA, .slice B bs.length cB] w fun e w' => e = .returned (.bool true) ∧ Ext w w' := by
  have hlen : as_.length = bs.length := by have := congrArg List.length he; simpa using this
  have hR1 := h1.hr
  have hR2 := h2.hr
  rw [hlen] at hR1 ⊢
  obtain ⟨n, hn⟩ : ∃ n, n = bs.length := ⟨_, rfl⟩
  rw [← hn] at hR1 hR2 hl hlen ⊢
  refine enter Tryd.func19 rfl (by kernel_rfl) ?_
  refine J.seq ?_
  refine J.region ?_
  refine L.va rfl (X.assign (by conv => lhs; whnf)) ?_
  refine L.nil ?_
  refine J.seq ?_
  refine J.seq ?_
  refine J.region ?_
  refine L.va rfl (X.move (by conv => lhs; whnf)) ?_
  refine L.va rfl (X.len rfl Tryd.underlying30) ?_
  refine L.va rfl (X.move (by conv => lhs; whnf)) ?_
  refine L.va rfl (X.len rfl Tryd.underlying30) ?_
  refine L.va rfl (X.neq rfl rfl) ?_
  refine L.nil ?_
  refine J.ndecF rfl (by omega) ?_
  refine J.skip ?_
  refine J.seq ?_
  refine J.seq ?_
  refine J.region ?_
  refine L.va rfl (X.assign (by conv => lhs; whnf)) ?_
  refine L.nil ?_
  refine J.block ?_
  refine J.loop (X := Nat) [4, 5, 11, 12, 13, 14, 15, 16, 17, 18, 19, 20, 21, 22, 23, 24, 25, 26, 27] (fun i => [(5, .int .i64 (i : Int))]) (fun i w' => i ≤ n ∧ Ext w w') (fun i => n - i) (0) (At1 (by first | rfl | exact at_int rfl (by omega) | exact at_slice rfl (by omega) | exact at_int rfl (by simp))) ?_ ?_
  · exact ⟨Nat.zero_le _, Ext.refl _⟩
  · rintro i g w2 ⟨hi, he2⟩
    have he2 : Ext w w2 := he2
    have hR12 := hR1.low he2 hM
    have hR22 := hR2.low he2 hM
    refine J.seq ?_
    refine J.seq ?_
    refine J.region ?_
    refine L.va rfl (X.move (by conv => lhs; whnf)) ?_
    refine L.va rfl (X.move (by conv => lhs; whnf)) ?_
    refine L.va rfl (X.len rfl Tryd.underlying30) ?_
    refine L.va rfl (X.lss rfl rfl) ?_
    refine L.nil ?_
    refine J.dec rfl (fun hlt => ?_) (fun hlt => ?_)
    · have hi' : i < n := by omega
      obtain ⟨a, ha⟩ : ∃ a, as_[i]? = some a := ⟨_, List.getElem?_eq_getElem (by omega)⟩
      obtain ⟨b, hb⟩ : ∃ b, bs[i]? = some b := ⟨_, List.getElem?_eq_getElem (by omega)⟩
      have eab : a.l = b.l := by
        have e1 := congrArg (fun l => l[i]?) he
        simp only [List.getElem?_map, ha, hb, Option.map_some] at e1
        injection e1
      have ra := (h1.el a (List.mem_of_getElem? ha)).low he2 hM
      have rb := (h2.el b (List.mem_of_getElem? hb)).low he2 hM
      have va : (as_.map Bo.v).getD i undef = a.v := by simp [List.getD, ha]
      have vb : (bs.map Bo.v).getD i undef = b.v := by simp [List.getD, hb]
      have z2 := he2.le
      refine J.skip ?_
      refine J.seq ?_
      refine J.block ?_
      refine J.seq ?_
      have la : ∀ {w' : World}, Ext w2 w' → Ld w' (pA A i) a.v := fun h => by rw [← va]; exact Ld.rd (hR12.ext h) (by omega)
      have lb : ∀ {w' : World}, Ext w2 w' → Ld w' (pA B i) b.v := fun h => by rw [← vb]; exact Ld.rd (hR22.ext h) (by omega)
      have nA : A ≠ none := hR12.some_ (by omega)
      have nB : B ≠ none := hR22.some_ (by omega)
      refine J.draw (ℓ := 1000000) (S := Ext w2) mixed (fun w3 hS hS_h => ?_)
      refine D.va 0 rfl (by kernel_rfl) (fun _ _ _ h => h) rfl (fun w' hw => X.move (by conv => lhs; whnf)) hS ?_
      refine D.va 1 rfl (by kernel_rfl) (fun _ _ _ h => h) rfl (fun w' hw => X.move (by conv => lhs; whnf)) hS ?_
      refine D.va 2 rfl (by kernel_rfl) (fun _ _ _ h => h) rfl (fun w' hw => (by first | exact X.index1n rfl rfl Tryd.underlying30 sz_39 (by first | exact Option.some_ne_none _ | exact la hw | exact lb hw | exact nA | exact nB) (by omega) | exact X.index1 rfl rfl Tryd.underlying30 sz_39 (by first | exact Option.some_ne_none _ | exact la hw | exact lb hw | exact nA | exact nB) (by omega))) hS ?_
      refine D.va 3 rfl (by kernel_rfl) (fun _ _ _ h => h) rfl (fun w' hw => X.load rfl sc_39 (by first | exact la hw | exact lb hw | exact nA | exact nB)) hS ?_
      refine D.va 4 rfl (by kernel_rfl) (fun _ _ _ h => h) rfl (fun w' hw => X.conv rfl (((ra.ext hw).more (Nat.le_trans (Nat.le_trans hM z2) (Ext.le hw))).conv (c := a.c) Tryd.underlying39 Tryd.underlying5 Tryd.underlying9)) hS ?_
      refine D.va 5 rfl (by kernel_rfl) (fun _ _ _ h => h) rfl (fun w' hw => X.move (by conv => lhs; whnf)) hS ?_
      refine D.va 6 rfl (by kernel_rfl) (fun _ _ _ h => h) rfl (fun w' hw => X.move (by conv => lhs; whnf)) hS ?_
      refine D.va 7 rfl (by kernel_rfl) (fun _ _ _ h => h) rfl (fun w' hw => (by first | exact X.index1n rfl rfl Tryd.underlying30 sz_39 (by first | exact Option.some_ne_none _ | exact la hw | exact lb hw | exact nA | exact nB) (by omega) | exact X.index1 rfl rfl Tryd.underlying30 sz_39 (by first | exact Option.some_ne_none _ | exact la hw | exact lb hw | exact nA | exact nB) (by omega))) hS ?_
      refine D.va 8 rfl (by kernel_rfl) (fun _ _ _ h => h) rfl (fun w' hw => X.load rfl sc_39 (by first | exact la hw | exact lb hw | exact nA | exact nB)) hS ?_
      refine D.va 9 rfl (by kernel_rfl) (fun _ _ _ h => h) rfl (fun w' hw => X.conv rfl (((rb.ext hw).more (Nat.le_trans (Nat.le_trans hM z2) (Ext.le hw))).conv (c := b.c) Tryd.underlying39 Tryd.underlying5 Tryd.underlying9)) hS ?_
      refine D.va 10 rfl (by kernel_rfl) (fun _ _ _ h => h) rfl (fun w' hw => X.neqS rfl rfl) hS ?_
      refine D.done (by kernel_rfl) ?_
      refine J.ndecF rfl (by rw [eab]) ?_
      refine J.skip ?_
      refine J.region ?_
      refine L.va rfl (X.move (by conv => lhs; whnf)) ?_
      refine L.va rfl (X.add rfl rfl (by omega)) ?_
      refine L.va rfl (X.assign (by conv => lhs; whnf)) ?_
      refine L.nil ?_
      refine ⟨i + 1, At1 (by first | rfl | exact at_int rfl (by omega) | exact at_slice rfl (by omega) | exact at_int rfl (by simp)), (by (iterate 18 refine Agr.lk rfl ?_); exact Agr.lk rfl (Agr.hav rfl Agr.rfl')), ?_⟩
      exact ⟨⟨by omega, he2.trans hS⟩, by omega⟩
    · refine J.exit ?_
      refine J.seq ?_
      refine J.region ?_
      refine L.va rfl (X.assign (by conv => lhs; whnf)) ?_
      refine L.nil ?_
      refine J.ret ?_
      refine fin1 ?_
      exact ⟨rfl, he2⟩
end Go.Proofs.YtjdimgigbgafbaaDoor
namespace Go.Proofs.YtjdimgigbgafbaaDoor
set_option maxRecDepth 100000
open Go.RowKit H
open Lo Byts Seal Fram
set_option linter.unusedVariables false
structure Pair (N : Nat) (C : Nat → Prop) (G : Lg) (v : Dk) (r : Rk) (R : Rl) (w : World) : Prop where
  at_ : G.At v N C w
  ra : r.At N w
  R_ : R.At N w
  sC : ∀ x, r.Cl x → ∀ g, sblk x = some g → G.ss.ownBlock ≠ some g
  sR : ∀ g, R.ss.ownBlock = some g → G.ss.ownBlock ≠ some g
  sT : ∀ g, R.ts.ownBlock = some g → G.ts.ownBlock ≠ some g
  rk : r.K.ownBlock ≠ some v.kb
  cap : ∀ x, r.Cl x → Cap x
theorem isT_lt {w : World} {g t : Nat} (h : IsT w g t) : g < w.heap.size := by
  obtain ⟨cs, hc⟩ := h
  have hc : Blk w g t cs := hc
  exact hc.lt
section
variable {N : Nat} {C : Nat → Prop} {G G' : Lg} {v v' : Dk} {r r' : Rk} {R R' : Rl} {w w' : World}
theorem Pair.ext (h : Pair N C G v r R w) (he : Ext w w') : Pair N C G v r R w' := ⟨h.at_.ext he, h.ra.ext he, h.R_.ext he, h.sC, h.sR, h.sT, h.rk, h.cap⟩
theorem Rk.At.chg (h : r.At N w) (hA : G.At v N C w) (hC : Chg (G.LS v C w) w w') (hk : r.K.ownBlock ≠ some v.kb) (hs : ∀ x, r.Cl x → ∀ g, sblk x = some g → G.ss.ownBlock ≠ some g) : r.At N w' := by
  have no : ∀ {g t : Nat}, IsT w g t → (t = 39 → g ≠ v.kb) → (t = 5 → G.ss.ownBlock ≠ some g) → t ≠ 105 → t ≠ 107 → t ≠ 83 → t ≠ 35 → ¬ G.LS v C w g := by
    intro g t hT h1 h2 h3 h4 h5 h6 hS
    rcases hS with q | q | ⟨q, _⟩ | q | q | q
    · subst q; exact h1 (hT.fun_ hA.hd.kT.1) rfl
    · subst q; exact h3 (hT.fun_ hA.hd.dT)
    · exact h4 (hT.fun_ q)
    · subst q; exact h5 (hT.fun_ hA.hb.isT)
    · exact h2 (hT.fun_ (hA.hs.own q).1) q
    · exact h6 (hT.fun_ (own_isT hA.ht q).1)
  have hB := hA.below hC
  have rd : ∀ {x : Value} {zs : List Int}, r.Cl x → RD N w x zs → RD N w' x zs := fun {x zs} hx hr => by
    rcases hr with ⟨b, off, c, cs, rfl, hl, hb, hc⟩ | ⟨A, c, rfl, hr⟩
    · exact .inl ⟨b, off, c, cs, rfl, hl, hC.blk hb (no hb.isT (fun q => absurd q (by decide)) (fun _ => hs _ hx b rfl) (by decide) (by decide) (by decide) (by decide)), hc⟩
    · exact .inr ⟨A, c, rfl, hr.low hB (Nat.le_refl _)⟩
  refine ⟨hC.own h.hk fun g hg => no (own_isT h.hk hg).1 (fun _ e => hk (by rw [hg, e])) (fun q => absurd q (by decide)) (by decide) (by decide) (by decide) (by decide), hC.own h.hp fun g hg => no (own_isT h.hp hg).1 (fun q => absurd q (by decide)) (fun q => absurd q (by decide)) (by decide) (by decide) (by decide) (by decide), fun x hx => rd (.inl ⟨x, hx, rfl⟩) (h.kd x hx), fun x hx => ⟨(h.pd x hx).1, rd (.inr ⟨x, hx, rfl⟩) (h.pd x hx).2⟩, h.h1, Nat.le_trans h.hN hC.size⟩
theorem Rl.At.chg (h : R.At N w) (hA : G.At v N C w) (hC : Chg (G.LS v C w) w w') (hs : ∀ g, R.ss.ownBlock = some g → G.ss.ownBlock ≠ some g) (ht : ∀ g, R.ts.ownBlock = some g → G.ts.ownBlock ≠ some g) : R.At N w' := by
  refine ⟨hC.own h.hs fun g hg hS => ?_, hC.own h.ht fun g hg hS => ?_⟩
  · have hT := (own_isT h.hs hg).1
    rcases hS with q | q | ⟨q, _⟩ | q | q | q
    · subst q; exact absurd (hT.fun_ hA.hd.kT.1) (by decide)
    · subst q; exact absurd (hT.fun_ hA.hd.dT) (by decide)
    · exact absurd (hT.fun_ q) (by decide)
    · subst q; exact absurd (hT.fun_ hA.hb.isT) (by decide)
    · exact hs g hg q
    · exact absurd (hT.fun_ (own_isT hA.ht q).1) (by decide)
  · have hT := (own_isT h.ht hg).1
    rcases hS with q | q | ⟨q, _⟩ | q | q | q
    · subst q; exact absurd (hT.fun_ hA.hd.kT.1) (by decide)
    · subst q; exact absurd (hT.fun_ hA.hd.dT) (by decide)
    · exact absurd (hT.fun_ q) (by decide)
    · subst q; exact absurd (hT.fun_ hA.hb.isT) (by decide)
    · exact absurd (hT.fun_ (hA.hs.own q).1) (by decide)
    · exact ht g hg q
theorem Lg.At.blkC {g t : Nat} {cs : Array Value} (hA : G.At v N C w) (hC : Chg (G.LS v C w) w w') (hb : Blk w g t cs) (h1 : t ≠ 39 := by decide) (h2 : t ≠ 105 := by decide) (h3 : t ≠ 107 := by decide) (h4 : t ≠ 83 := by decide) (h5 : t ≠ 5 := by decide) (h6 : t ≠ 35 := by decide) : Blk w' g t cs :=
  hC.blk hb (by
    rintro (q | q | ⟨q, _⟩ | q | q | q)
    · subst q; exact h1 (hb.isT.fun_ hA.hd.kT.1)
    · subst q; exact h2 (hb.isT.fun_ hA.hd.dT)
    · exact h3 (hb.isT.fun_ q)
    · subst q; exact h4 (hb.isT.fun_ hA.hb.isT)
    · exact h5 (hb.isT.fun_ (hA.hs.own q).1)
    · exact h6 (hb.isT.fun_ (own_isT hA.ht q).1))
theorem Pair.prog (h : Pair N C G v r R w) (hA : G'.At v' N C w') (hk : v'.kb = v.kb) (hC : Chg (G.LS v C w) w w') (hg : Lg.Gr G G' w.heap.size) : Pair N C G' v' r R w' := by
  refine ⟨hA, h.ra.chg h.at_ hC h.rk h.sC, h.R_.chg h.at_ hC h.sR h.sT, fun x hx g hgx hs => ?_, fun g hgr hs => ?_, fun g hgr hs => ?_, by rw [hk]; exact h.rk, h.cap⟩
  · rcases hg.s g hs with q | q
    · exact h.sC x hx g hgx q
    · have := h.ra.clt hx hgx
      omega
  · rcases hg.s g hs with q | q
    · exact h.sR g hgr q
    · have := isT_lt (own_isT h.R_.hs hgr).1
      omega
  · rcases hg.t g hs with q | q
    · exact h.sT g hgr q
    · have := isT_lt (own_isT h.R_.ht hgr).1
      omega
theorem Pair.ref (h : Pair N C G v r R w) (hr : r'.At N w') (hR : R'.At N w') (he : Ext w w') (hf : Rk.Fr r' r w) (hc : Rk.CF r' r w) (hg : Rl.Gr R R' w.heap.size) : Pair N C G v r' R' w' := by
  have ls : ∀ {g : Nat}, G.ss.ownBlock = some g → g < w.heap.size := fun hs => isT_lt (h.at_.hs.own hs).1
  have lt : ∀ {g : Nat}, G.ts.ownBlock = some g → g < w.heap.size := fun hs => isT_lt (own_isT h.at_.ht hs).1
  refine ⟨h.at_.ext he, hr, hR, fun x hx g hgx hs => ?_, fun g hgr hs => ?_, fun g hgr hs => ?_, fun e => ?_, fun x hx => (hc x hx).elim (h.cap x) (fun q => q.2)⟩
  · rcases hc x hx with q | q
    · exact h.sC x q g hgx hs
    · have := q.1 g hgx
      have := ls hs
      omega
  · rcases hg.s g hgr with q | q
    · exact h.sR g q hs
    · have := ls hs
      omega
  · rcases hg.t g hgr with q | q
    · exact h.sT g q hs
    · have := lt hs
      omega
  · rcases hf _ e with q | q
    · exact h.rk q
    · have := (h.at_.hd.hk.lt v.kb rfl).2
      omega
theorem Pair.blk {g t : Nat} {cs : Array Value} (h : Pair N C G v r R w) (hb : Blk w g t cs) (hg : w.grownBy w' (some g)) (hN : N ≤ g) (h1 : t ≠ 39 := by decide) (h2 : t ≠ 105 := by decide) (h3 : t ≠ 107 := by decide) (h4 : t ≠ 83 := by decide) (h5 : t ≠ 5 := by decide) (h6 : t ≠ 35 := by decide) (h7 : t ≠ 110 := by decide) : Pair N C G v r R w' := by
  have hB : Below N w w' := ⟨hg.os, hg.tape, hg.output, hg.size, fun i hi => hg.block i (Nat.lt_of_lt_of_le hi h.ra.hN) (fun e => by injection e with e; omega)⟩
  have nT : ∀ {g' : Nat} {t' : TypeId}, IsT w g' t' → t' ≠ t → some g ≠ some g' := fun hT hne e => by
    injection e with e
    subst e
    exact hne (hT.fun_ hb.isT)
  refine ⟨⟨h.at_.hd.blk_ hb hg h1 h2 h3 h5, h.at_.hb.grown hg (nT h.at_.hb.isT h4.symm).symm, h.at_.hs.kept hg (fun g' hg' => nT (h.at_.hs.own hg').1 h5.symm), h.at_.ht.kept hg (.inr fun e => nT (own_isT h.at_.ht e).1 h6.symm rfl), h.at_.sep, h.at_.hN, h.at_.tab.low hB h.at_.tN, h.at_.tN⟩, h.ra.blkL hb hg hN h1 h7 h5, h.R_.blkL hb hg h5 h6, h.sC, h.sR, h.sT, h.rk, h.cap⟩
end
end Go.Proofs.YtjdimgigbgafbaaDoor
namespace Go.Proofs.YtjdimgigbgafbaaDoor
set_option maxRecDepth 100000
open Go.RowKit H
open Lo Byts Seal Fram
set_option linter.unusedVariables false
section
variable {N : Nat} {C : Nat → Prop} {v : Dk} {r : Rk} {w w' : World}
theorem lopen_bad (h : v.At N C w) (p q ep : Int) (hp : -9223372036854775808 ≤ p ∧ p ≤ 9223372036854775807) (hbad : p < 0 ∨ q < 1 ∨ (v.kp.length : Int) < p ∨ (v.kp.length : Int) - p < q) : Calls Tryd.prog 10 #[v.ptr, .int .i64 p, .int .i64 q, .int .u64 ep] w fun e w' => e = .returned (.tuple #[.pointer none, .slice none 0 0, .int .i64 1]) ∧ w = w' := by
  have hh1 := h.h1
  refine enter Tryd.func10 rfl (by kernel_rfl) ?_
  refine J.seq ?_
  refine J.region ?_
  refine L.va rfl (X.assign (by conv => lhs; whnf)) ?_
  refine L.va rfl (X.assign (by conv => lhs; whnf)) ?_
  refine L.va rfl (X.assign (by conv => lhs; whnf)) ?_
  refine L.nil ?_
  refine J.seq ?_
  refine J.seq ?_
  refine J.region ?_
  refine L.va rfl (X.move (by conv => lhs; whnf)) ?_
  refine L.va rfl (X.lss rfl rfl) ?_
  refine L.va rfl (X.move (by conv => lhs; whnf)) ?_
  refine L.caseDec (k := 23) rfl (fun h1 => ?_) (fun h1 => ?_)
  · refine L.no rfl ?_
    refine L.no rfl ?_
    refine L.va rfl (X.pickT rfl (by conv => lhs; whnf)) ?_
    refine L.va rfl (X.move (by conv => lhs; whnf)) ?_
    refine L.no rfl ?_
    refine L.no rfl ?_
    refine L.no rfl ?_
    refine L.no rfl ?_
    refine L.va rfl (X.pickT rfl (by conv => lhs; whnf)) ?_
    refine L.va rfl (X.move (by conv => lhs; whnf)) ?_
    refine L.no rfl ?_
    refine L.no rfl ?_
    refine L.no rfl ?_
    refine L.no rfl ?_
    refine L.no rfl ?_
    refine L.no rfl ?_
    refine L.va rfl (X.pickT rfl (by conv => lhs; whnf)) ?_
    refine L.nil ?_
    refine J.iteT rfl ?_
    refine J.seq ?_
    refine J.region ?_
    refine L.va rfl (X.assign (by conv => lhs; whnf)) ?_
    refine L.va rfl (X.assign (by conv => lhs; whnf)) ?_
    refine L.va rfl (X.assign (by conv => lhs; whnf)) ?_
    refine L.nil ?_
    refine J.ret ?_
    refine thn_ret <| ?_
    refine fin3 ?_
    exact ⟨rfl, rfl⟩
  · refine L.va rfl (X.move (by conv => lhs; whnf)) ?_
    refine L.va rfl (X.lss rfl rfl) ?_
    refine L.va rfl (X.pickF rfl (by conv => lhs; whnf)) ?_
    refine L.va rfl (X.move (by conv => lhs; whnf)) ?_
    refine L.caseDec (k := 27) rfl (fun h2 => ?_) (fun h2 => ?_)
    · refine L.no rfl ?_
      refine L.no rfl ?_
      refine L.no rfl ?_
      refine L.no rfl ?_
      refine L.va rfl (X.pickT rfl (by conv => lhs; whnf)) ?_
      refine L.va rfl (X.move (by conv => lhs; whnf)) ?_
      refine L.no rfl ?_
      refine L.no rfl ?_
      refine L.no rfl ?_
      refine L.no rfl ?_
      refine L.no rfl ?_
      refine L.no rfl ?_
      refine L.va rfl (X.pickT rfl (by conv => lhs; whnf)) ?_
      refine L.nil ?_
      refine J.iteT rfl ?_
      refine J.seq ?_
      refine J.region ?_
      refine L.va rfl (X.assign (by conv => lhs; whnf)) ?_
      refine L.va rfl (X.assign (by conv => lhs; whnf)) ?_
      refine L.va rfl (X.assign (by conv => lhs; whnf)) ?_
      refine L.nil ?_
      refine J.ret ?_
      refine thn_ret <| ?_
      refine fin3 ?_
      exact ⟨rfl, rfl⟩
    · refine L.va rfl (X.move (by conv => lhs; whnf)) ?_
      refine L.va rfl (X.move (by conv => lhs; whnf)) ?_
      refine L.call rfl en_35 rfl (h.len_) ?_
      rintro e _ ⟨rfl, rfl⟩
      refine ⟨_, rfl, ?_⟩
      refine L.va rfl (X.gtr rfl rfl) ?_
      refine L.va rfl (X.pickF rfl (by conv => lhs; whnf)) ?_
      refine L.va rfl (X.move (by conv => lhs; whnf)) ?_
      refine L.caseDec (k := 33) rfl (fun h3 => ?_) (fun h3 => ?_)
      · refine L.no rfl ?_
        refine L.no rfl ?_
        refine L.no rfl ?_
        refine L.no rfl ?_
        refine L.no rfl ?_
        refine L.no rfl ?_
        refine L.va rfl (X.pickT rfl (by conv => lhs; whnf)) ?_
        refine L.nil ?_
        refine J.iteT rfl ?_
        refine J.seq ?_
        refine J.region ?_
        refine L.va rfl (X.assign (by conv => lhs; whnf)) ?_
        refine L.va rfl (X.assign (by conv => lhs; whnf)) ?_
        refine L.va rfl (X.assign (by conv => lhs; whnf)) ?_
        refine L.nil ?_
        refine J.ret ?_
        refine thn_ret <| ?_
        refine fin3 ?_
        exact ⟨rfl, rfl⟩
      · refine L.va rfl (X.move (by conv => lhs; whnf)) ?_
        refine L.va rfl (X.move (by conv => lhs; whnf)) ?_
        refine L.call rfl en_35 rfl (h.len_) ?_
        rintro e _ ⟨rfl, rfl⟩
        refine ⟨_, rfl, ?_⟩
        refine L.va rfl (X.move (by conv => lhs; whnf)) ?_
        refine L.va rfl (X.sub rfl rfl (by omega)) ?_
        refine L.va rfl (X.gtr rfl rfl) ?_
        refine L.va rfl (X.pickF rfl (by conv => lhs; whnf)) ?_
        refine L.nil ?_
        refine J.decT rfl (by omega) ?_
        refine J.seq ?_
        refine J.region ?_
        refine L.va rfl (X.assign (by conv => lhs; whnf)) ?_
        refine L.va rfl (X.assign (by conv => lhs; whnf)) ?_
        refine L.va rfl (X.assign (by conv => lhs; whnf)) ?_
        refine L.nil ?_
        refine J.ret ?_
        refine thn_ret <| ?_
        refine fin3 ?_
        exact ⟨rfl, rfl⟩
theorem open22_bad (h : r.At N w) (p q ep : Int) (hp : -9223372036854775808 ≤ p ∧ p ≤ 9223372036854775807) (hbad : p < 0 ∨ q < 1 ∨ (r.kp.length : Int) < p ∨ (r.kp.length : Int) - p < q) : Calls Tryd.prog 11 #[r.v, .int .i64 p, .int .i64 q, .int .u64 ep] w fun e w' => e = .returned (.tuple #[r.v, .agg #[.int .i64 0, .int .i64 0, .int .u64 0, .int .u64 0, .slice none 0 0, .slice none 0 0, .int .i64 0], .slice none 0 0, .int .i64 1]) ∧ Ext w w' := by
  have hh1 := h.h1
  refine enter Tryd.func11 rfl (by kernel_rfl) ?_
  refine J.seq ?_
  refine J.region ?_
  refine L.boxA (l := [_, _, _, _, _, _, _]) rfl rfl ?_
  intro b4 w2 hb4 hs2 hk4 he2
  refine L.alloc rfl zr_33 ?_
  intro b8 w3 hb8 hs3 hk8 he3
  refine L.alloc rfl zr_42 ?_
  intro b9 w4 hb9 hs4 hk9 he4
  have he04 := (he2.trans he3).trans he4
  have hk44 : Blk w4 b4 33 #[r.K, r.P, .bool r.off, .int .i64 r.left, .int .i64 r.rd, .int .i64 r.wr, .int .i64 r.fl] := (hk4.ext he3).ext he4
  have hk84 := hk8.ext he4
  have FIN : ∀ {w5 w6 : World}, w4.grownBy w5 (some b8) → w5.grownBy w6 (some b9) → Ext w w6 := fun h1 h2 => (he04.grw h1 (by intro g hg; injection hg with hg; omega)).grw h2 (by intro g hg; injection hg with hg; omega)
  refine L.va rfl (X.assign (by conv => lhs; whnf)) ?_
  refine L.va rfl (X.assign (by conv => lhs; whnf)) ?_
  refine L.nil ?_
  refine J.seq ?_
  refine J.seq ?_
  refine J.region ?_
  refine L.va rfl (X.move (by conv => lhs; whnf)) ?_
  refine L.va rfl (X.lss rfl rfl) ?_
  refine L.va rfl (X.move (by conv => lhs; whnf)) ?_
  refine L.caseDec (k := 25) rfl (fun h1 => ?_) (fun h1 => ?_)
  · refine L.no rfl ?_
    refine L.no rfl ?_
    refine L.va rfl (X.pickT rfl (by conv => lhs; whnf)) ?_
    refine L.va rfl (X.move (by conv => lhs; whnf)) ?_
    refine L.no rfl ?_
    refine L.no rfl ?_
    refine L.no rfl ?_
    refine L.no rfl ?_
    refine L.no rfl ?_
    refine L.va rfl (X.pickT rfl (by conv => lhs; whnf)) ?_
    refine L.va rfl (X.move (by conv => lhs; whnf)) ?_
    refine L.no rfl ?_
    refine L.no rfl ?_
    refine L.no rfl ?_
    refine L.no rfl ?_
    refine L.no rfl ?_
    refine L.no rfl ?_
    refine L.no rfl ?_
    refine L.va rfl (X.pickT rfl (by conv => lhs; whnf)) ?_
    refine L.nil ?_
    refine J.iteT rfl ?_
    refine J.seq ?_
    refine J.region ?_
    refine L.va rfl ((by first | exact X.loadAgg rfl (range_l hk44) Tryd.underlying33 rfl (by kernel_rfl) | exact X.loadAgg rfl (range_blk hk44) Tryd.underlying33 rfl (by kernel_rfl))) ?_
    refine L.va rfl (X.build (l := [_, _, _, _, _, _, _]) Evs.nil (bld_run Tryd.underlying42 (bp_42 Tryd.underlying42) zr_42 rfl)) ?_
    refine L.storeAgg (vs := [_, _, _, _, _, _, _]) rfl rfl rfl rfl sz_33 (hk84) rfl ?_
    intro w5 hk5 hg5 hs5
    have hk95 := hk9.grown hg5 (by intro h; injection h with h; omega)
    refine L.storeAgg (vs := [_, _, _, _, _, _, _]) rfl rfl rfl rfl sz_42 (hk95) rfl ?_
    intro w6 hk6 hg6 hs6
    have hk56 := hk5.grown hg6 (by intro h; injection h with h; omega)
    refine L.va rfl (X.assign (by conv => lhs; whnf)) ?_
    refine L.va rfl (X.assign (by conv => lhs; whnf)) ?_
    refine L.nil ?_
    refine J.ret ?_
    refine thn_ret <| ?_
    refine finCCTT rfl (run_cell hk56 Tryd.underlying33 rfl (by kernel_rfl)) rfl (run_cell hk6 Tryd.underlying42 rfl (by kernel_rfl)) ?_
    exact ⟨rfl, FIN hg5 hg6⟩
  · refine L.va rfl (X.move (by conv => lhs; whnf)) ?_
    refine L.va rfl (X.lss rfl rfl) ?_
    refine L.va rfl (X.pickF rfl (by conv => lhs; whnf)) ?_
    refine L.va rfl (X.move (by conv => lhs; whnf)) ?_
    refine L.caseDec (k := 29) rfl (fun h2 => ?_) (fun h2 => ?_)
    · refine L.no rfl ?_
      refine L.no rfl ?_
      refine L.no rfl ?_
      refine L.no rfl ?_
      refine L.no rfl ?_
      refine L.va rfl (X.pickT rfl (by conv => lhs; whnf)) ?_
      refine L.va rfl (X.move (by conv => lhs; whnf)) ?_
      refine L.no rfl ?_
      refine L.no rfl ?_
      refine L.no rfl ?_
      refine L.no rfl ?_
      refine L.no rfl ?_
      refine L.no rfl ?_
      refine L.no rfl ?_
      refine L.va rfl (X.pickT rfl (by conv => lhs; whnf)) ?_
      refine L.nil ?_
      refine J.iteT rfl ?_
      refine J.seq ?_
      refine J.region ?_
      refine L.va rfl ((by first | exact X.loadAgg rfl (range_l hk44) Tryd.underlying33 rfl (by kernel_rfl) | exact X.loadAgg rfl (range_blk hk44) Tryd.underlying33 rfl (by kernel_rfl))) ?_
      refine L.va rfl (X.build (l := [_, _, _, _, _, _, _]) Evs.nil (bld_run Tryd.underlying42 (bp_42 Tryd.underlying42) zr_42 rfl)) ?_
      refine L.storeAgg (vs := [_, _, _, _, _, _, _]) rfl rfl rfl rfl sz_33 (hk84) rfl ?_
      intro w5 hk5 hg5 hs5
      have hk95 := hk9.grown hg5 (by intro h; injection h with h; omega)
      refine L.storeAgg (vs := [_, _, _, _, _, _, _]) rfl rfl rfl rfl sz_42 (hk95) rfl ?_
      intro w6 hk6 hg6 hs6
      have hk56 := hk5.grown hg6 (by intro h; injection h with h; omega)
      refine L.va rfl (X.assign (by conv => lhs; whnf)) ?_
      refine L.va rfl (X.assign (by conv => lhs; whnf)) ?_
      refine L.nil ?_
      refine J.ret ?_
      refine thn_ret <| ?_
      refine finCCTT rfl (run_cell hk56 Tryd.underlying33 rfl (by kernel_rfl)) rfl (run_cell hk6 Tryd.underlying42 rfl (by kernel_rfl)) ?_
      exact ⟨rfl, FIN hg5 hg6⟩
    · refine L.va rfl (X.move (by conv => lhs; whnf)) ?_
      refine L.va rfl (X.fieldAddr rfl Tryd.underlying33 rfl sz_30 (by decide)) ?_
      refine L.va rfl (X.load rfl sc_30 (by first | exact Ld.blk hk44 rfl)) ?_
      refine L.va rfl (X.len rfl Tryd.underlying30) ?_
      refine L.va rfl (X.gtr rfl rfl) ?_
      refine L.va rfl (X.pickF rfl (by conv => lhs; whnf)) ?_
      refine L.va rfl (X.move (by conv => lhs; whnf)) ?_
      refine L.caseDec (k := 36) rfl (fun h3 => ?_) (fun h3 => ?_)
      · refine L.no rfl ?_
        refine L.no rfl ?_
        refine L.no rfl ?_
        refine L.no rfl ?_
        refine L.no rfl ?_
        refine L.no rfl ?_
        refine L.no rfl ?_
        refine L.va rfl (X.pickT rfl (by conv => lhs; whnf)) ?_
        refine L.nil ?_
        refine J.iteT rfl ?_
        refine J.seq ?_
        refine J.region ?_
        refine L.va rfl ((by first | exact X.loadAgg rfl (range_l hk44) Tryd.underlying33 rfl (by kernel_rfl) | exact X.loadAgg rfl (range_blk hk44) Tryd.underlying33 rfl (by kernel_rfl))) ?_
        refine L.va rfl (X.build (l := [_, _, _, _, _, _, _]) Evs.nil (bld_run Tryd.underlying42 (bp_42 Tryd.underlying42) zr_42 rfl)) ?_
        refine L.storeAgg (vs := [_, _, _, _, _, _, _]) rfl rfl rfl rfl sz_33 (hk84) rfl ?_
        intro w5 hk5 hg5 hs5
        have hk95 := hk9.grown hg5 (by intro h; injection h with h; omega)
        refine L.storeAgg (vs := [_, _, _, _, _, _, _]) rfl rfl rfl rfl sz_42 (hk95) rfl ?_
        intro w6 hk6 hg6 hs6
        have hk56 := hk5.grown hg6 (by intro h; injection h with h; omega)
        refine L.va rfl (X.assign (by conv => lhs; whnf)) ?_
        refine L.va rfl (X.assign (by conv => lhs; whnf)) ?_
        refine L.nil ?_
        refine J.ret ?_
        refine thn_ret <| ?_
        refine finCCTT rfl (run_cell hk56 Tryd.underlying33 rfl (by kernel_rfl)) rfl (run_cell hk6 Tryd.underlying42 rfl (by kernel_rfl)) ?_
        exact ⟨rfl, FIN hg5 hg6⟩
      · refine L.va rfl (X.move (by conv => lhs; whnf)) ?_
        refine L.va rfl (X.fieldAddr rfl Tryd.underlying33 rfl sz_30 (by decide)) ?_
        refine L.va rfl (X.load rfl sc_30 (by first | exact Ld.blk hk44 rfl)) ?_
        refine L.va rfl (X.len rfl Tryd.underlying30) ?_
        refine L.va rfl (X.move (by conv => lhs; whnf)) ?_
        refine L.va rfl (X.sub rfl rfl (by omega)) ?_
        refine L.va rfl (X.gtr rfl rfl) ?_
        refine L.va rfl (X.pickF rfl (by conv => lhs; whnf)) ?_
        refine L.nil ?_
        refine J.decT rfl (by omega) ?_
        refine J.seq ?_
        refine J.region ?_
        refine L.va rfl ((by first | exact X.loadAgg rfl (range_l hk44) Tryd.underlying33 rfl (by kernel_rfl) | exact X.loadAgg rfl (range_blk hk44) Tryd.underlying33 rfl (by kernel_rfl))) ?_
        refine L.va rfl (X.build (l := [_, _, _, _, _, _, _]) Evs.nil (bld_run Tryd.underlying42 (bp_42 Tryd.underlying42) zr_42 rfl)) ?_
        refine L.storeAgg (vs := [_, _, _, _, _, _, _]) rfl rfl rfl rfl sz_33 (hk84) rfl ?_
        intro w5 hk5 hg5 hs5
        have hk95 := hk9.grown hg5 (by intro h; injection h with h; omega)
        refine L.storeAgg (vs := [_, _, _, _, _, _, _]) rfl rfl rfl rfl sz_42 (hk95) rfl ?_
        intro w6 hk6 hg6 hs6
        have hk56 := hk5.grown hg6 (by intro h; injection h with h; omega)
        refine L.va rfl (X.assign (by conv => lhs; whnf)) ?_
        refine L.va rfl (X.assign (by conv => lhs; whnf)) ?_
        refine L.nil ?_
        refine J.ret ?_
        refine thn_ret <| ?_
        refine finCCTT rfl (run_cell hk56 Tryd.underlying33 rfl (by kernel_rfl)) rfl (run_cell hk6 Tryd.underlying42 rfl (by kernel_rfl)) ?_
        exact ⟨rfl, FIN hg5 hg6⟩
theorem image22 (h : v.At N C w) (hr : r.At N w) {m : Nat} (hok : r.abs.Ok m) (hm : m ≤ 1000000) (hab : v.abs = (r.abs.do_ ⟨2, 0, [], true, []⟩).1) : Calls Tryd.prog 33 #[v.ptr, r.v] w fun e w' => e = .returned (.bool true) ∧ Ext w w' := by
  have hNs := hr.hN
  refine enter Tryd.func33 rfl (by kernel_rfl) ?_
  refine J.seq ?_
  refine J.region ?_
  refine L.boxA (l := [_, _, _, _, _, _, _]) rfl rfl ?_
  intro b3 w2 hb3 hs2 hk3 he2
  have hk3 : Blk w2 b3 33 #[r.K, r.P, .bool r.off, .int .i64 r.left, .int .i64 r.rd, .int .i64 r.wr, .int .i64 r.fl] := hk3
  have K := (hr.ext he2).doC hok hm ⟨2, 0, none, 0, 0, false, none, 0, 0, [], []⟩ (M := N) (hr.ext he2).hN ⟨Reads.none_, Reads.none_, (fun z hz => by cases hz), by dsimp only; omega, by unfold maxLen; dsimp only; omega⟩ (fun hh => by cases hh) (by decide) (by decide)
  obtain ⟨Q, hQ⟩ : ∃ Q, Q = r.abs.do_ ⟨2, 0, [], true, []⟩ := ⟨_, rfl⟩
  have eD : r.abs.do_ (Dm.dd ⟨2, 0, none, 0, 0, false, none, 0, 0, [], []⟩) = Q := by rw [hQ]; exact do_odd r.abs 2 0 [] [] (fun hh => absurd hh (by decide))
  unfold Rk.DoC at K
  rw [eD] at K
  rw [← hQ] at hab
  refine L.va rfl (X.assign (by conv => lhs; whnf)) ?_
  refine L.nil ?_
  refine J.seq ?_
  refine J.region ?_
  refine L.va rfl ((by first | exact X.loadAgg rfl (range_l hk3) Tryd.underlying33 rfl (by kernel_rfl) | exact X.loadAgg rfl (range_blk hk3) Tryd.underlying33 rfl (by kernel_rfl))) ?_
  refine L.va rfl (X.build (l := [.int .i64 2, .int .i64 0, .slice none 0 0, .bool false, .slice none 0 0]) (Evs.cons rfl Evs.nil) (bld_run Tryd.underlying58 (bp_58 Tryd.underlying58) zr_58 rfl)) ?_
  refine L.call rfl en_18 rfl (K) ?_
  rintro e w3 ⟨r6, A6, n6, c6, rfl, k1, k2, k3, k4, k5, k6⟩
  refine ⟨_, rfl, ?_⟩
  have k4 : Ext w2 w3 := k4
  have hk33 := hk3.ext k4
  refine L.va rfl (X.move (by conv => lhs; whnf)) ?_
  refine L.va rfl (X.extract rfl rfl) ?_
  refine L.va rfl (X.extract rfl rfl) ?_
  refine L.va rfl (X.extract rfl rfl) ?_
  refine L.storeAgg (vs := [_, _, _, _, _, _, _]) rfl rfl rfl rfl sz_33 (hk33) rfl ?_
  intro w4 hk34 hg4 hs4
  have hk34 : Blk w4 b3 33 #[r6.K, r6.P, .bool r6.off, .int .i64 r6.left, .int .i64 r6.rd, .int .i64 r6.wr, .int .i64 r6.fl] := hk34
  have he4 : Ext w w4 := (he2.trans k4).grw hg4 (by intro g hg; injection hg with hg; omega)
  have r4 : r6.At N w4 := k1.blkL hk33 hg4 (by omega)
  have h4 := h.ext he4
  have eI : v.dat.flatten = (r6.kp.map (·.2)).flatten := by
    have h1 : v.abs.kept = r6.abs.kept := by rw [hab, k2]
    have h2 : v.kp.map (·.2) = r6.kp.map (·.2) := h1
    rw [← h2]
    rfl
  refine L.nil ?_
  refine J.seq ?_
  refine J.draw (ℓ := 1000000) (S := Ext w4) mixed (fun w11 hS hS_h => ?_)
  refine D.va 0 rfl (by kernel_rfl) (fun _ _ _ h => h) rfl (fun w' hw => X.move (by conv => lhs; whnf)) hS ?_
  refine D.va 3 rfl (by kernel_rfl) (fun _ _ _ h => h) rfl (fun w' hw => (by first | exact X.loadAgg rfl (range_l (hk34.ext hw)) Tryd.underlying33 rfl (by kernel_rfl) | exact X.loadAgg rfl (range_blk (hk34.ext hw)) Tryd.underlying33 rfl (by kernel_rfl))) hS ?_
  refine D.one 1 (by kernel_rfl) rfl ?_
  refine L.call rfl en_26 rfl (((h4.ext (hS)).image_)) ?_
  rintro e wA ⟨Ai, ci, rfl, hoi, hei⟩
  refine ⟨_, rfl, ?_⟩
  have hS1 := (hS).trans hei
  refine L.nil ?_
  refine ⟨fun _ => hS1, ?_⟩
  try replace hoj := hoj.ext hei
  refine D.two 2 4 (by kernel_rfl) rfl rfl ?_ ?_
  · refine L.va rfl (X.conv rfl ((own_reads hoi).conv (c := ci) Tryd.underlying39 Tryd.underlying5 Tryd.underlying9)) ?_
    refine L.nil ?_
    refine ⟨fun _ => hS1, ?_⟩
    refine D.one 4 (by kernel_rfl) rfl ?_
    refine L.call rfl en_27 rfl (((r4.ext (hS1)).image_)) ?_
    rintro e wB ⟨Aj, cj, rfl, hoj, hej⟩
    refine ⟨_, rfl, ?_⟩
    have hS2 := (hS1).trans hej
    refine L.nil ?_
    refine ⟨fun _ => hS2, ?_⟩
    try replace hoi := hoi.ext hej
    refine D.one 5 (by kernel_rfl) rfl ?_
    refine L.va rfl (X.conv rfl ((own_reads hoj).conv (c := cj) Tryd.underlying39 Tryd.underlying5 Tryd.underlying9)) ?_
    refine L.nil ?_
    refine ⟨fun _ => hS2, ?_⟩
    refine D.va 6 rfl (by kernel_rfl) (fun _ _ _ h => h) rfl (fun w' hw => X.eqlS rfl rfl) hS2 ?_
    refine D.va 7 rfl (by kernel_rfl) (fun _ _ _ h => h) rfl (fun w' hw => X.assign (by conv => lhs; whnf)) hS2 ?_
    refine D.done (by kernel_rfl) ?_
    replace hk34 := hk34.ext hS2
    refine J.ret ?_
    refine fin1 ?_
    refine ⟨?_, he4.trans (hS2)⟩
    rw [eI]
    show Ending.returned (.bool (decide (_ = _))) = _
    simp
  · refine L.call rfl en_27 rfl (((r4.ext (hS1)).image_)) ?_
    rintro e wB ⟨Aj, cj, rfl, hoj, hej⟩
    refine ⟨_, rfl, ?_⟩
    have hS2 := (hS1).trans hej
    refine L.nil ?_
    refine ⟨fun _ => hS2, ?_⟩
    try replace hoi := hoi.ext hej
    refine D.two 2 5 (by kernel_rfl) rfl rfl ?_ ?_
    · refine L.va rfl (X.conv rfl ((own_reads hoi).conv (c := ci) Tryd.underlying39 Tryd.underlying5 Tryd.underlying9)) ?_
      refine L.nil ?_
      refine ⟨fun _ => hS2, ?_⟩
      refine D.one 5 (by kernel_rfl) rfl ?_
      refine L.va rfl (X.conv rfl ((own_reads hoj).conv (c := cj) Tryd.underlying39 Tryd.underlying5 Tryd.underlying9)) ?_
      refine L.nil ?_
      refine ⟨fun _ => hS2, ?_⟩
      refine D.va 6 rfl (by kernel_rfl) (fun _ _ _ h => h) rfl (fun w' hw => X.eqlS rfl rfl) hS2 ?_
      refine D.va 7 rfl (by kernel_rfl) (fun _ _ _ h => h) rfl (fun w' hw => X.assign (by conv => lhs; whnf)) hS2 ?_
      refine D.done (by kernel_rfl) ?_
      replace hk34 := hk34.ext hS2
      refine J.ret ?_
      refine fin1 ?_
      refine ⟨?_, he4.trans (hS2)⟩
      rw [eI]
      show Ending.returned (.bool (decide (_ = _))) = _
      simp
    · refine L.va rfl (X.conv rfl ((own_reads hoj).conv (c := cj) Tryd.underlying39 Tryd.underlying5 Tryd.underlying9)) ?_
      refine L.nil ?_
      refine ⟨fun _ => hS2, ?_⟩
      refine D.one 2 (by kernel_rfl) rfl ?_
      refine L.va rfl (X.conv rfl ((own_reads hoi).conv (c := ci) Tryd.underlying39 Tryd.underlying5 Tryd.underlying9)) ?_
      refine L.nil ?_
      refine ⟨fun _ => hS2, ?_⟩
      refine D.va 6 rfl (by kernel_rfl) (fun _ _ _ h => h) rfl (fun w' hw => X.eqlS rfl rfl) hS2 ?_
      refine D.va 7 rfl (by kernel_rfl) (fun _ _ _ h => h) rfl (fun w' hw => X.assign (by conv => lhs; whnf)) hS2 ?_
      refine D.done (by kernel_rfl) ?_
      replace hk34 := hk34.ext hS2
      refine J.ret ?_
      refine fin1 ?_
      refine ⟨?_, he4.trans (hS2)⟩
      rw [eI]
      show Ending.returned (.bool (decide (_ = _))) = _
      simp
end
theorem Pair.start {N : Nat} {C : Nat → Prop} {G : Lg} {v v' : Dk} {r r' : Rk} {R' : Rl} {w w5 w6 : World} {fr ct fr' ct' : Nat} {ep ep' : Int} {A Ao : Option Addr} {c co : Nat} {bs bs' : List Bo} (hv : v.At N C w) (hr : r.At N w) (rk : r.K.ownBlock ≠ some v.kb) (cap : ∀ x, r.Cl x → Cap x) (O : Opened v N C fr ct ep w G v' A c bs w5) (Q : ROpened r N fr' ct' ep' w5 r' R' Ao co bs' w6) : Pair N C G v' r' R' w6 := by
  have he6 : Ext w5 w6 := Q.he
  have z5 := O.kq.size
  have hN := hr.hN
  have z6 := he6.le
  have kbl := (hv.hk.lt v.kb rfl).2
  refine ⟨O.at_.ext he6, Q.hr, Q.h.lower (by omega), fun x hx g hg hs => ?_, fun g hg hs => ?_, fun g hg hs => ?_, ?_, fun x hx => (Q.cf x hx).elim (cap x) (fun q => q.2)⟩
  · have h1 := O.new.s g hs
    have h2 := isT_lt (O.at_.hs.own hs).1
    rcases Q.cf x hx with q | q
    · have := hr.clt q hg
      omega
    · have := q.1 g hg
      omega
  · have h2 := isT_lt (O.at_.hs.own hs).1
    have h3 := (own_isT Q.h.hs hg).2
    omega
  · have h2 := isT_lt (own_isT O.at_.ht hs).1
    have h3 := (own_isT Q.h.ht hg).2
    omega
  · rw [O.kb]
    intro e
    rcases Q.fr_ _ e with q | q
    · exact rk q
    · omega
namespace Lo
theorem wrN_live : ∀ (k : Nat) (s : Ds) (l : Ls) (i : Nat), s.off = false → s.left = -1 → l.fr + i + k ≤ s.kept.length → (wrN s l i k).1.off = false ∧ (wrN s l i k).1.left = -1
  | 0, s, l, i, h1, h2, _ => ⟨h1, h2⟩
  | k + 1, s, l, i, h1, h2, h3 => by
    have hbl : (shB i (prevL l i) (chunk l i)).length ≤ 1001 := by have := chunk_le l i; unfold shB; simp only [List.length_append, be_length]; omega
    have hD := do_wr h1 h2 (l.fr + i) (by omega) (secL l.ep l.nx (shB i (prevL l i) (chunk l i))) (secL_len _ _ _ hbl)
    have eW : wrL s l i = (⟨s.kept, s.pend ++ [(l.fr + i, secL l.ep l.nx (shB i (prevL l i) (chunk l i)))], false, -1, s.rd, s.wr + 1, s.fl⟩, { l with tm := l.tm.take i ++ [l.nx], nx := l.nx + 1 }, 0) := by
      unfold wrL
      rw [hD]
      rfl
    have eN : wrN s l i (k + 1) = if (wrL s l i).2.2 = 0 then wrN (wrL s l i).1 (wrL s l i).2.1 (i + 1) k else ((wrL s l i).1, { (wrL s l i).2.1 with bad := (wrL s l i).2.2 }, (wrL s l i).2.2) := rfl
    rw [eN, eW, if_pos rfl]
    exact wrN_live k _ _ (i + 1) rfl rfl (by show l.fr + (i + 1) + k ≤ s.kept.length; omega)
theorem appL_live {s : Ds} {l : Ls} {n m : Nat} (h : Both s l n m) (h1 : s.off = false) (h2 : s.left = -1) (b : List Int) : (appL s l b).1.off = false ∧ (appL s l b).1.left = -1 := by
  have hL := h.lo
  have hk := h.kl
  have f1 := hL.f1
  unfold appL
  split
  · exact ⟨h1, h2⟩
  · split
    · exact ⟨h1, h2⟩
    · dsimp only
      split
      · exact ⟨h1, h2⟩
      · rename_i hf
        refine wrN_live _ _ _ _ h1 h2 ?_
        have hfl : (frm smZ b).length = 8 + b.length := frm_length smZ (fun _ => rfl) b
        rw [hfl] at hf ⊢
        show l.fr + _ + _ ≤ _
        have hf1 : ¬ l.ct * 991 < l.sm.length + (8 + b.length) := fun q => hf (.inl q)
        omega
end Lo
end Go.Proofs.YtjdimgigbgafbaaDoor
namespace Go.Proofs.YtjdimgigbgafbaaDoor
set_option maxRecDepth 100000
open Go.RowKit H
open Lo Byts Seal Fram
set_option linter.unusedVariables false
structure Pc where
  (kind ep st at_ ah : Int) (bA : Option Addr) (bn bc : Nat) (bytes : List Int) (full : Bool)
abbrev Pc.vals (x : Pc) : List Value := [.int .i64 x.kind, .int .u64 x.ep, .int .u64 x.st, .int .u16 x.at_, .int .u64 x.ah, .slice x.bA x.bn x.bc, .bool x.full]
structure Pc.At (x : Pc) (N : Nat) (w : World) : Prop where
  hb : Reads w N 1 x.bA x.bn (nums .u8 x.bytes)
  hz : Bytes x.bytes
  he : 0 ≤ x.ep ∧ x.ep ≤ 18446744073709551615
  hs : 0 ≤ x.st ∧ x.st ≤ 18446744073709551615
  ha : 0 ≤ x.at_ ∧ x.at_ ≤ 65535
  hh : 0 ≤ x.ah ∧ x.ah ≤ 18446744073709551615
  hl : x.bn ≤ x.bc ∧ x.bc ≤ maxLen
theorem Pc.At.low {x : Pc} {N : Nat} {w w' : World} (h : x.At N w) (hb : Below N w w') : x.At N w' := ⟨h.hb.low hb (Nat.le_refl _), h.hz, h.he, h.hs, h.ha, h.hh, h.hl⟩
theorem Pc.At.len {x : Pc} {N : Nat} {w : World} (h : x.At N w) : x.bytes.length = x.bn := by have := h.hb.1; simpa [nums] using this
structure PcsAt (xs : List Pc) (A : Option Addr) (n N : Nat) (w : World) : Prop where
  hr : Reads w N 7 A n (xs.flatMap Pc.vals)
  hx : ∀ x ∈ xs, x.At N w
  hn : xs.length = n
theorem PcsAt.low {xs : List Pc} {A : Option Addr} {n N : Nat} {w w' : World} (h : PcsAt xs A n N w) (hb : Below N w w') : PcsAt xs A n N w' := ⟨h.hr.low hb (Nat.le_refl _), fun x hx => (h.hx x hx).low hb, h.hn⟩
theorem PcsAt.row {xs : List Pc} {A : Option Addr} {n N : Nat} {w : World} (h : PcsAt xs A n N w) {i : Nat} (hi : i < n) : ∃ x, xs[i]? = some x ∧ x ∈ xs ∧ x.At N w := by
  have hlt : i < xs.length := by rw [h.hn]; exact hi
  exact ⟨xs[i], List.getElem?_eq_getElem hlt, List.getElem_mem hlt, h.hx _ (List.getElem_mem hlt)⟩
theorem pc_len (x : Pc) : x.vals.length = 7 := rfl
theorem Nm.u16 (x : Nm .u16) : 0 ≤ x.z ∧ x.z ≤ 65535 := by
  have := x.ok
  simp [Lit.wf, IntKind.min, IntKind.max, IntKind.signed, IntKind.bits] at this
  omega
theorem pcs_of {w : World} {N n : Nat} {A : Option Addr} {xs : List ((Nm .i64) × (Nm .u64) × (Nm .u64) × (Nm .u16) × (Nm .u64) × (List (Nm .u8)) × (Bool))} (h : LiesSlice w N A n xs) : ∃ ds : List Pc, PcsAt ds A n N w := by
  obtain ⟨l, h1, h2, h3⟩ := h.rows (X := Pc) (f := Pc.vals) (g := fun x => x.At N w) (fun x => rfl) (fun us a hl => by
    obtain ⟨u1, v1, rfl, e1, u2, v2, rfl, e2, u3, v3, rfl, e3, u4, v4, rfl, e4, u5, v5, rfl, e5, u6, v6, rfl, ⟨dA, dn, dc, rfl, k1, k2, _, k3⟩, e7⟩ := hl
    obtain rfl : u1 = [.int .i64 a.1.z] := e1
    obtain rfl : u2 = [.int .u64 a.2.1.z] := e2
    obtain rfl : u3 = [.int .u64 a.2.2.1.z] := e3
    obtain rfl : u4 = [.int .u16 a.2.2.2.1.z] := e4
    obtain rfl : u5 = [.int .u64 a.2.2.2.2.1.z] := e5
    obtain rfl : v6 = [.bool a.2.2.2.2.2.2] := e7
    exact ⟨⟨a.1.z, a.2.1.z, a.2.2.1.z, a.2.2.2.1.z, a.2.2.2.2.1.z, dA, dn, dc, zsOf a.2.2.2.2.2.1, a.2.2.2.2.2.2⟩, rfl, k3.reads, zsOf_u8 _, a.2.1.u64, a.2.2.1.u64, Nm.u16 _, a.2.2.2.2.1.u64, k1, k2⟩)
  exact ⟨l, h2, h3, h1⟩
theorem vec2i {w : World} {B : Nat} {vs : List Value} {a : Vec 2 (Nm .i64)} (h : Lay.lies w B vs a) : ∃ p q : Int, (-9223372036854775808 ≤ p ∧ p ≤ 9223372036854775807) ∧ vs = [.int .i64 p, .int .i64 q] := by
  obtain ⟨l, hl⟩ := a
  obtain ⟨h1, h2⟩ := h
  have hs : vs.length = 2 := h1
  rcases l with _ | ⟨y0, _ | ⟨y1, _ | ⟨y2, t⟩⟩⟩
  · cases hl
  · cases hl
  · rcases vs with _ | ⟨v0, _ | ⟨v1, _ | ⟨v2, u⟩⟩⟩
    · cases hs
    · cases hs
    · have g0 : [v0] = [.int .i64 y0.z] := h2 0 y0 rfl
      have g1 : [v1] = [.int .i64 y1.z] := h2 1 y1 rfl
      simp only [List.cons.injEq, and_true] at g0 g1
      exact ⟨y0.z, y1.z, y0.i64, by rw [g0, g1]⟩
    · simp only [List.length_cons] at hs
      omega
  · simp only [List.length_cons] at hl
    omega
structure RdAt (w0 : World) (v0 : Dk) (b10 i : Nat) (v : Dk) (r : Rk) (w : World) : Prop where
  hv : v.At w0.heap.size (· < w0.heap.size) w
  d : v.d = v0.d
  kb : v.kb = v0.kb
  hr : r.At w0.heap.size w
  rk : r.K.ownBlock ≠ some v.kb
  cap : ∀ x, r.Cl x → Cap x
  ab : r.abs = v.abs
  ok : v.abs.Ok (i + 5)
  by_ : Byte v.abs
  off : v.abs.off = false
  left : v.abs.left = -1
  kl : v.abs.kept.length = 8
  k10 : Blk w b10 33 #[r.K, r.P, .bool r.off, .int .i64 r.left, .int .i64 r.rd, .int .i64 r.wr, .int .i64 r.fl]
  low : Ext w0 w
def y8 : Ds := ⟨List.replicate 8 zZ2, [], false, -1, 0, 0, 0⟩
theorem y8_ok : y8.Ok 5 := by
  refine ⟨by decide, ?_, (fun x hx => by cases hx), by decide, by decide⟩
  intro x hx
  obtain ⟨_, rfl⟩ := List.mem_replicate.1 hx
  exact zZ2_len
theorem y8_by : Byte y8 := by
  refine ⟨?_, (fun x hx => by cases hx)⟩
  intro x hx
  obtain ⟨_, rfl⟩ := List.mem_replicate.1 hx
  exact zZ2_bytes
theorem blkOf_bytes {zs : List Int} (h : Bytes zs) : Bytes (blkOf zs) := by
  intro z hz
  unfold blkOf at hz
  obtain ⟨i, _, rfl⟩ := List.mem_map.1 hz
  split
  · exact getD_nn h _
  · omega
theorem allF_few8 {l : List Int} (hl : Bytes l) : ∀ (n p : Nat), l.length - p ≤ n → (allF l p).1.length ≤ l.length - p
  | 0, p, h => by rw [allF_end (by omega)]; exact Nat.zero_le _
  | n + 1, p, h => by
    by_cases h1 : p < l.length
    · by_cases h2 : gE smZ (l.drop p) = 0
      · rw [allF_ok h1 h2]
        have hg := gN_ok (fun z hz => hl z (List.mem_of_mem_drop hz)) h2
        rw [List.length_drop] at hg
        have ih := allF_few8 hl n (p + gStep (l.drop p)) (by omega)
        show (allF l (p + gStep (l.drop p))).1.length + 1 ≤ _
        omega
      · rw [allF_bad h1 h2]; exact Nat.zero_le _
    · rw [allF_end (by omega)]; exact Nat.zero_le _
set_option maxHeartbeats 40000000 in
theorem law_LogReads (w : World) (ht : Tab w) (A0 : Option Addr) (n0 c0 : Nat) (xs0 : List ((Nm .i64) × (Nm .u64) × (Nm .u64) × (Nm .u16) × (Nm .u64) × (List (Nm .u8)) × (Bool))) (hn0 : n0 ≤ c0) (hc0 : c0 ≤ maxLen) (hA0 : A0 = none → c0 = 0) (hl0 : LiesSlice w w.heap.size A0 n0 xs0) (vs1 : List Value) (a1 : Vec 2 (Nm .i64)) (hl1 : Lay.lies w w.heap.size vs1 a1) (x2 : Nm .u64) :
    Calls Tryd.prog 4 #[.slice A0 n0 c0, .agg vs1.toArray, .int .u64 x2.z] w fun e w' => e = .returned (.bool true) ∧ Below w.heap.size w w' := by
  obtain ⟨ds, hds⟩ := pcs_of hl0
  obtain ⟨p, q, hp, rfl⟩ := vec2i hl1
  have hdn := hds.hn
  have hx2 := x2.u64
  obtain ⟨ep, hep⟩ : ∃ e, e = x2.z := ⟨_, rfl⟩
  rw [← hep] at hx2 ⊢
  refine enter Tryd.func4 rfl (by kernel_rfl) ?_
  refine J.seq ?_
  refine J.region ?_
  refine L.boxA (l := [_, _]) rfl rfl ?_
  intro b4 wb hb4 hsb hk4 heb
  have hk4 : Blk wb b4 69 #[.int .i64 p, .int .i64 q] := hk4
  have heb : Ext w wb := heb
  refine L.va rfl (X.assign (by conv => lhs; whnf)) ?_
  refine L.nil ?_
  refine J.seq ?_
  refine J.seq ?_
  refine J.region ?_
  refine L.va rfl (X.move (by conv => lhs; whnf)) ?_
  refine L.va rfl (X.len rfl Tryd.underlying68) ?_
  refine L.va rfl (X.gtr rfl rfl) ?_
  refine L.nil ?_
  refine J.dec rfl (fun h8 => ?_) (fun h8 => ?_)
  · refine J.seq ?_
    refine J.region ?_
    refine L.call rfl en_7 rfl (awake22 wb (tabx ht heb)) ?_
    rintro e w1 ⟨rfl, he1⟩
    refine ⟨_, rfl, ?_⟩
    refine L.va rfl (X.assign (by conv => lhs; whnf)) ?_
    refine L.nil ?_
    refine J.ret ?_
    refine thn_ret <| ?_
    refine fin1 ?_
    exact ⟨rfl, heb.trans he1⟩
  · have hn8 : n0 ≤ 8 := by omega
    have hdsb := hds.low heb
    have hRb := hdsb.hr
    refine J.skip ?_
    refine J.seq ?_
    refine J.seq ?_
    refine J.region ?_
    refine L.va rfl (X.assign (by conv => lhs; whnf)) ?_
    refine L.nil ?_
    refine J.block ?_
    refine J.loop (X := Nat) [6, 7, 28, 29, 30, 31, 32, 33, 34, 35, 36, 37, 38, 39, 40, 41] (fun i => [(7, .int .i64 (i : Int))]) (fun i w' => w' = wb ∧ i ≤ n0 ∧ ∀ j x, j < i → ds[j]? = some x → x.bn ≤ 991) (fun i => n0 - i) (0) (At1 (by first | rfl | exact at_int rfl (by omega) | exact at_slice rfl (by omega) | exact at_int rfl (by simp))) ?_ ?_
    · exact ⟨rfl, Nat.zero_le _, fun j x hj => absurd hj (Nat.not_lt_zero _)⟩
    · rintro i g w1 ⟨rfl, hi, hall⟩
      refine J.seq ?_
      refine J.seq ?_
      refine J.region ?_
      refine L.va rfl (X.move (by conv => lhs; whnf)) ?_
      refine L.va rfl (X.move (by conv => lhs; whnf)) ?_
      refine L.va rfl (X.len rfl Tryd.underlying68) ?_
      refine L.va rfl (X.lss rfl rfl) ?_
      refine L.nil ?_
      refine J.dec rfl (fun hlt => ?_) (fun hlt => ?_)
      · obtain ⟨x, hxi, hxm, hxA⟩ := hdsb.row (show i < n0 by omega)
        have hl := hxA.hl
        unfold maxLen at hl
        refine J.skip ?_
        refine J.seq ?_
        refine J.block ?_
        refine J.seq ?_
        refine J.region ?_
        refine L.va rfl (X.move (by conv => lhs; whnf)) ?_
        refine L.va rfl (X.move (by conv => lhs; whnf)) ?_
        refine L.va rfl ((by first | exact X.indexAddrn rfl rfl Tryd.underlying68 sz_72 (by first | exact Option.some_ne_none _ | exact hRb.some_ (by omega)) (by omega) | exact X.indexAddr rfl rfl Tryd.underlying68 sz_72 (by first | exact Option.some_ne_none _ | exact hRb.some_ (by omega)) (by omega))) ?_
        refine L.va rfl (X.fieldP rfl Tryd.underlying72 rfl sz_39 (by decide) (by first | exact Option.some_ne_none _ | exact hRb.some_ (by omega))) ?_
        refine L.va rfl (X.load rfl sc_39 (Ld.flat pc_len hRb hxi (r := 5) rfl)) ?_
        refine L.va rfl (X.len rfl Tryd.underlying39) ?_
        refine L.va rfl (X.gtr rfl rfl) ?_
        refine L.nil ?_
        refine J.dec rfl (fun h10 => ?_) (fun h10 => ?_)
        · refine J.seq ?_
          refine J.region ?_
          refine L.call rfl en_7 rfl (awake22 w1 (tabx ht heb)) ?_
          rintro e w2 ⟨rfl, he2⟩
          refine ⟨_, rfl, ?_⟩
          refine L.va rfl (X.assign (by conv => lhs; whnf)) ?_
          refine L.nil ?_
          refine J.ret ?_
          refine inB_ret <|  thn_ret <|  thn_ret <|  inB_ret <|  thn_ret <| ?_
          refine fin1 ?_
          exact ⟨rfl, heb.trans he2⟩
        · refine J.skip ?_
          refine J.region ?_
          refine L.va rfl (X.move (by conv => lhs; whnf)) ?_
          refine L.va rfl (X.add rfl rfl (by omega)) ?_
          refine L.va rfl (X.assign (by conv => lhs; whnf)) ?_
          refine L.nil ?_
          refine ⟨i + 1, At1 (by first | rfl | exact at_int rfl (by omega) | exact at_slice rfl (by omega) | exact at_int rfl (by simp)), (by (iterate 14 refine Agr.lk rfl ?_); exact Agr.lk rfl (Agr.hav rfl Agr.rfl')), ?_⟩
          refine ⟨⟨rfl, by omega, fun j y hj hy => ?_⟩, by omega⟩
          rcases Nat.lt_or_ge j i with hj2 | hj2
          · exact hall j y hj2 hy
          · obtain rfl : j = i := by omega
            rw [hxi] at hy
            injection hy with hy
            subst hy
            omega
      · obtain rfl : i = n0 := by omega
        refine J.exit ?_
        refine J.seq ?_
        refine J.region ?_
        have z1 := heb.le
        have hk4w := hk4.lt
        refine L.call rfl en_8 rfl (new_ok 8 (by omega)) ?_
        rintro e w2 ⟨v0, rfl, hv0, k1, k2, k3, k4, k5, k6, k7, he2⟩
        refine ⟨_, rfl, ?_⟩
        have he2 : Ext w1 w2 := he2
        have a0 : v0.abs = y8 := by
          unfold Dk.abs abs_
          rw [show v0.kp.map (·.2) = v0.dat from rfl, k7, k1, k2, k3, k4, k5, k6]
          rfl
        refine L.va rfl (X.move (by conv => lhs; whnf)) ?_
        refine L.va rfl (X.extract rfl rfl) ?_
        refine L.va rfl (X.extract rfl rfl) ?_
        refine L.va rfl (X.assign (by conv => lhs; whnf)) ?_
        refine L.va rfl (X.assign (by conv => lhs; whnf)) ?_
        refine L.nil ?_
        refine J.seq ?_
        refine J.region ?_
        refine L.call rfl en_9 rfl (refnewC (w := w2) 8 (by omega) (N0 := w1.heap.size) he2.le) ?_
        rintro e w3 ⟨r0, rfl, hr0, ar0, he3, hK0, hcap0⟩
        refine ⟨_, rfl, ?_⟩
        have he3 : Ext w2 w3 := he3
        have ar0 : r0.abs = y8 := ar0
        refine L.alloc rfl zr_33 ?_
        intro b10 w4 hb10 hs10 hk10 he4
        have z2 := he2.le
        have z3 := he3.le
        have z4 := he4.le
        refine L.storeAgg (vs := [_, _, _, _, _, _, _]) rfl rfl rfl rfl sz_33 (hk10) rfl ?_
        intro w5 hk105 hg5 hs5
        have hk105 : Blk w5 b10 33 #[r0.K, r0.P, .bool r0.off, .int .i64 r0.left, .int .i64 r0.rd, .int .i64 r0.wr, .int .i64 r0.fl] := hk105
        have he25 : Ext w2 w5 := (he3.trans he4).grw hg5 (by intro g hg; injection hg with hg; omega)
        have wb10 : w1.heap.size ≤ b10 := by omega
        have kbl : v0.kb < w2.heap.size := (hv0.hk.lt v0.kb rfl).2
        have D0 : RdAt w1 v0 b10 0 v0 r0 w5 := by
          refine ⟨hv0.ext he25, rfl, rfl, (hr0.ext he4).blkL hk10 hg5 wb10, fun e => by have := hK0 _ e; omega, hcap0, by rw [ar0, a0], by rw [a0]; exact y8_ok, by rw [a0]; exact y8_by, by rw [a0]; rfl, by rw [a0]; rfl, by rw [a0]; rfl, hk105, he2.trans he25⟩
        have nb : ∀ {x y : Nat}, x ≠ y → some x ≠ some y := fun hh e => hh (by injection e)
        refine L.nil ?_
        refine J.seq ?_
        refine J.seq ?_
        refine J.region ?_
        refine L.va rfl (X.assign (by conv => lhs; whnf)) ?_
        refine L.nil ?_
        refine J.block ?_
        refine J.loop (X := Nat × Dk × Rk) [11, 12, 13, 14, 15, 47, 48, 49, 50, 51, 52, 53, 54, 55, 56, 57, 58, 59, 60, 61, 62, 63, 64, 65, 66, 67, 68, 69, 70, 71, 72, 73, 74, 75, 76, 77, 78, 79, 80, 81, 82, 83, 84, 85, 86, 87, 88, 89, 90, 91, 92, 93, 94, 95, 96, 97, 98, 99, 100, 101, 102, 103, 104] (fun (j, v, r) => [(11, .int .i64 (j : Int))]) (fun (j, v, r) w' => j ≤ i ∧ RdAt w1 v0 b10 j v r w') (fun (j, _) => i - j) ((0, v0, r0)) (At1 (by first | rfl | exact at_int rfl (by omega) | exact at_slice rfl (by omega) | exact at_int rfl (by simp))) ?_ ?_
        · exact ⟨Nat.zero_le _, D0⟩
        · rintro ⟨j, v, r⟩ g w6 ⟨hj, H⟩
          have hdd : PcsAt ds A0 i w.heap.size w6 := hds.low (heb.trans H.low)
          have hR6 := hdd.hr
          have e0 : v.ptr = v0.ptr := by unfold Dk.ptr; rw [H.d]
          have z6 := H.low.le
          have hkp : v.kp.length = 8 := by rw [← v.klen]; exact H.kl
          have lt10 := H.k10.lt
          refine J.seq ?_
          refine J.seq ?_
          refine J.region ?_
          refine L.va rfl (X.move (by conv => lhs; whnf)) ?_
          refine L.va rfl (X.move (by conv => lhs; whnf)) ?_
          refine L.va rfl (X.len rfl Tryd.underlying68) ?_
          refine L.va rfl (X.lss rfl rfl) ?_
          refine L.nil ?_
          refine J.dec rfl (fun hlt2 => ?_) (fun hlt2 => ?_)
          · have hjl : j < i := by omega
            obtain ⟨x, hxi, hxm, hxA⟩ := hdd.row hjl
            have hx991 := hall j x hjl hxi
            have hxl := hxA.hl
            have hxlen := hxA.len
            unfold maxLen at hxl
            refine J.skip ?_
            refine J.seq ?_
            refine J.block ?_
            refine J.seq ?_
            refine J.region ?_
            refine L.va rfl (X.move (by conv => lhs; whnf)) ?_
            refine L.va rfl (X.move (by conv => lhs; whnf)) ?_
            refine L.va rfl ((by first | exact X.indexAddrn rfl rfl Tryd.underlying68 sz_72 (by first | exact Option.some_ne_none _ | exact hR6.some_ (by omega)) (by omega) | exact X.indexAddr rfl rfl Tryd.underlying68 sz_72 (by first | exact Option.some_ne_none _ | exact hR6.some_ (by omega)) (by omega))) ?_
            refine L.va rfl (X.loadRow (cs := x.vals) rfl hR6 (fun r u hu => flat_row pc_len hxi r u hu) (Nat.zero_lt_succ _) Tryd.underlying72 rfl (by kernel_rfl)) ?_
            refine L.alloc rfl zr_72 ?_
            intro b12 w7 hb12 hs12 hk12 he7
            refine L.storeAgg (vs := [_, _, _, _, _, _, _]) rfl rfl rfl rfl sz_72 (hk12) rfl ?_
            intro w8 hk128 hg8 hs8
            have he68 : Ext w6 w8 := he7.grw hg8 (by intro g hg; injection hg with hg; omega)
            have k12 : Blk w8 b12 72 #[.int .i64 x.kind, .int .u64 x.ep, .int .u64 x.st, .int .u16 x.at_, .int .u64 x.ah, .slice x.bA x.bn x.bc, .bool x.full] := hk128
            have z8 := he68.le
            have hb8 := (hxA.hb.low (Below.mono he68 (by omega)) (Nat.le_refl _)).more (B' := w8.heap.size) (by omega)
            refine L.nil ?_
            refine J.seq ?_
            refine J.region ?_
            refine L.va rfl (X.fieldAddr rfl Tryd.underlying72 rfl sz_39 (by decide)) ?_
            refine L.va rfl (X.load rfl sc_39 (by first | exact Ld.blk k12 rfl)) ?_
            refine L.va rfl (X.assign (by conv => lhs; whnf)) ?_
            refine L.nil ?_
            refine J.cut (X := Option Addr × Nat × Nat × List Int) [13, 59, 60, 61, 62, 63, 64] (fun (A, n, c, bz) => [(13, .slice A n c)]) (fun (A, n, c, bz) w' => Reads w' w'.heap.size 1 A n (nums .u8 bz) ∧ Bytes bz ∧ n ≤ 991 ∧ Ext w8 w') ?_ ?_
            · refine J.seq ?_
              refine J.region ?_
              refine L.va rfl (X.fieldAddr rfl Tryd.underlying72 rfl sz_4 (by decide)) ?_
              refine L.va rfl (X.load rfl sc_4 (by first | exact Ld.blk k12 rfl)) ?_
              refine L.nil ?_
              cases hfu : x.full
              · refine J.iteF rfl ?_
                refine J.skip ?_
                refine ⟨(x.bA, x.bn, x.bc, x.bytes), At1 (by first | rfl | exact at_int rfl (by omega) | exact at_slice rfl (by omega) | exact at_int rfl (by simp)), (by (iterate 2 refine Agr.lk rfl ?_); exact Agr.rfl'), ?_⟩
                exact ⟨hb8, hxA.hz, hx991, Ext.refl _⟩
              · refine J.iteT rfl ?_
                refine J.region ?_
                refine L.va rfl (X.fieldAddr rfl Tryd.underlying72 rfl sz_39 (by decide)) ?_
                refine L.va rfl (X.load rfl sc_39 (by first | exact Ld.blk k12 rfl)) ?_
                refine L.call rfl en_28 rfl (block_ x.bA x.bn x.bc x.bytes hb8 (by omega)) ?_
                rintro e w9 ⟨A9, c9, rfl, ho9, he9⟩
                refine ⟨_, rfl, ?_⟩
                have he9 : Ext w8 w9 := he9
                have hc9 := own_bd ho9
                refine L.va rfl ((by first | exact X.sliceTon (j := 991) rfl rfl Tryd.underlying39 sz_5 (by omega) | exact X.sliceTo rfl rfl Tryd.underlying39 sz_5 (by omega))) ?_
                refine L.va rfl (X.assign (by conv => lhs; whnf)) ?_
                refine L.nil ?_
                refine ⟨(A9, 991, c9, (blkOf x.bytes).take 991), At1 (by first | rfl | exact at_int rfl (by omega) | exact at_slice rfl (by omega) | exact at_int rfl (by simp)), (by (iterate 7 refine Agr.lk rfl ?_); exact Agr.rfl'), ?_⟩
                refine ⟨?_, fun z hz => blkOf_bytes hxA.hz z (List.mem_of_mem_take hz), Nat.le_refl _, he9⟩
                have := (Reads.of_own ho9).first (k := 991) (by omega)
                simpa [nums] using this
            · rintro ⟨A, n, c, bz⟩ g w9 ⟨hr9, hbz, hn991, he9⟩
              have he9 : Ext w8 w9 := he9
              have hbl : bz.length = n := by have := hr9.1; simpa [nums] using this
              obtain ⟨an, han⟩ : ∃ an : Nat, x.at_ = (an : Int) := Int.eq_ofNat_of_zero_le hxA.ha.1
              have ha2 := hxA.ha.2
              have k129 := k12.ext he9
              have z9 := he9.le
              have K17 := sheet22 x.ep x.st an x.ah A n c bz w9 hr9 (by omega) (by omega) hxA.hh
              rw [← han] at K17
              obtain ⟨sb, hsb2⟩ : ∃ l, l = shB an x.ah bz := ⟨_, rfl⟩
              rw [← hsb2] at K17
              have hsbl : sb.length ≤ 1001 := by rw [hsb2]; unfold shB; simp only [List.length_append, be_length]; omega
              have hsbb : Bytes sb := by rw [hsb2]; exact shB_bytes hbz
              refine J.seq ?_
              refine J.region ?_
              refine L.va rfl (X.fieldAddr rfl Tryd.underlying72 rfl sz_35 (by decide)) ?_
              refine L.va rfl (X.load rfl sc_35 (by first | exact Ld.blk k129 rfl)) ?_
              refine L.va rfl (X.fieldAddr rfl Tryd.underlying72 rfl sz_35 (by decide)) ?_
              refine L.va rfl (X.load rfl sc_35 (by first | exact Ld.blk k129 rfl)) ?_
              refine L.va rfl (X.fieldAddr rfl Tryd.underlying72 rfl sz_70 (by decide)) ?_
              refine L.va rfl (X.load rfl sc_70 (by first | exact Ld.blk k129 rfl)) ?_
              refine L.va rfl ((by first | exact X.convI rfl is_70 Tryd.underlying3 (by omega) | exact X.convw rfl is_70 Tryd.underlying3)) ?_
              refine L.va rfl (X.fieldAddr rfl Tryd.underlying72 rfl sz_35 (by decide)) ?_
              refine L.va rfl (X.load rfl sc_35 (by first | exact Ld.blk k129 rfl)) ?_
              refine L.va rfl (X.move (by conv => lhs; whnf)) ?_
              refine L.call rfl en_29 rfl (K17) ?_
              rintro e w10 ⟨A10, c10, rfl, ho10, he10⟩
              refine ⟨_, rfl, ?_⟩
              have he10 : Ext w9 w10 := he10
              have k1210 := k129.ext he10
              refine L.alloc rfl zr_75 ?_
              intro b14 w11 hb14 hs14 hk14 he11
              refine L.storeAgg (vs := [_, _, _, _]) rfl rfl rfl rfl sz_75 (hk14) rfl ?_
              intro w12 hk1412 hg12 hs12'
              have k14 : Blk w12 b14 75 #[.int .i64 1, .int .u64 x.ep, .int .u64 x.st, .slice A10 sb.length c10] := hk1412
              have z10 := he10.le
              have z11 := he11.le
              have z12 := hg12.size
              have he1012 : Ext w10 w12 := he11.grw hg12 (by intro g hg; injection hg with hg; omega)
              have k1212 := k1210.ext he1012
              have ho12 := ho10.ext he1012
              have he812 : Ext w8 w12 := (he9.trans he10).trans he1012
              have hb12' := (hb8.low he812 (Nat.le_refl _)).more (B' := w12.heap.size) he812.le
              refine L.nil ?_
              refine J.seq ?_
              refine J.region ?_
              refine L.va rfl (X.fieldAddr rfl Tryd.underlying72 rfl sz_39 (by decide)) ?_
              refine L.va rfl (X.load rfl sc_39 (by first | exact Ld.blk k14 rfl | exact Ld.blk k1212 rfl)) ?_
              refine L.call rfl en_28 rfl (block_ x.bA x.bn x.bc x.bytes hb12' (by omega)) ?_
              rintro e w13 ⟨A13, c13, rfl, ho13, he13⟩
              refine ⟨_, rfl, ?_⟩
              have he13 : Ext w12 w13 := he13
              have k1413 := k14.ext he13
              have k1213 := k1212.ext he13
              have z13 := he13.le
              refine L.va rfl (X.assign (by conv => lhs; whnf)) ?_
              refine L.nil ?_
              refine J.cut (X := Option Addr × Nat × List Int) [15, 79, 80, 81, 82, 83, 84, 85, 86, 87, 88, 89, 90, 91] (fun (A, c, zs) => [(15, .slice A 1024 c)]) (fun (A, c, zs) w' => w'.ownsRow w6.heap.size 5 1 (.slice A 1024 c) 1024 (nums .u8 zs) ∧ Bytes zs ∧ Ext w10 w') ?_ ?_
              · have he1013 := he1012.trans he13
                refine J.seq ?_
                refine J.region ?_
                refine L.va rfl (X.fieldAddr rfl Tryd.underlying72 rfl sz_3 (by decide)) ?_
                refine L.va rfl (X.load rfl sc_3 (by first | exact Ld.blk k1413 rfl | exact Ld.blk k1213 rfl)) ?_
                refine L.va rfl (X.geq rfl rfl) ?_
                refine L.va rfl (X.move (by conv => lhs; whnf)) ?_
                refine L.caseDec (k := 82) rfl (fun g1 => ?_) (fun g1 => ?_)
                · refine L.va rfl (X.fieldAddr rfl Tryd.underlying72 rfl sz_3 (by decide)) ?_
                  refine L.va rfl (X.load rfl sc_3 (by first | exact Ld.blk k1413 rfl | exact Ld.blk k1213 rfl)) ?_
                  refine L.va rfl (X.leq rfl rfl) ?_
                  refine L.va rfl (X.pickT rfl (by conv => lhs; whnf)) ?_
                  refine L.nil ?_
                  refine J.dec rfl (fun g2 => ?_) (fun g2 => ?_)
                  · refine J.seq ?_
                    refine J.region ?_
                    refine L.va rfl (X.fieldAddr rfl Tryd.underlying72 rfl sz_3 (by decide)) ?_
                    refine L.va rfl (X.load rfl sc_3 (by first | exact Ld.blk k1413 rfl | exact Ld.blk k1213 rfl)) ?_
                    refine L.va rfl (X.fieldAddr rfl Tryd.underlying75 rfl sz_3 (by decide)) ?_
                    refine L.store rfl rfl (by conv => lhs; whnf) rfl sz_3 (k1413) (by first | decide | exact Nat.le_of_ble_eq_true rfl) ?_
                    intro w14 k1414 hg14 hs14'
                    have k1414 : Blk w14 b14 75 #[.int .i64 x.kind, .int .u64 x.ep, .int .u64 x.st, .slice A10 sb.length c10] := k1414
                    have ho14 := (ho12.ext he13).kept hg14 (.inr (own_blk_ne (ho12.ext he13) k1413 (by decide)))
                    have he1014 : Ext w10 w14 := he1013.grw hg14 (by intro g hg; injection hg with hg; omega)
                    have z14 := hg14.size
                    refine L.nil ?_
                    refine J.region ?_
                    refine L.va rfl ((by first | exact X.loadAgg rfl (range_l k1213) Tryd.underlying75 rfl (by kernel_rfl) | exact X.loadAgg rfl (range_blk k1213) Tryd.underlying75 rfl (by kernel_rfl) | exact X.loadAgg rfl (range_l k1414) Tryd.underlying75 rfl (by kernel_rfl) | exact X.loadAgg rfl (range_blk k1414) Tryd.underlying75 rfl (by kernel_rfl))) ?_
                    refine L.call rfl en_30 rfl (frefput20 x.kind x.ep x.st A10 sb.length c10 sb w14 (by omega) (by omega) hxA.he.1 hxA.he.2 hxA.hs.1 hxA.hs.2 hsbl (Reads.of_own ho14) hsbb) ?_
                    rintro e w15 ⟨A15, c15, rfl, ho15, he15⟩
                    refine ⟨_, rfl, ?_⟩
                    have he15 : Ext w14 w15 := he15
                    refine L.va rfl (X.assign (by conv => lhs; whnf)) ?_
                    refine L.nil ?_
                    refine ⟨(A15, c15, sec x.kind x.ep x.st sb (smZ (hd x.kind x.ep x.st sb))), At1 (by first | rfl | exact at_int rfl (by omega) | exact at_slice rfl (by omega) | exact at_int rfl (by simp)), (by (iterate 15 refine Agr.lk rfl ?_); exact Agr.rfl'), ?_⟩
                    refine ⟨ho15.mono (by omega), ?_, he1014.trans he15⟩
                    intro y hy
                    unfold sec at hy
                    rcases List.mem_append.1 hy with hy | hy
                    · exact hd_bytes _ _ _ _ (by omega) hsbb y hy
                    · exact smZ_bytes _ y hy
                  · refine J.skip ?_
                    refine ⟨(A13, c13, blkOf x.bytes), At1 (by first | rfl | exact at_int rfl (by omega) | exact at_slice rfl (by omega) | exact at_int rfl (by simp)), (by (iterate 9 refine Agr.lk rfl ?_); exact Agr.rfl'), ?_⟩
                    exact ⟨ho13.mono (by omega), blkOf_bytes hxA.hz, he1013⟩
                · refine L.no rfl ?_
                  refine L.no rfl ?_
                  refine L.no rfl ?_
                  refine L.va rfl (X.pickF rfl (by conv => lhs; whnf)) ?_
                  refine L.nil ?_
                  refine J.iteF rfl ?_
                  refine J.skip ?_
                  refine ⟨(A13, c13, blkOf x.bytes), At1 (by first | rfl | exact at_int rfl (by omega) | exact at_slice rfl (by omega) | exact at_int rfl (by simp)), (by (iterate 9 refine Agr.lk rfl ?_); exact Agr.rfl'), ?_⟩
                  exact ⟨ho13.mono (by omega), blkOf_bytes hxA.hz, he1013⟩
              · rintro ⟨A16, c16, zs⟩ g w16 ⟨ho16, hzb, he16⟩
                have he16 : Ext w10 w16 := he16
                have z16 := he16.le
                have hzl : zs.length = 1024 := by have := ho16.1; simpa [nums] using this
                have he616 : Ext w6 w16 := ((he68.trans he9).trans he10).trans he16
                have hv16 := H.hv.ext he616
                have hr16 := H.hr.ext he616
                have k1016 := H.k10.ext he616
                have hbd := do_wr H.off H.left j (by rw [H.kl]; omega) zs hzl
                obtain ⟨S, hS⟩ : ∃ S, S = v.abs.do_ ⟨1, (j : Int), zs, true, []⟩ := ⟨_, rfl⟩
                rw [← hS] at hbd
                have eb : (Dd.mk 1 (j : Int) zs true []).bytes = zs := by unfold Dd.bytes; rw [if_pos rfl]
                have K := hv16.write_anyF H.ok (by omega) ⟨1, (j : Int), zs, true, []⟩ rfl (N0 := w1.heap.size) (Nat.le_refl _) A16 c16 (fun _ => .inl (by rw [eb]; exact Dat.of_own ho16))
                rw [eb, hzl, ← hS, e0] at K
                refine J.seq ?_
                refine J.region ?_
                refine L.va rfl (X.move (by conv => lhs; whnf)) ?_
                refine L.va rfl (X.move (by conv => lhs; whnf)) ?_
                refine L.va rfl (X.move (by conv => lhs; whnf)) ?_
                refine L.call rfl en_31 rfl (K) ?_
                rintro e w17 ⟨rfl, ⟨v17, p1, p2, p3, p4, p5, p6⟩, _⟩
                refine ⟨_, rfl, ?_⟩
                have hr17 := hr16.kq hv16 p5 (Nat.le_refl _) H.rk
                have k1017 := hv16.blkKq p5 k1016 (by decide) (by decide) (by decide)
                have ho17 : w17.ownsRow w6.heap.size 5 1 (.slice A16 1024 c16) 1024 (nums .u8 zs) := p5.chg.own ho16 fun g hg => by
                  have hT := (own_isT ho16 hg).1
                  rintro (q | q | ⟨q, _⟩)
                  · subst q; exact absurd (hT.fun_ hv16.kT.1) (by decide)
                  · subst q; exact absurd (hT.fun_ hv16.dT) (by decide)
                  · exact absurd (hT.fun_ q) (by decide)
                have low17 : Ext w1 w17 := Below.trans (H.low.trans he616) (hv16.below p5)
                have hrok : r.abs.Ok (j + 5) := by rw [H.ab]; exact H.ok
                have K2 := hr17.doC hrok (by omega) ⟨1, (j : Int), A16, 1024, c16, false, none, 0, 0, zs, []⟩ (M := w17.heap.size) (Nat.le_refl _) ⟨Reads.of_own ho17, Reads.none_, hzb, by dsimp only; omega, by unfold maxLen; dsimp only; omega⟩ (fun hh => by cases hh) (by show 1024 ≤ _; omega) (by show 0 ≤ _; omega)
                have eD : r.abs.do_ (Dm.dd ⟨1, (j : Int), A16, 1024, c16, false, none, 0, 0, zs, []⟩) = S := by rw [hS, ← H.ab]; exact do_odd r.abs 1 (j : Int) zs [] (fun _ => hzl)
                unfold Rk.DoC at K2
                rw [eD] at K2
                refine L.nil ?_
                refine J.region ?_
                refine L.va rfl ((by first | exact X.loadAgg rfl (range_l k1017) Tryd.underlying33 rfl (by kernel_rfl) | exact X.loadAgg rfl (range_blk k1017) Tryd.underlying33 rfl (by kernel_rfl))) ?_
                refine L.va rfl (X.move (by conv => lhs; whnf)) ?_
                refine L.va rfl (X.move (by conv => lhs; whnf)) ?_
                refine L.va rfl (X.build (l := [.int .i64 1, .int .i64 (j : Int), .slice A16 1024 c16, .bool false, .slice none 0 0]) (Evs.cons rfl (Evs.cons rfl (Evs.cons rfl Evs.nil))) (bld_run Tryd.underlying58 (bp_58 Tryd.underlying58) zr_58 rfl)) ?_
                refine L.call rfl en_18 rfl (K2) ?_
                rintro e w18 ⟨r18, Ao, no, co, rfl, q1, q2, q3, q4, q5, q6, _⟩
                refine ⟨_, rfl, ?_⟩
                have q4 : Ext w17 w18 := q4
                have k1018 := k1017.ext q4
                have z17 := low17.le
                refine L.va rfl (X.move (by conv => lhs; whnf)) ?_
                refine L.va rfl (X.extract rfl rfl) ?_
                refine L.va rfl (X.extract rfl rfl) ?_
                refine L.va rfl (X.extract rfl rfl) ?_
                refine L.storeAgg (vs := [_, _, _, _, _, _, _]) rfl rfl rfl rfl sz_33 (k1018) rfl ?_
                intro w19 k1019 hg19 hs19
                have k1019 : Blk w19 b10 33 #[r18.K, r18.P, .bool r18.off, .int .i64 r18.left, .int .i64 r18.rd, .int .i64 r18.wr, .int .i64 r18.fl] := k1019
                have v19 := (p1.ext q4).blk_ k1018 hg19 (by decide) (by decide) (by decide) (by decide)
                have r19 : r18.At w1.heap.size w19 := q1.blkL k1018 hg19 wb10
                have low19 : Ext w1 w19 := (low17.trans q4).grw hg19 (by intro g hg; injection hg with hg; omega)
                refine L.nil ?_
                refine J.region ?_
                refine L.va rfl (X.move (by conv => lhs; whnf)) ?_
                refine L.va rfl (X.add rfl rfl (by omega)) ?_
                refine L.va rfl (X.assign (by conv => lhs; whnf)) ?_
                refine L.nil ?_
                refine ⟨(j + 1, v17, r18), At1 (by first | rfl | exact at_int rfl (by omega) | exact at_slice rfl (by omega) | exact at_int rfl (by simp)), (by (iterate 16 refine Agr.lk rfl ?_); refine Agr.lk rfl ?_; refine Agr.hav rfl ?_; (iterate 16 refine Agr.lk rfl ?_); refine Agr.lk rfl ?_; refine Agr.hav rfl ?_; (iterate 12 refine Agr.lk rfl ?_); exact Agr.lk rfl (Agr.hav rfl Agr.rfl')), ?_⟩
                refine ⟨⟨by omega, v19, p2.trans H.d, p3.trans H.kb, r19, fun e => ?_, fun y hy => (q6 rfl y hy).elim (H.cap y) (fun t => t.2), by rw [q2, p4], ?_, ?_, ?_, ?_, ?_, k1019, low19⟩, by show i - (j + 1) < i - j; omega⟩
                · rw [p3] at e
                  rcases q5 _ e with t | t
                  · exact H.rk t
                  · have := (H.hv.hk.lt v.kb rfl).2
                    have h1 := he616.le
                    have h2 := p5.size
                    omega
                · rw [p4, hS]
                  exact (H.ok.do_ _ (by show (j : Int) ≤ _; omega)).more (by omega)
                · rw [p4, hbd]
                  exact byte_push (s := v.abs) (a := j) H.by_ hzb rfl rfl
                · rw [p4, hbd]
                · rw [p4, hbd]
                · rw [p4, hbd]; exact H.kl
          · obtain rfl : j = i := by omega
            have k46 := hk4.ext H.low
            have k106 := H.k10
            have hkr : r.kp.length = 8 := by
              have h1 : r.abs.kept.length = r.kp.length := by simp [Rk.abs, abs_]
              rw [← h1, H.ab]
              exact H.kl
            have htab : Tab w1 := tabx ht heb
            have tN : 0 < w1.heap.size := Nat.lt_of_lt_of_le ht.size z1
            refine J.exit ?_
            refine J.seq ?_
            refine J.region ?_
            refine L.va rfl (X.move (by conv => lhs; whnf)) ?_
            refine L.va rfl (X.indexArr1n (j := 0) rfl rfl Tryd.underlying69 sz_3 (by omega)) ?_
            refine L.va rfl (X.load rfl sc_3 (by first | exact Ld.blk k46 rfl | exact Ld.blk k106 rfl)) ?_
            refine L.va rfl (X.indexArr1n (j := 1) rfl rfl Tryd.underlying69 sz_3 (by omega)) ?_
            refine L.va rfl (X.load rfl sc_3 (by first | exact Ld.blk k46 rfl | exact Ld.blk k106 rfl)) ?_
            refine L.va rfl (X.move (by conv => lhs; whnf)) ?_
            by_cases hbad : p < 0 ∨ q < 1 ∨ (8 : Int) < p ∨ (8 : Int) - p < q
            · have KB := lopen_bad H.hv p q ep hp (by rw [hkp]; omega)
              rw [e0] at KB
              refine L.call rfl en_10 rfl (KB) ?_
              rintro e _ ⟨rfl, rfl⟩
              refine ⟨_, rfl, ?_⟩
              refine L.va rfl (X.move (by conv => lhs; whnf)) ?_
              refine L.va rfl (X.extract rfl rfl) ?_
              refine L.va rfl (X.extract rfl rfl) ?_
              refine L.va rfl (X.extract rfl rfl) ?_
              refine L.va rfl (X.assign (by conv => lhs; whnf)) ?_
              refine L.va rfl (X.assign (by conv => lhs; whnf)) ?_
              refine L.va rfl (X.assign (by conv => lhs; whnf)) ?_
              refine L.nil ?_
              refine J.seq ?_
              refine J.region ?_
              refine L.va rfl ((by first | exact X.loadAgg rfl (range_l k46) Tryd.underlying33 rfl (by kernel_rfl) | exact X.loadAgg rfl (range_blk k46) Tryd.underlying33 rfl (by kernel_rfl) | exact X.loadAgg rfl (range_l k106) Tryd.underlying33 rfl (by kernel_rfl) | exact X.loadAgg rfl (range_blk k106) Tryd.underlying33 rfl (by kernel_rfl))) ?_
              refine L.va rfl (X.indexArr1n (j := 0) rfl rfl Tryd.underlying69 sz_3 (by omega)) ?_
              refine L.va rfl (X.load rfl sc_3 (by first | exact Ld.blk k46 rfl | exact Ld.blk k106 rfl)) ?_
              refine L.va rfl (X.indexArr1n (j := 1) rfl rfl Tryd.underlying69 sz_3 (by omega)) ?_
              refine L.va rfl (X.load rfl sc_3 (by first | exact Ld.blk k46 rfl | exact Ld.blk k106 rfl)) ?_
              refine L.va rfl (X.move (by conv => lhs; whnf)) ?_
              refine L.call rfl en_11 rfl (open22_bad H.hr p q ep hp (by rw [hkr]; omega)) ?_
              rintro e w7 ⟨rfl, he7⟩
              refine ⟨_, rfl, ?_⟩
              have he7 : Ext w6 w7 := he7
              have k107 := k106.ext he7
              have z7 := he7.le
              refine L.va rfl (X.move (by conv => lhs; whnf)) ?_
              refine L.va rfl (X.extract rfl rfl) ?_
              refine L.va rfl (X.extract rfl rfl) ?_
              refine L.va rfl (X.extract rfl rfl) ?_
              refine L.va rfl (X.extract rfl rfl) ?_
              refine L.alloc rfl zr_42 ?_
              intro b19 w8 hb19 hs19 hk19 he8
              have k108 := k107.ext he8
              refine L.storeAgg (vs := [_, _, _, _, _, _, _]) rfl rfl rfl rfl sz_33 (k108) rfl ?_
              intro w9 k109 hg9 hs9
              have k199 := hk19.grown hg9 (nb (by omega))
              refine L.storeAgg (vs := [_, _, _, _, _, _, _]) rfl rfl rfl rfl sz_42 (k199) rfl ?_
              intro w10 k1910 hg10 hs10'
              have low10 : Ext w1 w10 := (((H.low.trans he7).trans he8).grw hg9 (by intro g hg; injection hg with hg; omega)).grw hg10 (by intro g hg; injection hg with hg; omega)
              have KE := bytes22 (A := none) (B := none) (cA := 0) (cB := 0) (M := w10.heap.size) (as_ := []) (bs := []) (w := w10) ⟨Reads.none_, fun b hb => by cases hb⟩ ⟨Reads.none_, fun b hb => by cases hb⟩ (Nat.le_refl _) rfl (by decide)
              refine L.va rfl (X.assign (by conv => lhs; whnf)) ?_
              refine L.va rfl (X.assign (by conv => lhs; whnf)) ?_
              refine L.nil ?_
              refine J.seq ?_
              refine J.seq ?_
              refine J.region ?_
              refine L.va rfl (X.move (by conv => lhs; whnf)) ?_
              refine L.va rfl (X.move (by conv => lhs; whnf)) ?_
              refine L.va rfl (X.neq rfl rfl) ?_
              refine L.va rfl (X.move (by conv => lhs; whnf)) ?_
              refine L.caseNdecF (k := 131) rfl (by rfl) ?_
              refine L.va rfl (X.move (by conv => lhs; whnf)) ?_
              refine L.va rfl (X.move (by conv => lhs; whnf)) ?_
              refine L.call rfl en_19 rfl (KE) ?_
              rintro e w11 ⟨rfl, he11⟩
              refine ⟨_, rfl, ?_⟩
              have he11 : Ext w10 w11 := he11
              refine L.va rfl (X.not rfl) ?_
              refine L.va rfl (X.pickF rfl (by conv => lhs; whnf)) ?_
              refine L.nil ?_
              refine J.iteF rfl ?_
              refine J.skip ?_
              refine J.seq ?_
              refine J.seq ?_
              refine J.region ?_
              refine L.va rfl (X.move (by conv => lhs; whnf)) ?_
              refine L.va rfl (X.neq rfl rfl) ?_
              refine L.nil ?_
              refine J.iteT rfl ?_
              refine J.seq ?_
              refine J.region ?_
              refine L.va rfl (X.move (by conv => lhs; whnf)) ?_
              refine L.va rfl (X.eqlPn rfl rfl (by kernel_rfl)) ?_
              refine L.va rfl (X.move (by conv => lhs; whnf)) ?_
              refine L.caseBT (k := 141) rfl (by rfl) ?_
              refine L.call rfl en_7 rfl (awake22 w11 (tabx (htab.low low10 tN) he11)) ?_
              rintro e w12 ⟨rfl, he12⟩
              refine ⟨_, rfl, ?_⟩
              have he12 : Ext w11 w12 := he12
              refine L.va rfl (X.pickT rfl (by conv => lhs; whnf)) ?_
              refine L.va rfl (X.assign (by conv => lhs; whnf)) ?_
              refine L.nil ?_
              refine J.ret ?_
              refine thn_ret <| ?_
              refine fin1 ?_
              exact ⟨rfl, heb.trans ((low10.trans he11).trans he12)⟩
            · obtain ⟨fr, hfr⟩ : ∃ fr : Nat, p = (fr : Int) := Int.eq_ofNat_of_zero_le (by omega)
              obtain ⟨ct, hct⟩ : ∃ ct : Nat, q = (ct : Int) := Int.eq_ofNat_of_zero_le (by omega)
              subst hfr hct
              have hfc : fr + ct ≤ 8 ∧ 1 ≤ ct := by omega
              have KO := lopen H.hv H.ok (by omega) (by have := H.off; exact this) H.by_ (htab.low H.low tN) tN fr ct (by omega) hfc.2 (by omega) ep hx2
              rw [e0] at KO
              refine L.call rfl en_10 rfl (KO) ?_
              rintro e w7 ⟨G7, v7, A7, c7, bs7, rfl, O7⟩
              refine ⟨_, rfl, ?_⟩
              have hr7 := H.hr.kq H.hv O7.kq (Nat.le_refl _) H.rk
              have k107 := H.hv.blkKq O7.kq k106 (by decide) (by decide) (by decide)
              have k47 := H.hv.blkKq O7.kq k46 (by decide) (by decide) (by decide)
              have low7 : Ext w1 w7 := Below.trans H.low (H.hv.below O7.kq)
              have hoff : r.off = false := (congrArg Ds.off H.ab).trans H.off
              have KR := open22 hr7 H.cap (by rw [H.ab]; exact H.ok) (by omega) hoff (by rw [H.ab]; exact H.by_) fr ct (by omega) hfc.2 (by omega) ep hx2
              refine L.va rfl (X.move (by conv => lhs; whnf)) ?_
              refine L.va rfl (X.extract rfl rfl) ?_
              refine L.va rfl (X.extract rfl rfl) ?_
              refine L.va rfl (X.extract rfl rfl) ?_
              refine L.va rfl (X.assign (by conv => lhs; whnf)) ?_
              refine L.va rfl (X.assign (by conv => lhs; whnf)) ?_
              refine L.va rfl (X.assign (by conv => lhs; whnf)) ?_
              refine L.nil ?_
              refine J.seq ?_
              refine J.region ?_
              refine L.va rfl ((by first | exact X.loadAgg rfl (range_l k107) Tryd.underlying33 rfl (by kernel_rfl) | exact X.loadAgg rfl (range_blk k107) Tryd.underlying33 rfl (by kernel_rfl) | exact X.loadAgg rfl (range_l k47) Tryd.underlying33 rfl (by kernel_rfl) | exact X.loadAgg rfl (range_blk k47) Tryd.underlying33 rfl (by kernel_rfl))) ?_
              refine L.va rfl (X.indexArr1n (j := 0) rfl rfl Tryd.underlying69 sz_3 (by omega)) ?_
              refine L.va rfl (X.load rfl sc_3 (by first | exact Ld.blk k107 rfl | exact Ld.blk k47 rfl)) ?_
              refine L.va rfl (X.indexArr1n (j := 1) rfl rfl Tryd.underlying69 sz_3 (by omega)) ?_
              refine L.va rfl (X.load rfl sc_3 (by first | exact Ld.blk k107 rfl | exact Ld.blk k47 rfl)) ?_
              refine L.va rfl (X.move (by conv => lhs; whnf)) ?_
              refine L.call rfl en_11 rfl (KR) ?_
              rintro e w8 ⟨r8, R8, Ao8, co8, bs8, rfl, Q8⟩
              refine ⟨_, rfl, ?_⟩
              have he8 : Ext w7 w8 := Q8.he
              have P8 := Pair.start H.hv H.hr H.rk H.cap O7 Q8
              have k108 := k107.ext he8
              have z7 := low7.le
              have z8 := he8.le
              refine L.va rfl (X.move (by conv => lhs; whnf)) ?_
              refine L.va rfl (X.extract rfl rfl) ?_
              refine L.va rfl (X.extract rfl rfl) ?_
              refine L.va rfl (X.extract rfl rfl) ?_
              refine L.va rfl (X.extract rfl rfl) ?_
              refine L.alloc rfl zr_42 ?_
              intro b19 w9 hb19 hs19 hk19 he9
              have k109 := k108.ext he9
              have z9 := he9.le
              have n1019 : b10 ≠ b19 := by have := k108.lt; omega
              refine L.storeAgg (vs := [_, _, _, _, _, _, _]) rfl rfl rfl rfl sz_33 (k109) rfl ?_
              intro w10 k1010 hg10 hs10'
              have k1010 : Blk w10 b10 33 #[r8.K, r8.P, .bool r8.off, .int .i64 r8.left, .int .i64 r8.rd, .int .i64 r8.wr, .int .i64 r8.fl] := k1010
              have k1910 := hk19.grown hg10 (nb n1019.symm)
              have P10 := (P8.ext he9).blk k109 hg10 wb10
              have z10 := hg10.size
              refine L.storeAgg (vs := [_, _, _, _, _, _, _]) rfl rfl rfl rfl sz_42 (k1910) rfl ?_
              intro w11 k1911 hg11 hs11'
              have k1911 : Blk w11 b19 42 #[.int .i64 (R8.st.fr : Int), .int .i64 (R8.st.ct : Int), .int .u64 R8.st.ep, .int .u64 R8.st.nx, R8.ss, R8.ts, .int .i64 R8.st.bad] := k1911
              have k1011 := k1010.grown hg11 (nb n1019)
              have wb19 : w1.heap.size ≤ b19 := by omega
              have P11 := P10.blk k1910 hg11 wb19
              have low11 : Ext w1 w11 := (((low7.trans he8).trans he9).grw hg10 (by intro g hg; injection hg with hg; omega)).grw hg11 (by intro g hg; injection hg with hg; omega)
              have KP : ∀ {b t n : Nat} {u : Value} {xs : List Value}, t ≠ 33 → t ≠ 42 → w8.ownsRow b t 1 u n xs → w11.ownsRow b t 1 u n xs := fun h1 h2 ho => by
                have ho10 := (ho.ext he9).kept hg10 (.inr (own_blk_ne (ho.ext he9) k109 h1))
                exact ho10.kept hg11 (.inr (own_blk_ne ho10 k1910 h2))
              have eRR : bs7.map Bo.l = bs8.map Bo.l := by rw [O7.rec_, Q8.rec_, H.ab]
              have lRR : bs8.length ≤ 1000000 := by
                have h2 : (bs8.map Bo.l).length = bs8.length := List.length_map _
                have h6 := opI_ok (s := r.abs) (by rw [H.ab]; exact H.by_) (fr := fr) ep (i := ct) (by rw [H.ab, H.kl]; omega)
                have h3 := allF_few8 h6.sb _ 0 (Nat.le_refl _)
                have h5 : (recs (opI r.abs fr ep ct).sm).length = (allF (opI r.abs fr ep ct).sm 0).1.length := rfl
                rw [Q8.rec_] at h2
                have h4 := h6.sl
                omega
              have KE := bytes22 (A := A7) (B := Ao8) (cA := c7) (cB := co8) (M := w11.heap.size) (as_ := bs7) (bs := bs8) (w := w11) ⟨Reads.of_own (KP (by decide) (by decide) (O7.row.ext he8)), fun b hb => own_reads (KP (by decide) (by decide) ((O7.els b hb).ext he8))⟩ ⟨Reads.of_own (KP (by decide) (by decide) Q8.row), fun b hb => own_reads (KP (by decide) (by decide) (Q8.els b hb))⟩ (Nat.le_refl _) eRR lRR
              refine L.va rfl (X.assign (by conv => lhs; whnf)) ?_
              refine L.va rfl (X.assign (by conv => lhs; whnf)) ?_
              refine L.nil ?_
              refine J.seq ?_
              refine J.seq ?_
              refine J.region ?_
              refine L.va rfl (X.move (by conv => lhs; whnf)) ?_
              refine L.va rfl (X.move (by conv => lhs; whnf)) ?_
              refine L.va rfl (X.neq rfl rfl) ?_
              refine L.va rfl (X.move (by conv => lhs; whnf)) ?_
              refine L.caseNdecF (k := 131) rfl (by rfl) ?_
              refine L.va rfl (X.move (by conv => lhs; whnf)) ?_
              refine L.va rfl (X.move (by conv => lhs; whnf)) ?_
              refine L.call rfl en_19 rfl (KE) ?_
              rintro e w12 ⟨rfl, he12⟩
              refine ⟨_, rfl, ?_⟩
              have he12 : Ext w11 w12 := he12
              refine L.va rfl (X.not rfl) ?_
              refine L.va rfl (X.pickF rfl (by conv => lhs; whnf)) ?_
              refine L.nil ?_
              refine J.iteF rfl ?_
              refine J.skip ?_
              refine J.seq ?_
              refine J.seq ?_
              refine J.region ?_
              refine L.va rfl (X.move (by conv => lhs; whnf)) ?_
              refine L.va rfl (X.neq rfl rfl) ?_
              refine L.nil ?_
              refine J.iteF rfl ?_
              refine J.skip ?_
              refine J.seq ?_
              refine J.region ?_
              refine L.va rfl (X.move (by conv => lhs; whnf)) ?_
              refine L.bslice (vs := [_, _]) rfl (Evs.cons (by conv => lhs; whnf) (Evs.cons (by conv => lhs; whnf) Evs.nil)) rfl rfl rfl rfl Tryd.underlying39 sz_5 zr_5 (by decide) ?_
              intro b20 w13 hb20 hs20 hk20 he13
              have he1113 := he12.trans he13
              have P13 := P11.ext he1113
              have k1013 := k1011.ext he1113
              have k1913 := k1911.ext he1113
              have low13 := low11.trans he1113
              have BT := Both.open_ (n := 8) H.ok H.by_ H.kl hfc.1 hfc.2 hx2
              have b12 : Bytes [1, 2] := by intro z hz; simp only [List.mem_cons, List.not_mem_nil, or_false] at hz; omega
              obtain ⟨S, hS⟩ : ∃ S, S = appL v7.abs G7.st [1, 2] := ⟨_, rfl⟩
              have ab7 := O7.ab
              have st7 := O7.st
              have ct7 : G7.st.ct = ct := by rw [st7]; rfl
              rw [← ab7, ← st7] at BT
              have KA := lappend P13.at_ BT.ok (by omega) (by rw [show v7.kp.length = 8 from by rw [← v7.klen]; exact BT.kl]; exact BT.lo) (some ⟨b20, 0, none⟩) 2 2 [1, 2] (blk_reads (q := 2) (l := nums .u8 [1, 2]) hk20 hk20.lt rfl) b12 (by omega)
              have BA := BT.app [1, 2] b12
              have LV := appL_live BT (by rw [ab7]; exact H.off) (by rw [ab7]; exact H.left) [1, 2]
              rw [← hS] at KA BA LV
              refine L.call rfl en_12 rfl (KA) ?_
              rintro e w14 ⟨rfl, G14, v14, A14, d14, kk14, a14, s14, ch14, g14⟩
              refine ⟨_, rfl, ?_⟩
              have P14 := P13.prog A14 kk14 ch14 g14
              have k1014 := P13.at_.blkC ch14 k1013
              have k1914 := P13.at_.blkC ch14 k1913
              have low14 : Ext w1 w14 := Below.trans low13 (P13.at_.below ch14)
              refine L.va rfl (X.assign (by conv => lhs; whnf)) ?_
              refine L.nil ?_
              refine J.seq ?_
              refine J.region ?_
              refine L.va rfl ((by first | exact X.loadAgg rfl (range_l k1014) Tryd.underlying33 rfl (by kernel_rfl) | exact X.loadAgg rfl (range_blk k1014) Tryd.underlying33 rfl (by kernel_rfl) | exact X.loadAgg rfl (range_l k1914) Tryd.underlying33 rfl (by kernel_rfl) | exact X.loadAgg rfl (range_blk k1914) Tryd.underlying33 rfl (by kernel_rfl))) ?_
              refine L.va rfl ((by first | exact X.loadAgg rfl (range_l k1014) Tryd.underlying42 rfl (by kernel_rfl) | exact X.loadAgg rfl (range_blk k1014) Tryd.underlying42 rfl (by kernel_rfl) | exact X.loadAgg rfl (range_l k1914) Tryd.underlying42 rfl (by kernel_rfl) | exact X.loadAgg rfl (range_blk k1914) Tryd.underlying42 rfl (by kernel_rfl))) ?_
              refine L.bslice (vs := [_, _]) rfl (Evs.cons (by conv => lhs; whnf) (Evs.cons (by conv => lhs; whnf) Evs.nil)) rfl rfl rfl rfl Tryd.underlying39 sz_5 zr_5 (by decide) ?_
              intro b21 w15 hb21 hs21 hk21 he15
              have P15 := P14.ext he15
              have k1015 := k1014.ext he15
              have k1915 := k1914.ext he15
              have ab8 : r8.abs = v7.abs := by rw [Q8.ab, ab7, H.ab]
              have st8 : R8.st = G7.st := by rw [Q8.st, st7, H.ab]
              have hk8r : r8.kp.length = 8 := by
                have h1 : r8.abs.kept.length = r8.kp.length := by simp [Rk.abs, abs_]
                rw [← h1, ab8]
                exact BT.kl
              have KB := append22 P15.ra P15.R_ (by rw [ab8]; exact BT.ok) (by omega) (by rw [st8, hk8r]; exact BT.lo) (some ⟨b21, 0, none⟩) 2 2 [1, 2] (blk_reads (q := 2) (l := nums .u8 [1, 2]) hk21 hk21.lt rfl) b12 (by omega)
              rw [ab8, st8, ← hS] at KB
              refine L.call rfl en_14 rfl (KB) ?_
              rintro e w16 ⟨r16, R16, rfl, T16⟩
              refine ⟨_, rfl, ?_⟩
              have he16 : Ext w15 w16 := T16.he
              have P16 := P15.ref T16.hr T16.h T16.he T16.fr T16.cf T16.gr
              have k1016 := k1015.ext he16
              have k1916 := k1915.ext he16
              refine L.va rfl (X.move (by conv => lhs; whnf)) ?_
              refine L.va rfl (X.extract rfl rfl) ?_
              refine L.va rfl (X.extract rfl rfl) ?_
              refine L.va rfl (X.extract rfl rfl) ?_
              refine L.storeAgg (vs := [_, _, _, _, _, _, _]) rfl rfl rfl rfl sz_33 (k1016) rfl ?_
              intro w17 k1017 hg17 hs17
              have k1017 : Blk w17 b10 33 #[r16.K, r16.P, .bool r16.off, .int .i64 r16.left, .int .i64 r16.rd, .int .i64 r16.wr, .int .i64 r16.fl] := k1017
              have k1917 := k1916.grown hg17 (nb n1019.symm)
              have P17 := P16.blk k1016 hg17 wb10
              refine L.storeAgg (vs := [_, _, _, _, _, _, _]) rfl rfl rfl rfl sz_42 (k1917) rfl ?_
              intro w18 k1918 hg18 hs18
              have k1918 : Blk w18 b19 42 #[.int .i64 (R16.st.fr : Int), .int .i64 (R16.st.ct : Int), .int .u64 R16.st.ep, .int .u64 R16.st.nx, R16.ss, R16.ts, .int .i64 R16.st.bad] := k1918
              have k1018 := k1017.grown hg18 (nb n1019)
              have P18 := P17.blk k1917 hg18 wb19
              have low18 : Ext w1 w18 := (((low14.trans he15).trans he16).grw hg17 (by intro g hg; injection hg with hg; omega)).grw hg18 (by intro g hg; injection hg with hg; omega)
              have e14 : v14.ptr = v0.ptr := by unfold Dk.ptr; rw [d14, O7.d, H.d]
              have ok14 := BA.1.ok
              rw [← a14] at ok14
              obtain ⟨F, hF⟩ : ∃ F, F = v14.abs.do_ ⟨2, 0, [], true, []⟩ := ⟨_, rfl⟩
              have hF0 : F.2.2 = 0 := by rw [hF, a14, do_fl LV.1 LV.2]
              have ab16 : r16.abs = v14.abs := by rw [T16.ab, a14]
              refine L.va rfl (X.assign (by conv => lhs; whnf)) ?_
              refine L.nil ?_
              refine J.seq ?_
              refine J.draw (ℓ := 1000000) (S := (fun w' => Blk w' b10 33 #[r16.K, r16.P, .bool r16.off, .int .i64 r16.left, .int .i64 r16.rd, .int .i64 r16.wr, .int .i64 r16.fl] ∧ Blk w' b19 42 #[.int .i64 (R16.st.fr : Int), .int .i64 (R16.st.ct : Int), .int .u64 R16.st.ep, .int .u64 R16.st.nx, R16.ss, R16.ts, .int .i64 R16.st.bad])) mixed (fun w19 hqE hq_h => ?_)
              have hq : ((fun w' => Blk w' b10 33 #[r16.K, r16.P, .bool r16.off, .int .i64 r16.left, .int .i64 r16.rd, .int .i64 r16.wr, .int .i64 r16.fl] ∧ Blk w' b19 42 #[.int .i64 (R16.st.fr : Int), .int .i64 (R16.st.ct : Int), .int .u64 R16.st.ep, .int .u64 R16.st.nx, R16.ss, R16.ts, .int .i64 R16.st.bad])) w19 := And.intro (k1018.ext hqE) (k1918.ext hqE)
              have P19 := P18.ext hqE
              have KF := P19.at_.hd.flush_anyF ok14 (by omega) ⟨2, 0, [], true, []⟩ rfl
              rw [← hF, hF0, e14] at KF
              refine D.va 0 rfl (by kernel_rfl) (fun _ _ _ h => h) rfl (fun w' hw => X.move (by conv => lhs; whnf)) hq ?_
              refine D.va 1 rfl (by kernel_rfl) (fun _ _ _ h => h) rfl (fun w' hw => X.move (by conv => lhs; whnf)) hq ?_
              refine D.va 2 rfl (by kernel_rfl) (fun _ _ _ h => h) rfl (fun w' hw => X.eql rfl rfl) hq ?_
              refine D.va 3 rfl (by kernel_rfl) (fun _ _ _ h => h) rfl (fun w' hw => X.move (by conv => lhs; whnf)) hq ?_
              refine D.caseDecT (k := 158) rfl (by rfl) ?_
              refine D.va 4 rfl (by kernel_rfl) (fun _ _ _ h => h) rfl (fun w' hw => X.move (by conv => lhs; whnf)) hq ?_
              refine D.one 5 (by kernel_rfl) rfl ?_
              refine L.call rfl en_32 rfl (KF) ?_
              rintro e w20 ⟨rfl, ⟨v20, p1, p2, p3, p4, p5, p6⟩, _⟩
              refine ⟨_, rfl, ?_⟩
              have hS1 := And.intro (P19.at_.blkC (Kq.ls p5) hq.1) (P19.at_.blkC (Kq.ls p5) hq.2)
              refine L.nil ?_
              refine ⟨fun _ => hS1, ?_⟩
              have P20 := P19.prog (P19.at_.disk p1 p2 p5 p6) p3 (Kq.ls p5) (Lg.Gr.refl _ _)
              have low20 : Ext w1 w20 := Below.trans (low18.trans hqE) (P19.at_.hd.below p5)
              have KU : Calls Tryd.prog 23 #[G7.ptr] w20 fun e w' => e = .returned (.int .i64 (G14.st.sm.length : Int)) ∧ Ext w20 w' := by
                rw [show G7.ptr = G14.ptr by unfold Lg.ptr; rw [g14.p]]
                exact (lused P20.at_).mono fun e w' ⟨h1, h2⟩ => ⟨h1, h2 ▸ Ext.refl _⟩
              refine D.va 6 rfl (by kernel_rfl) (fun _ _ _ h => h) rfl (fun w' hw => X.eql rfl rfl) hS1 ?_
              refine D.va 7 rfl (by kernel_rfl) (fun _ _ _ h => h) rfl (fun w' hw => X.pickT rfl (by conv => lhs; whnf)) hS1 ?_
              refine D.va 8 rfl (by kernel_rfl) (fun _ _ _ h => h) rfl (fun w' hw => X.move (by conv => lhs; whnf)) hS1 ?_
              refine D.caseDecT (k := 163) rfl (by rfl) ?_
              refine D.va 9 rfl (by kernel_rfl) (fun _ _ _ h => h) rfl (fun w' hw => X.move (by conv => lhs; whnf)) hS1 ?_
              refine D.va 11 rfl (by kernel_rfl) (fun _ _ _ h => h) rfl (fun w' hw => X.fieldAddr rfl Tryd.underlying42 rfl sz_39 (by decide)) hS1 ?_
              refine D.va 12 rfl (by kernel_rfl) (fun _ _ _ h => h) rfl (fun w' hw => X.load rfl sc_39 (by first | exact Ld.blk hw.2 rfl)) hS1 ?_
              refine D.va 13 rfl (by kernel_rfl) (fun _ _ _ h => h) rfl (fun w' hw => X.len rfl Tryd.underlying39) hS1 ?_
              refine D.one 10 (by kernel_rfl) rfl ?_
              refine L.call rfl en_23 rfl (KU) ?_
              rintro e w21 ⟨rfl, he21⟩
              refine ⟨_, rfl, ?_⟩
              have hS2 := And.intro (hS1.1.ext he21) (hS1.2.ext he21)
              refine L.nil ?_
              refine ⟨fun _ => hS2, ?_⟩
              refine D.va 14 rfl (by kernel_rfl) (fun _ _ _ h => h) rfl (fun w' hw => X.eql rfl rfl) hS2 ?_
              refine D.va 15 rfl (by kernel_rfl) (fun _ _ _ h => h) rfl (fun w' hw => X.pickT rfl (by conv => lhs; whnf)) hS2 ?_
              refine D.va 16 rfl (by kernel_rfl) (fun _ _ _ h => h) rfl (fun w' hw => X.move (by conv => lhs; whnf)) hS2 ?_
              refine D.caseDecT (k := 171) rfl (by rw [s14, T16.st]) ?_
              have P21 := P20.ext he21
              have e20 : v20.ptr = v0.ptr := by rw [← e14]; unfold Dk.ptr; rw [p2]
              have KI := image22 P21.at_.hd P21.ra (by rw [ab16]; exact ok14) (by omega) (by rw [p4, hF, ab16])
              rw [e20] at KI
              refine D.va 17 rfl (by kernel_rfl) (fun _ _ _ h => h) rfl (fun w' hw => X.move (by conv => lhs; whnf)) hS2 ?_
              refine D.va 18 rfl (by kernel_rfl) (fun _ _ _ h => h) rfl (fun w' hw => X.loadAgg rfl (range_l hw.1) Tryd.underlying33 rfl (by kernel_rfl)) hS2 ?_
              refine D.one 19 (by kernel_rfl) rfl ?_
              refine L.call rfl en_33 rfl (KI) ?_
              rintro e w22 ⟨rfl, he22⟩
              refine ⟨_, rfl, ?_⟩
              have hS3 := And.intro (hS2.1.ext he22) (hS2.2.ext he22)
              refine L.nil ?_
              refine ⟨fun _ => hS3, ?_⟩
              refine D.va 20 rfl (by kernel_rfl) (fun _ _ _ h => h) rfl (fun w' hw => X.pickT rfl (by conv => lhs; whnf)) hS3 ?_
              refine D.va 21 rfl (by kernel_rfl) (fun _ _ _ h => h) rfl (fun w' hw => X.move (by conv => lhs; whnf)) hS3 ?_
              refine D.caseBT (k := 176) rfl (by rfl) ?_
              refine D.one 22 (by kernel_rfl) rfl ?_
              refine L.call rfl en_7 rfl (awake22 w22 (P21.ext he22).at_.tab) ?_
              rintro e w23 ⟨rfl, he23⟩
              refine ⟨_, rfl, ?_⟩
              have hS4 := And.intro (hS3.1.ext he23) (hS3.2.ext he23)
              refine L.nil ?_
              refine ⟨fun _ => hS4, ?_⟩
              refine D.va 23 rfl (by kernel_rfl) (fun _ _ _ h => h) rfl (fun w' hw => X.pickT rfl (by conv => lhs; whnf)) hS4 ?_
              refine D.va 24 rfl (by kernel_rfl) (fun _ _ _ h => h) rfl (fun w' hw => X.assign (by conv => lhs; whnf)) hS4 ?_
              refine D.done (by kernel_rfl) ?_
              refine J.ret ?_
              refine fin1 ?_
              exact ⟨rfl, heb.trans (((low20.trans he21).trans he22).trans he23)⟩
end Go.Proofs.YtjdimgigbgafbaaDoor
