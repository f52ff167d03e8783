import Derived.Test.YtpomklkfedpkfaaZDiffCells2
/-
  What the law leans on, part 3: WPatA, WCelC, WCelE, WCelI, CelIn, LDiffCells.
-/
namespace Go.Proofs.Ytpomklkfedpkfaa
set_option maxRecDepth 100000
open Go.RowKit H
open Dfp
set_option linter.unusedVariables false
def PatR (la : List Ce) (l : List (Int × Int)) (lb : List Ce) (w : World) (e : Ending) (w' : World) : Prop :=
  ∃ t : Ces, e = .returned (.tuple #[t.val, .int .i64 (patE la l lb)]) ∧ t.At w'.heap.size w' ∧ t.n ≤ t.c ∧ t.n ≤ 1000 ∧ (∀ x ∈ t.l, x.Lt) ∧ (patE la l lb ≠ 0 → t.con = []) ∧ (patE la l lb = 0 → ∃ o, Pat la lb l o ∧ t.con = o.map Ce.con) ∧ Ext w w'
theorem PatR.none_ {la lb : List Ce} {l : List (Int × Int)} {w w' : World} {e : Ending} {z : Int} (hz : patE la l lb = z) (h0 : z ≠ 0) (he : e = .returned (.tuple #[.slice none 0 0, .int .i64 z])) (hx : Ext w w') : PatR la l lb w e w' :=
  ⟨⟨none, 0, 0, []⟩, by rw [he, hz], ⟨Reads.of_own (own_nil w' 0 0 4), (fun x hx => by cases hx), rfl, Nat.zero_le _⟩, Nat.le_refl _, Nat.zero_le _, (fun x hx => by cases hx), fun _ => rfl, fun h => absurd (hz.symm.trans h) h0, hx⟩
theorem cutC {w : World} {N : Nat} {A : Option Addr} {la : List Ce} {p ca : Nat} (h : Reads w N 4 A (la.length - p) ((la.drop p).flatMap Ce.vs)) (hp : p < la.length) (hc : la.length - p ≤ ca) : Reads w N 4 (if ca = 1 then A else A.map (·.add (1 * 4))) (la.length - (p + 1)) ((la.drop (p + 1)).flatMap Ce.vs) := by
  have := h.cut (k := 1) (cap := ca) (by omega) hc
  rw [flat_drop' ce_len, List.drop_drop, show la.length - p - 1 = la.length - (p + 1) by omega] at this
  exact this
structure PatI (N : Nat) (w : World) (la lb : List Ce) (l : List (Int × Int)) (i p : Nat) (Aa : Option Addr) (ca : Nat) (oA : Option Addr) (od : Nat) (out : List Ce) (w' : World) : Prop where
  hp : p ≤ la.length
  ra : Reads w' N 4 Aa (la.length - p) ((la.drop p).flatMap Ce.vs)
  hc : la.length - p ≤ ca
  ho : w'.ownsRow w.heap.size 61 4 (.slice oA out.length od) out.length (out.flatMap Ce.vs)
  ps : PS la lb l i p out
  len : out.length ≤ p + i
  he : Ext w w'
theorem PatI.ext {N : Nat} {w : World} {la lb : List Ce} {l : List (Int × Int)} {i p : Nat} {Aa : Option Addr} {ca : Nat} {oA : Option Addr} {od : Nat} {out : List Ce} {w' w'' : World} (h : PatI N w la lb l i p Aa ca oA od out w') (hx : Ext w' w'') : PatI N w la lb l i p Aa ca oA od out w'' := ⟨h.hp, h.ra.ext hx, h.hc, h.ho.ext hx, h.ps, h.len, h.he.trans hx⟩
theorem dpatch {w : World} {N : Nat} (hN : N ≤ w.heap.size) (A : Option Addr) (c : Nat) (la : List Ce) (hra : Reads w N 4 A la.length (la.flatMap Ce.vs)) (hca : la.length ≤ c) (P : Option Addr) (pc : Nat) (l : List (Int × Int)) (hrl : Reads w N 2 P l.length (l.flatMap chV)) (B : Option Addr) (d : Nat) (lb : List Ce) (hrb : Reads w N 4 B lb.length (lb.flatMap Ce.vs)) (hm : la.length ≤ 200 ∧ l.length ≤ 200 ∧ lb.length ≤ 200)
    (hLa : ∀ x ∈ la, x.At N w ∧ x.Lt) (hLb : ∀ x ∈ lb, x.At N w ∧ x.Lt) :
    Calls Try.prog 11 #[.slice A la.length c, .slice P l.length pc, .slice B lb.length d] w (PatR la l lb w) := by
  refine enter Try.func11 rfl (by kernel_rfl) ?_
  refine J.seq ?_
  refine J.region ?_
  refine L.va rfl (X.assign (by conv => lhs; whnf)) ?_
  refine L.va rfl (X.assign (by conv => lhs; whnf)) ?_
  refine L.nil ?_
  refine J.seq ?_
  refine J.seq ?_
  refine J.region ?_
  refine L.va rfl (X.move (by conv => lhs; whnf)) ?_
  have c1 := rising_ A c la hra hN (by omega)
  cases h1 : rise la
  · rw [h1] at c1
    refine L.call rfl en_20 rfl (c1) ?_
    rintro e w1 ⟨rfl, he1⟩
    refine ⟨_, rfl, ?_⟩
    refine L.va rfl (X.not rfl) ?_
    refine L.va rfl (X.move (by conv => lhs; whnf)) ?_
    refine L.caseBT (k := 19) rfl (by rfl) ?_
    refine L.no rfl ?_
    refine L.no rfl ?_
    refine L.no rfl ?_
    refine L.va rfl (X.pickT rfl (by conv => lhs; whnf)) ?_
    refine L.va rfl (X.move (by conv => lhs; whnf)) ?_
    refine L.no rfl ?_
    refine L.no rfl ?_
    refine L.no rfl ?_
    refine L.va rfl (X.pickT rfl (by conv => lhs; whnf)) ?_
    refine L.nil ?_
    refine J.iteT rfl ?_
    refine J.seq ?_
    refine J.region ?_
    refine L.va rfl (X.assign (by conv => lhs; whnf)) ?_
    refine L.va rfl (X.assign (by conv => lhs; whnf)) ?_
    refine L.nil ?_
    refine J.ret ?_
    refine thn_ret <| ?_
    refine fin2 ?_
    exact PatR.none_ (patE_1 (by rw [h1]; rfl)) (by decide) rfl he1
  · rw [h1] at c1
    refine L.call rfl en_20 rfl (c1) ?_
    rintro e w1 ⟨rfl, he1⟩
    refine ⟨_, rfl, ?_⟩
    have he1 : Ext w w1 := he1
    have c2 := rising_ (w := w1) B d lb (hrb.low (Below.mono he1 hN) (Nat.le_refl _)) (by have := he1.le; omega) (by omega)
    refine L.va rfl (X.not rfl) ?_
    refine L.va rfl (X.move (by conv => lhs; whnf)) ?_
    refine L.caseBF (k := 19) rfl (by rfl) ?_
    refine L.va rfl (X.move (by conv => lhs; whnf)) ?_
    cases h2 : rise lb
    · rw [h2] at c2
      refine L.call rfl en_20 rfl (c2) ?_
      rintro e w2 ⟨rfl, he2⟩
      refine ⟨_, rfl, ?_⟩
      refine L.va rfl (X.not rfl) ?_
      refine L.va rfl (X.pickF rfl (by conv => lhs; whnf)) ?_
      refine L.va rfl (X.move (by conv => lhs; whnf)) ?_
      refine L.caseBT (k := 24) rfl (by rfl) ?_
      refine L.no rfl ?_
      refine L.no rfl ?_
      refine L.no rfl ?_
      refine L.va rfl (X.pickT rfl (by conv => lhs; whnf)) ?_
      refine L.nil ?_
      refine J.iteT rfl ?_
      refine J.seq ?_
      refine J.region ?_
      refine L.va rfl (X.assign (by conv => lhs; whnf)) ?_
      refine L.va rfl (X.assign (by conv => lhs; whnf)) ?_
      refine L.nil ?_
      refine J.ret ?_
      refine thn_ret <| ?_
      refine fin2 ?_
      exact PatR.none_ (patE_1 (by rw [h1, h2]; rfl)) (by decide) rfl (he1.trans he2)
    · rw [h2] at c2
      refine L.call rfl en_20 rfl (c2) ?_
      rintro e w2 ⟨rfl, he2⟩
      refine ⟨_, rfl, ?_⟩
      have he2 : Ext w1 w2 := he2
      have he02 := he1.trans he2
      have c3 := risingC_ (w := w2) P pc l (hrl.low (Below.mono he02 hN) (Nat.le_refl _)) (by have := he02.le; omega) (by omega)
      refine L.va rfl (X.not rfl) ?_
      refine L.va rfl (X.pickF rfl (by conv => lhs; whnf)) ?_
      refine L.va rfl (X.move (by conv => lhs; whnf)) ?_
      refine L.caseBF (k := 24) rfl (by rfl) ?_
      refine L.va rfl (X.move (by conv => lhs; whnf)) ?_
      cases h3 : riseC l
      · rw [h3] at c3
        refine L.call rfl en_27 rfl (c3) ?_
        rintro e w3 ⟨rfl, he3⟩
        refine ⟨_, rfl, ?_⟩
        refine L.va rfl (X.not rfl) ?_
        refine L.va rfl (X.pickF rfl (by conv => lhs; whnf)) ?_
        refine L.nil ?_
        refine J.iteT rfl ?_
        refine J.seq ?_
        refine J.region ?_
        refine L.va rfl (X.assign (by conv => lhs; whnf)) ?_
        refine L.va rfl (X.assign (by conv => lhs; whnf)) ?_
        refine L.nil ?_
        refine J.ret ?_
        refine thn_ret <| ?_
        refine fin2 ?_
        exact PatR.none_ (patE_1 (by rw [h1, h2, h3]; rfl)) (by decide) rfl (he02.trans he3)
      · rw [h3] at c3
        refine L.call rfl en_27 rfl (c3) ?_
        rintro e w3 ⟨rfl, he3⟩
        refine ⟨_, rfl, ?_⟩
        have he03 : Ext w w3 := he02.trans he3
        have hrs : (rise la && (rise lb && riseC l)) = true := by rw [h1, h2, h3]; rfl
        have Ra := ris_of h1
        have Rb := ris_of h2
        have Rl := risL_of h3
        refine L.va rfl (X.not rfl) ?_
        refine L.va rfl (X.pickF rfl (by conv => lhs; whnf)) ?_
        refine L.nil ?_
        refine J.iteF rfl ?_
        refine J.skip ?_
        refine J.cut (X := Unit) [6, 7, 9, 29, 30, 31, 32, 33, 34, 35, 36, 37, 38, 39, 40, 41, 42, 43] (fun _ => []) (fun _ w' => (∀ j, j < l.length → okK (l.getD j (0, 0)) = true) ∧ Ext w w') ?_ ?_
        · refine J.seq ?_
          refine J.region ?_
          refine L.va rfl (X.move (by conv => lhs; whnf)) ?_
          refine L.va rfl (X.len rfl Try.underlying25) ?_
          refine L.va rfl (X.move (by conv => lhs; whnf)) ?_
          refine L.nil ?_
          refine J.block ?_
          refine J.loop (X := Nat) [6, 7, 9, 31, 32, 33, 34, 35, 36, 37, 38, 39, 40, 41, 42, 43] (fun i => [(31, .int .i64 (i : Int))]) (fun i w' => i ≤ l.length ∧ (∀ j, j < i → okK (l.getD j (0, 0)) = true) ∧ Ext w w') (fun i => l.length - i) (0) (At1 (by first | rfl | exact at_int rfl (by omega) | exact at_slice rfl (by omega) | exact at_int rfl (by simp))) ?_ ?_
          · exact ⟨Nat.zero_le _, fun j hj => absurd hj (by omega), he03⟩
          · rintro i g w4 ⟨hi, hK, he4⟩
            have z4 := he4.le
            refine J.seq ?_
            refine J.region ?_
            refine L.va rfl (X.lss rfl rfl) ?_
            refine L.nil ?_
            refine J.seq ?_
            refine J.dec rfl (fun hlt => ?_) (fun hlt => ?_)
            · have hin : i < l.length := by omega
              have hr4 := hrl.low (Below.mono he4 hN) (Nat.le_refl _)
              have hA := hr4.some_ (by omega)
              have gx := gtC hin
              obtain ⟨x, hx⟩ : ∃ x, x = l.getD i ((0, 0) : Int × Int) := ⟨_, rfl⟩
              rw [← hx] at gx
              refine J.skip ?_
              refine J.seq ?_
              refine J.block ?_
              refine J.seq ?_
              refine J.region ?_
              refine L.va rfl ((by first | exact X.indexAddrn rfl rfl Try.underlying25 sz_38 (by first | exact Option.some_ne_none _ | exact hA) (by omega) | exact X.indexAddr rfl rfl Try.underlying25 sz_38 (by first | exact Option.some_ne_none _ | exact hA) (by omega))) ?_
              refine L.va rfl (X.loadRow (cs := chV x) rfl hr4 (fun r u hu => flat_row ch_len gx r u hu) (Nat.zero_lt_succ _) Try.underlying38 rfl (by kernel_rfl)) ?_
              refine L.alloc rfl zr_38 ?_
              intro b5 w5 hb5 hs5 hk5 he5
              refine L.storeAgg (vs := [_, _]) rfl rfl rfl rfl sz_38 (hk5) rfl ?_
              intro w6 hk6 hg6 hs6
              have he46 : Ext w4 w6 := he5.grw hg6 (by intro g hg; injection hg with hg; omega)
              have hk6 : Blk w6 b5 38 (chV x).toArray := hk6
              have he06 := he4.trans he46
              refine L.nil ?_
              refine J.seq ?_
              refine J.region ?_
              refine L.va rfl (X.fieldAddr rfl Try.underlying38 rfl sz_3 (by decide)) ?_
              refine L.va rfl (X.load rfl sc_3 (by first | exact Ld.blk hk6 rfl | exact hA)) ?_
              refine L.va rfl (X.lss rfl rfl) ?_
              refine L.va rfl (X.move (by conv => lhs; whnf)) ?_
              refine L.caseDec (k := 38) rfl (fun h4 => ?_) (fun h4 => ?_)
              · refine L.no rfl ?_
                refine L.no rfl ?_
                refine L.no rfl ?_
                refine L.va rfl (X.pickT rfl (by conv => lhs; whnf)) ?_
                refine L.nil ?_
                refine J.iteT rfl ?_
                refine J.seq ?_
                refine J.region ?_
                refine L.va rfl (X.assign (by conv => lhs; whnf)) ?_
                refine L.va rfl (X.assign (by conv => lhs; whnf)) ?_
                refine L.nil ?_
                refine J.ret ?_
                refine inB_ret <|  thn_ret <|  thn_ret <|  inB_ret <|  thn_ret <| ?_
                refine fin2 ?_
                refine PatR.none_ (patE_k hin ?_) (by decide) rfl he06
                rw [← hx]
                unfold okK
                rw [decide_eq_false (by omega)]
                rfl
              · refine L.va rfl (X.fieldAddr rfl Try.underlying38 rfl sz_3 (by decide)) ?_
                refine L.va rfl (X.load rfl sc_3 (by first | exact Ld.blk hk6 rfl | exact hA)) ?_
                refine L.va rfl (X.gtr rfl rfl) ?_
                refine L.va rfl (X.pickF rfl (by conv => lhs; whnf)) ?_
                refine L.nil ?_
                refine J.dec rfl (fun h5 => ?_) (fun h5 => ?_)
                · refine J.seq ?_
                  refine J.region ?_
                  refine L.va rfl (X.assign (by conv => lhs; whnf)) ?_
                  refine L.va rfl (X.assign (by conv => lhs; whnf)) ?_
                  refine L.nil ?_
                  refine J.ret ?_
                  refine inB_ret <|  thn_ret <|  thn_ret <|  inB_ret <|  thn_ret <| ?_
                  refine fin2 ?_
                  refine PatR.none_ (patE_k hin ?_) (by decide) rfl he06
                  rw [← hx]
                  unfold okK
                  rw [decide_eq_false (show ¬ x.2 ≤ 3 by omega), Bool.and_false]
                · refine J.skip ?_
                  refine J.region ?_
                  refine L.va rfl (X.add rfl rfl (by omega)) ?_
                  refine L.va rfl (X.move (by conv => lhs; whnf)) ?_
                  refine L.nil ?_
                  refine ⟨i + 1, At1 (by first | rfl | exact at_int rfl (by omega) | exact at_slice rfl (by omega) | exact at_int rfl (by simp)), (by (iterate 15 refine Agr.lk rfl ?_); exact Agr.lk rfl (Agr.hav rfl Agr.rfl')), ?_⟩
                  refine ⟨⟨by omega, fun j hj => ?_, he06⟩, by omega⟩
                  rcases Nat.lt_or_ge j i with h | h
                  · exact hK j h
                  · obtain rfl : j = i := by omega
                    rw [← hx]
                    unfold okK
                    rw [decide_eq_true (by omega), decide_eq_true (by omega)]
                    rfl
            · obtain rfl : i = l.length := by omega
              refine J.exit ?_
              refine ⟨(), At0 , (by (iterate 1 refine Agr.lk rfl ?_); refine Agr.lk rfl ?_; refine Agr.hav rfl ?_; (iterate 3 refine Agr.lk rfl ?_); exact Agr.rfl'), ?_⟩
              exact ⟨hK, he4⟩
        · rintro ⟨⟩ g w4 ⟨hK, he4⟩
          refine J.seq ?_
          refine J.region ?_
          refine L.va rfl (X.assign (by conv => lhs; whnf)) ?_
          refine L.nil ?_
          refine J.cut (X := Nat × Option Addr × Nat × Option Addr × Nat × List Ce) [0, 6, 7, 10, 12, 13, 14, 15, 44, 45, 46, 47, 48, 49, 50, 51, 52, 53, 54, 55, 56, 57, 58, 59, 60, 61, 62, 63, 64, 65, 66, 67, 68, 69, 70, 71, 72, 73, 74, 75, 76, 77, 78, 79, 80, 81, 82, 83, 84, 85, 86, 87, 88, 89, 90, 91, 92, 93, 94, 95, 96, 97, 98, 99, 100, 101, 102, 103, 104, 105, 106, 107, 108, 109, 110, 111, 112, 113, 114, 115, 116, 117, 118, 119, 120, 121, 122, 123, 124] (fun (p, Aa, ca, oA, od, out) => [(0, .slice Aa (la.length - p) ca), (10, .slice oA out.length od)]) (fun (p, Aa, ca, oA, od, out) w' => PatI N w la lb l l.length p Aa ca oA od out w' ∧ patE la l lb = 0) ?_ ?_
          · refine J.seq ?_
            refine J.region ?_
            refine L.va rfl (X.move (by conv => lhs; whnf)) ?_
            refine L.va rfl (X.len rfl Try.underlying25) ?_
            refine L.va rfl (X.move (by conv => lhs; whnf)) ?_
            refine L.nil ?_
            refine J.block ?_
            refine J.loop (X := Nat × Nat × Option Addr × Nat × Option Addr × Nat × List Ce) [0, 6, 7, 10, 12, 13, 14, 15, 46, 47, 48, 49, 50, 51, 52, 53, 54, 55, 56, 57, 58, 59, 60, 61, 62, 63, 64, 65, 66, 67, 68, 69, 70, 71, 72, 73, 74, 75, 76, 77, 78, 79, 80, 81, 82, 83, 84, 85, 86, 87, 88, 89, 90, 91, 92, 93, 94, 95, 96, 97, 98, 99, 100, 101, 102, 103, 104, 105, 106, 107, 108, 109, 110, 111, 112, 113, 114, 115, 116, 117, 118, 119, 120, 121, 122, 123, 124] (fun (i, p, Aa, ca, oA, od, out) => [(46, .int .i64 (i : Int)), (0, .slice Aa (la.length - p) ca), (10, .slice oA out.length od)]) (fun (i, p, Aa, ca, oA, od, out) w' => i ≤ l.length ∧ (∀ j, j < i → fault la lb (l.getD j (0, 0)) = 0) ∧ PatI N w la lb l i p Aa ca oA od out w') (fun (i, _) => l.length - i) ((0, 0, A, c, none, 0, [])) (At3 (by first | rfl | exact at_int rfl (by omega) | exact at_slice rfl (by omega) | exact at_int rfl (by simp)) (by first | rfl | exact at_int rfl (by omega) | exact at_slice rfl (by omega) | exact at_int rfl (by simp)) (by first | rfl | exact at_int rfl (by omega) | exact at_slice rfl (by omega) | exact at_int rfl (by simp))) ?_ ?_
            · exact ⟨Nat.zero_le _, fun j hj => absurd hj (by omega), ⟨Nat.zero_le _, hra.low (Below.mono he4 hN) (Nat.le_refl _), hca, own_nil _ _ _ _, PS.start la lb l, Nat.le_refl _, he4⟩⟩
            · rintro ⟨i, p, Aa, ca, oA, od, out⟩ g w5 ⟨hi, hF, H⟩
              have he5 := H.he
              have z5 := he5.le
              refine J.seq ?_
              refine J.region ?_
              refine L.va rfl (X.lss rfl rfl) ?_
              refine L.nil ?_
              refine J.seq ?_
              refine J.dec rfl (fun hlt => ?_) (fun hlt => ?_)
              · have hin : i < l.length := by omega
                have hr5 := hrl.low (Below.mono he5 hN) (Nat.le_refl _)
                have hA := hr5.some_ (by omega)
                have gx := gtC hin
                obtain ⟨x, hx⟩ : ∃ x, x = l.getD i ((0, 0) : Int × Int) := ⟨_, rfl⟩
                rw [← hx] at gx
                refine J.skip ?_
                refine J.seq ?_
                refine J.block ?_
                refine J.seq ?_
                refine J.region ?_
                refine L.va rfl ((by first | exact X.indexAddrn rfl rfl Try.underlying25 sz_38 (by first | exact Option.some_ne_none _ | exact hA) (by omega) | exact X.indexAddr rfl rfl Try.underlying25 sz_38 (by first | exact Option.some_ne_none _ | exact hA) (by omega))) ?_
                refine L.va rfl (X.loadRow (cs := chV x) rfl hr5 (fun r u hu => flat_row ch_len gx r u hu) (Nat.zero_lt_succ _) Try.underlying38 rfl (by kernel_rfl)) ?_
                refine L.alloc rfl zr_38 ?_
                intro b6 w6 hb6 hs6 hk6 he6
                refine L.storeAgg (vs := [_, _]) rfl rfl rfl rfl sz_38 (hk6) rfl ?_
                intro w7 hk7 hg7 hs7
                have he57 : Ext w5 w7 := he6.grw hg7 (by intro g hg; injection hg with hg; omega)
                have hk7 : Blk w7 b6 38 (chV x).toArray := hk7
                have H7 := H.ext he57
                refine L.nil ?_
                refine J.cut (X := Nat × Option Addr × Nat × Option Addr × Nat × List Ce) [0, 10, 50, 51, 52, 53, 54, 55, 56, 57, 58, 59, 60, 61, 62, 63, 64, 65, 66, 67, 68, 69] (fun (p, Aa, ca, oA, od, out) => [(0, .slice Aa (la.length - p) ca), (10, .slice oA out.length od)]) (fun (p, Aa, ca, oA, od, out) w' => PatI N w la lb l i p Aa ca oA od out w' ∧ (p < la.length → x.1 ≤ (la.getD p ce0).key) ∧ Blk w' b6 38 (chV x).toArray) ?_ ?_
                · refine J.block ?_
                  refine J.loop (X := Nat × Option Addr × Nat × Option Addr × Nat × List Ce) [0, 10, 50, 51, 52, 53, 54, 55, 56, 57, 58, 59, 60, 61, 62, 63, 64, 65, 66, 67, 68, 69] (fun (p, Aa, ca, oA, od, out) => [(0, .slice Aa (la.length - p) ca), (10, .slice oA out.length od)]) (fun (p, Aa, ca, oA, od, out) w' => PatI N w la lb l i p Aa ca oA od out w' ∧ Blk w' b6 38 (chV x).toArray) (fun (p, _) => la.length - p) ((p, Aa, ca, oA, od, out)) (At2 (by first | rfl | exact at_int rfl (by omega) | exact at_slice rfl (by omega) | exact at_int rfl (by simp)) (by first | rfl | exact at_int rfl (by omega) | exact at_slice rfl (by omega) | exact at_int rfl (by simp))) ?_ ?_
                  · exact ⟨H7, hk7⟩
                  · rintro ⟨p, Aa, ca, oA, od, out⟩ g w8 ⟨H8, hk8⟩
                    have hp8 := H8.hp
                    have hc8 := H8.hc
                    have z8 := H8.he.le
                    have hl8 := H8.len
                    rcases Nat.lt_or_ge p la.length with hp | hp
                    · have hA8 := H8.ra.some_ (by omega)
                      obtain ⟨y, hy⟩ : ∃ y, y = la.getD p ce0 := ⟨_, rfl⟩
                      have ed := drop_one hp
                      have hra8 := H8.ra
                      rw [ed, ← hy] at hra8
                      have ky : y.key = (y.k : Int) := rfl
                      refine J.seq ?_
                      refine J.seq ?_
                      refine J.draw (ℓ := 1000000) (S := Ext w8) mixed (fun w9 hS hS_h => ?_)
                      refine D.va 0 rfl (by kernel_rfl) (fun _ _ _ h => h) rfl (fun w' hw => X.move (by conv => lhs; whnf)) hS ?_
                      refine D.va 1 rfl (by kernel_rfl) (fun _ _ _ h => h) rfl (fun w' hw => X.len rfl Try.underlying22) hS ?_
                      refine D.va 2 rfl (by kernel_rfl) (fun _ _ _ h => h) rfl (fun w' hw => X.gtr rfl rfl) hS ?_
                      refine D.va 3 rfl (by kernel_rfl) (fun _ _ _ h => h) rfl (fun w' hw => X.move (by conv => lhs; whnf)) hS ?_
                      refine D.caseDecT (k := 53) rfl (by omega) ?_
                      refine D.va 4 rfl (by kernel_rfl) (fun _ _ _ h => h) rfl (fun w' hw => X.move (by conv => lhs; whnf)) hS ?_
                      refine D.va 5 rfl (by kernel_rfl) (fun _ _ _ h => h) rfl (fun w' hw => X.indexAddrn (j := 0) rfl rfl Try.underlying22 sz_61 (by first | exact Option.some_ne_none _ | exact hA8) (by omega)) hS ?_
                      refine D.va 6 rfl (by kernel_rfl) (fun _ _ _ h => h) rfl (fun w' hw => X.fieldP rfl Try.underlying61 rfl sz_36 (by decide) (by first | exact Option.some_ne_none _ | exact hA8)) hS ?_
                      refine D.va 7 rfl (by kernel_rfl) (fun _ _ _ h => h) rfl (fun w' hw => X.load rfl sc_36 (by first | exact Ld.blk (hk8.ext hw) rfl | exact hA8 | exact Ld.flat2 ce_len (hra8.ext hw) (i := 0) (x := y) rfl (r := 0) rfl)) hS ?_
                      refine D.va 8 rfl (by kernel_rfl) (fun _ _ _ h => h) rfl (fun w' hw => X.fieldAddr rfl Try.underlying38 rfl sz_36 (by decide)) hS ?_
                      refine D.va 9 rfl (by kernel_rfl) (fun _ _ _ h => h) rfl (fun w' hw => X.load rfl sc_36 (by first | exact Ld.blk (hk8.ext hw) rfl | exact hA8 | exact Ld.flat2 ce_len (hra8.ext hw) (i := 0) (x := y) rfl (r := 0) rfl)) hS ?_
                      refine D.va 10 rfl (by kernel_rfl) (fun _ _ _ h => h) rfl (fun w' hw => X.lss rfl rfl) hS ?_
                      refine D.va 11 rfl (by kernel_rfl) (fun _ _ _ h => h) rfl (fun w' hw => X.pickT rfl (by conv => lhs; whnf)) hS ?_
                      refine D.done (by kernel_rfl) ?_
                      replace hk8 := hk8.ext hS
                      refine J.dec rfl (fun hk => ?_) (fun hk => ?_)
                      · have H9 := H8.ext hS
                        have hk9 := hk8
                        have hr9 := hra8.ext hS
                        refine J.skip ?_
                        refine J.block ?_
                        refine J.seq ?_
                        refine J.region ?_
                        refine L.va rfl (X.move (by conv => lhs; whnf)) ?_
                        refine L.va rfl (X.move (by conv => lhs; whnf)) ?_
                        refine L.va rfl (X.indexAddrn (j := 0) rfl rfl Try.underlying22 sz_61 (by first | exact Option.some_ne_none _ | exact hA8) (by omega)) ?_
                        refine L.va rfl (X.loadRow (cs := y.vs) rfl hr9 (fun r u hu => flat_row ce_len (i := 0) (x := y) rfl r u hu) (Nat.zero_lt_succ _) Try.underlying61 rfl (by kernel_rfl)) ?_
                        refine L.bslice1 (l := [_, _, _, _]) rfl rfl rfl Try.underlying22 sz_61 zr_61 rfl ?_
                        intro b10 w10 hb10 hs10 hk10 he10
                        have H10 := H9.ext he10
                        have z10 := H10.he.le
                        have ho10 := H10.ho
                        refine L.appendV (q := out.length + 1) (ys := ((out ++ [y]).flatMap Ce.vs)) rfl rfl rfl Try.underlying22 el_61 (ho10) ((blk_readsN (sz := 4) (q := 1) (l := y.vs) hk10 hk10.lt rfl)) (by first | rfl | exact strs_ones _ | assumption) (by omega) (by simp) (by unfold maxLen; omega) (by omega) ?_
                        intro o11 d11 w11 ho11 hg11 hb11 hor11
                        have hk11 := (hk9.ext he10).grown hg11 (fun e => own_blk_ne ho10 (hk9.ext he10) (by decide) e.symm)
                        have he11 := H10.he.grw hg11 (fun g hg => (ho10.lt g hg).1)
                        have hra11 := cutC (H10.ra.low (Below.mono hb11 hN) (Nat.le_refl _)) hp hc8
                        have eo : (out ++ [y]).length = out.length + 1 := by rw [List.length_append]; rfl
                        refine L.va rfl (X.assign (by conv => lhs; whnf)) ?_
                        refine L.nil ?_
                        refine J.region ?_
                        refine L.va rfl (X.move (by conv => lhs; whnf)) ?_
                        refine L.va rfl ((by first | exact X.sliceFromn (i := 1) rfl rfl Try.underlying22 sz_61 (by omega) | exact X.sliceFrom rfl rfl Try.underlying22 sz_61 (by omega))) ?_
                        refine L.va rfl (X.assign (by conv => lhs; whnf)) ?_
                        refine L.nil ?_
                        refine ⟨(p + 1, (if ca = 1 then Aa else Aa.map (·.add (1 * 4))), ca - 1, o11, d11, out ++ [y]), At2 (at_slice rfl (by omega)) (at_slice rfl eo.symm), (by (iterate 23 refine Agr.lk rfl ?_); exact Agr.lk rfl (Agr.hav rfl Agr.rfl')), ?_⟩
                        refine ⟨⟨⟨by omega, hra11, by omega, by rw [eo]; exact ho11, ?_, by rw [eo]; omega, he11⟩, hk11⟩, by show la.length - (p + 1) < la.length - p; omega⟩
                        rw [hy]
                        refine H8.ps.pass Ra Rl hin hp ?_
                        rw [← hy, ← hx]
                        omega
                      · refine J.exit ?_
                        refine ⟨(p, Aa, ca, oA, od, out), At2 (by first | rfl | exact at_int rfl (by omega) | exact at_slice rfl (by omega) | exact at_int rfl (by simp)) (by first | rfl | exact at_int rfl (by omega) | exact at_slice rfl (by omega) | exact at_int rfl (by simp)), (by (iterate 13 refine Agr.lk rfl ?_); refine Agr.lk rfl ?_; refine Agr.hav rfl ?_; exact Agr.rfl'), ?_⟩
                        refine ⟨H8.ext hS, fun h => ?_, hk8⟩
                        rw [← hy]
                        omega
                    · refine J.seq ?_
                      refine J.seq ?_
                      refine J.draw (ℓ := 1000000) (S := Ext w8) mixed (fun w9 hS hS_h => ?_)
                      refine D.va 0 rfl (by kernel_rfl) (fun _ _ _ h => h) rfl (fun w' hw => X.move (by conv => lhs; whnf)) hS ?_
                      refine D.va 1 rfl (by kernel_rfl) (fun _ _ _ h => h) rfl (fun w' hw => X.len rfl Try.underlying22) hS ?_
                      refine D.va 2 rfl (by kernel_rfl) (fun _ _ _ h => h) rfl (fun w' hw => X.gtr rfl rfl) hS ?_
                      refine D.va 3 rfl (by kernel_rfl) (fun _ _ _ h => h) rfl (fun w' hw => X.move (by conv => lhs; whnf)) hS ?_
                      refine D.caseDecF (k := 53) rfl (by omega) ?_
                      refine D.no 4 rfl (by kernel_rfl) (fun _ _ _ h => h) rfl hS ?_
                      refine D.no 5 rfl (by kernel_rfl) (fun _ _ _ h => h) rfl hS ?_
                      refine D.no 6 rfl (by kernel_rfl) (fun _ _ _ h => h) rfl hS ?_
                      refine D.no 7 rfl (by kernel_rfl) (fun _ _ _ h => h) rfl hS ?_
                      refine D.no 8 rfl (by kernel_rfl) (fun _ _ _ h => h) rfl hS ?_
                      refine D.no 9 rfl (by kernel_rfl) (fun _ _ _ h => h) rfl hS ?_
                      refine D.no 10 rfl (by kernel_rfl) (fun _ _ _ h => h) rfl hS ?_
                      refine D.va 11 rfl (by kernel_rfl) (fun _ _ _ h => h) rfl (fun w' hw => X.pickF rfl (by conv => lhs; whnf)) hS ?_
                      refine D.done (by kernel_rfl) ?_
                      replace hk8 := hk8.ext hS
                      refine J.iteF rfl ?_
                      refine J.exit ?_
                      refine ⟨(p, Aa, ca, oA, od, out), At2 (by first | rfl | exact at_int rfl (by omega) | exact at_slice rfl (by omega) | exact at_int rfl (by simp)) (by first | rfl | exact at_int rfl (by omega) | exact at_slice rfl (by omega) | exact at_int rfl (by simp)), (by (iterate 13 refine Agr.lk rfl ?_); refine Agr.lk rfl ?_; refine Agr.hav rfl ?_; exact Agr.rfl'), ?_⟩
                      exact ⟨H8.ext hS, fun h => absurd h (by omega), hk8⟩
                · rintro ⟨p, Aa, ca, oA, od, out⟩ g w8 ⟨H8, hge, hk8⟩
                  have hp8 := H8.hp
                  have hc8 := H8.hc
                  have z8 := H8.he.le
                  have hl8 := H8.len
                  have hH := H8.ps.here Ra hin (by rw [← hx]; exact hge)
                  rw [← hx] at hH
                  refine J.cut (X := Bool) [13, 70, 71, 72, 73, 74, 75, 76, 77, 78, 79, 80, 81] (fun z => [(13, .bool z)]) (fun z w' => z = hasK la x.1 ∧ Ext w8 w') ?_ ?_
                  · skip
                    rcases Nat.lt_or_ge p la.length with hp | hp
                    · have hA8 := H8.ra.some_ (by omega)
                      obtain ⟨y, hy⟩ : ∃ y, y = la.getD p ce0 := ⟨_, rfl⟩
                      have ed := drop_one hp
                      have hra8 := H8.ra
                      rw [ed, ← hy] at hra8
                      have ky : y.key = (y.k : Int) := rfl
                      refine J.draw (ℓ := 1000000) (S := Ext w8) mixed (fun w9 hS hS_h => ?_)
                      refine D.va 0 rfl (by kernel_rfl) (fun _ _ _ h => h) rfl (fun w' hw => X.move (by conv => lhs; whnf)) hS ?_
                      refine D.va 1 rfl (by kernel_rfl) (fun _ _ _ h => h) rfl (fun w' hw => X.len rfl Try.underlying22) hS ?_
                      refine D.va 2 rfl (by kernel_rfl) (fun _ _ _ h => h) rfl (fun w' hw => X.gtr rfl rfl) hS ?_
                      refine D.va 3 rfl (by kernel_rfl) (fun _ _ _ h => h) rfl (fun w' hw => X.move (by conv => lhs; whnf)) hS ?_
                      refine D.caseDecT (k := 73) rfl (by omega) ?_
                      refine D.va 4 rfl (by kernel_rfl) (fun _ _ _ h => h) rfl (fun w' hw => X.move (by conv => lhs; whnf)) hS ?_
                      refine D.va 5 rfl (by kernel_rfl) (fun _ _ _ h => h) rfl (fun w' hw => X.indexAddrn (j := 0) rfl rfl Try.underlying22 sz_61 (by first | exact Option.some_ne_none _ | exact hA8) (by omega)) hS ?_
                      refine D.va 6 rfl (by kernel_rfl) (fun _ _ _ h => h) rfl (fun w' hw => X.fieldP rfl Try.underlying61 rfl sz_36 (by decide) (by first | exact Option.some_ne_none _ | exact hA8)) hS ?_
                      refine D.va 7 rfl (by kernel_rfl) (fun _ _ _ h => h) rfl (fun w' hw => X.load rfl sc_36 (by first | exact Ld.blk (hk8.ext hw) rfl | exact hA8 | exact Ld.flat2 ce_len (hra8.ext hw) (i := 0) (x := y) rfl (r := 0) rfl)) hS ?_
                      refine D.va 8 rfl (by kernel_rfl) (fun _ _ _ h => h) rfl (fun w' hw => X.fieldAddr rfl Try.underlying38 rfl sz_36 (by decide)) hS ?_
                      refine D.va 9 rfl (by kernel_rfl) (fun _ _ _ h => h) rfl (fun w' hw => X.load rfl sc_36 (by first | exact Ld.blk (hk8.ext hw) rfl | exact hA8 | exact Ld.flat2 ce_len (hra8.ext hw) (i := 0) (x := y) rfl (r := 0) rfl)) hS ?_
                      refine D.va 10 rfl (by kernel_rfl) (fun _ _ _ h => h) rfl (fun w' hw => X.eql rfl rfl) hS ?_
                      refine D.va 11 rfl (by kernel_rfl) (fun _ _ _ h => h) rfl (fun w' hw => X.pickT rfl (by conv => lhs; whnf)) hS ?_
                      refine D.va 12 rfl (by kernel_rfl) (fun _ _ _ h => h) rfl (fun w' hw => X.assign (by conv => lhs; whnf)) hS ?_
                      refine D.done (by kernel_rfl) ?_
                      replace hk8 := hk8.ext hS
                      refine ⟨decide ((y.k : Int) = x.1), At1 (by first | rfl | exact at_int rfl (by omega) | exact at_slice rfl (by omega) | exact at_int rfl (by simp)), (by (iterate 14 refine Agr.lk rfl ?_); exact Agr.rfl'), ?_⟩
                      refine ⟨?_, hS⟩
                      cases hh : hasK la x.1
                      · refine decide_eq_false fun e => ?_
                        have := hH.2 ⟨hp, by rw [← hy]; exact e⟩
                        rw [← hasK_t, hh] at this
                        cases this
                      · refine decide_eq_true ?_
                        have := (hH.1 (hasK_t.1 hh)).2
                        rw [← hy] at this
                        exact this
                    ·
                      refine J.draw (ℓ := 1000000) (S := Ext w8) mixed (fun w9 hS hS_h => ?_)
                      refine D.va 0 rfl (by kernel_rfl) (fun _ _ _ h => h) rfl (fun w' hw => X.move (by conv => lhs; whnf)) hS ?_
                      refine D.va 1 rfl (by kernel_rfl) (fun _ _ _ h => h) rfl (fun w' hw => X.len rfl Try.underlying22) hS ?_
                      refine D.va 2 rfl (by kernel_rfl) (fun _ _ _ h => h) rfl (fun w' hw => X.gtr rfl rfl) hS ?_
                      refine D.va 3 rfl (by kernel_rfl) (fun _ _ _ h => h) rfl (fun w' hw => X.move (by conv => lhs; whnf)) hS ?_
                      refine D.caseDecF (k := 73) rfl (by omega) ?_
                      refine D.no 4 rfl (by kernel_rfl) (fun _ _ _ h => h) rfl hS ?_
                      refine D.no 5 rfl (by kernel_rfl) (fun _ _ _ h => h) rfl hS ?_
                      refine D.no 6 rfl (by kernel_rfl) (fun _ _ _ h => h) rfl hS ?_
                      refine D.no 7 rfl (by kernel_rfl) (fun _ _ _ h => h) rfl hS ?_
                      refine D.no 8 rfl (by kernel_rfl) (fun _ _ _ h => h) rfl hS ?_
                      refine D.no 9 rfl (by kernel_rfl) (fun _ _ _ h => h) rfl hS ?_
                      refine D.no 10 rfl (by kernel_rfl) (fun _ _ _ h => h) rfl hS ?_
                      refine D.va 11 rfl (by kernel_rfl) (fun _ _ _ h => h) rfl (fun w' hw => X.pickF rfl (by conv => lhs; whnf)) hS ?_
                      refine D.va 12 rfl (by kernel_rfl) (fun _ _ _ h => h) rfl (fun w' hw => X.assign (by conv => lhs; whnf)) hS ?_
                      refine D.done (by kernel_rfl) ?_
                      replace hk8 := hk8.ext hS
                      refine ⟨false, At1 (by first | rfl | exact at_int rfl (by omega) | exact at_slice rfl (by omega) | exact at_int rfl (by simp)), (by (iterate 14 refine Agr.lk rfl ?_); exact Agr.rfl'), ?_⟩
                      refine ⟨?_, hS⟩
                      cases hh : hasK la x.1
                      · rfl
                      · have := (hH.1 (hasK_t.1 hh)).1
                        omega
                  · rintro z g w9 ⟨rfl, he89⟩
                    have H9 := H8.ext he89
                    have hk9 := hk8.ext he89
                    have c4 := cfind (w := w9) B d lb x.1 (hrb.low (Below.mono H9.he hN) (Nat.le_refl _)) (by have := H9.he.le; omega) (by omega) Rb
                    refine J.seq ?_
                    refine J.region ?_
                    refine L.va rfl (X.move (by conv => lhs; whnf)) ?_
                    refine L.va rfl (X.fieldAddr rfl Try.underlying38 rfl sz_36 (by decide)) ?_
                    refine L.va rfl (X.load rfl sc_36 (by first | exact Ld.blk hk9 rfl)) ?_
                    refine L.call rfl en_29 rfl (c4) ?_
                    rintro e w10 ⟨he10, k, z, rfl, hkl, hzt, hzf⟩
                    refine ⟨_, rfl, ?_⟩
                    have he10 : Ext w9 w10 := he10
                    have H10 := H9.ext he10
                    have hk9 := hk9.ext he10
                    have hz : z = hasK lb x.1 := by
                      cases z
                      · exact (hasK_f.2 (hzf rfl)).symm
                      · exact (hasK_t.2 ⟨_, memD (hzt rfl).1, (hzt rfl).2⟩).symm
                    refine L.va rfl (X.move (by conv => lhs; whnf)) ?_
                    refine L.va rfl (X.extract rfl rfl) ?_
                    refine L.va rfl (X.extract rfl rfl) ?_
                    refine L.va rfl (X.assign (by conv => lhs; whnf)) ?_
                    refine L.va rfl (X.assign (by conv => lhs; whnf)) ?_
                    refine L.nil ?_
                    refine J.cut (X := Unit) [6, 7, 89, 90, 91, 92, 93, 94, 95, 96, 97, 98, 99, 100, 101, 102, 103, 104, 105, 106, 107, 108, 109, 110] (fun _ => []) (fun _ w' => fault la lb x = 0 ∧ w10 = w') ?_ ?_
                    · skip
                      by_cases k2 : x.2 = 2
                      · refine J.block ?_
                        refine J.seq ?_
                        refine J.seq ?_
                        refine J.region ?_
                        refine L.va rfl (X.fieldAddr rfl Try.underlying38 rfl sz_3 (by decide)) ?_
                        refine L.va rfl (X.load rfl sc_3 (by first | exact Ld.blk hk9 rfl)) ?_
                        refine L.va rfl (X.neq rfl rfl) ?_
                        refine L.va rfl (X.move (by conv => lhs; whnf)) ?_
                        refine L.caseNdecF (k := 93) rfl (by exact k2) ?_
                        refine L.no rfl ?_
                        refine L.no rfl ?_
                        refine L.va rfl (X.pickF rfl (by conv => lhs; whnf)) ?_
                        refine L.va rfl (X.assign (by conv => lhs; whnf)) ?_
                        refine L.nil ?_
                        refine J.iteF rfl ?_
                        refine J.region ?_
                        refine L.va rfl (X.fieldAddr rfl Try.underlying38 rfl sz_3 (by decide)) ?_
                        refine L.va rfl (X.load rfl sc_3 (by first | exact Ld.blk hk9 rfl)) ?_
                        refine L.va rfl (X.neq rfl rfl) ?_
                        refine L.va rfl (X.move (by conv => lhs; whnf)) ?_
                        refine L.caseNdecT (k := 100) rfl (by omega) ?_
                        refine L.va rfl (X.move (by conv => lhs; whnf)) ?_
                        refine L.va rfl (X.not rfl) ?_
                        refine L.va rfl (X.pickT rfl (by conv => lhs; whnf)) ?_
                        refine L.va rfl (X.assign (by conv => lhs; whnf)) ?_
                        refine L.nil ?_
                        refine J.ite rfl (fun hz1 => ?_) (fun hz1 => ?_)
                        · have hz2 : hasK lb x.1 = false := by rw [← hz]; simpa using hz1
                          refine J.seq ?_
                          refine J.region ?_
                          refine L.va rfl (X.assign (by conv => lhs; whnf)) ?_
                          refine L.va rfl (X.assign (by conv => lhs; whnf)) ?_
                          refine L.nil ?_
                          refine J.ret ?_
                          refine inB_ret <|  thn_ret <|  inB_ret <|  thn_ret <|  thn_ret <|  inB_ret <|  thn_ret <| ?_
                          refine fin2 ?_
                          have ef : fault la lb x = 11 := if_pos (.inr ⟨by omega, hz2⟩)
                          rw [hx] at ef
                          exact PatR.none_ ((patE_f hrs hK hin hF (by rw [ef]; decide)).trans ef) (by decide) rfl H10.he
                        · have hz2 : hasK lb x.1 = true := by rw [← hz]; simpa using hz1
                          refine J.seq ?_
                          refine J.region ?_
                          refine L.va rfl (X.fieldAddr rfl Try.underlying38 rfl sz_3 (by decide)) ?_
                          refine L.va rfl (X.load rfl sc_3 (by first | exact Ld.blk hk9 rfl)) ?_
                          refine L.va rfl (X.eql rfl rfl) ?_
                          refine L.va rfl (X.move (by conv => lhs; whnf)) ?_
                          refine L.caseDecT (k := 108) rfl (by exact k2) ?_
                          refine L.va rfl (X.move (by conv => lhs; whnf)) ?_
                          refine L.va rfl (X.pickT rfl (by conv => lhs; whnf)) ?_
                          refine L.va rfl (X.assign (by conv => lhs; whnf)) ?_
                          refine L.nil ?_
                          refine J.ite rfl (fun hh => ?_) (fun hh => ?_)
                          · refine J.seq ?_
                            refine J.region ?_
                            refine L.va rfl (X.assign (by conv => lhs; whnf)) ?_
                            refine L.va rfl (X.assign (by conv => lhs; whnf)) ?_
                            refine L.nil ?_
                            refine J.ret ?_
                            refine inB_ret <|  thn_ret <|  inB_ret <|  thn_ret <|  thn_ret <|  inB_ret <|  thn_ret <| ?_
                            refine fin2 ?_
                            have ef : fault la lb x = 9 := by
                              unfold fault
                              rw [if_neg, if_pos ⟨k2, hh⟩]
                              rintro (⟨h, _⟩ | ⟨_, h⟩)
                              · exact h k2
                              · rw [hz2] at h; cases h
                            rw [hx] at ef
                            exact PatR.none_ ((patE_f hrs hK hin hF (by rw [ef]; decide)).trans ef) (by decide) rfl H10.he
                          · refine J.skip ?_
                            refine ⟨(), At0 , (by (iterate 26 refine Agr.lk rfl ?_); exact Agr.rfl'), ?_⟩
                            refine ⟨?_, rfl⟩
                            unfold fault
                            rw [if_neg, if_neg]
                            · rintro ⟨_, h⟩
                              rw [hh] at h; cases h
                            · rintro (⟨h, _⟩ | ⟨_, h⟩)
                              · exact h k2
                              · rw [hz2] at h; cases h
                      · refine J.block ?_
                        refine J.seq ?_
                        refine J.seq ?_
                        refine J.region ?_
                        refine L.va rfl (X.fieldAddr rfl Try.underlying38 rfl sz_3 (by decide)) ?_
                        refine L.va rfl (X.load rfl sc_3 (by first | exact Ld.blk hk9 rfl)) ?_
                        refine L.va rfl (X.neq rfl rfl) ?_
                        refine L.va rfl (X.move (by conv => lhs; whnf)) ?_
                        refine L.caseNdecT (k := 93) rfl (by exact k2) ?_
                        refine L.va rfl (X.move (by conv => lhs; whnf)) ?_
                        refine L.va rfl (X.not rfl) ?_
                        refine L.va rfl (X.pickT rfl (by conv => lhs; whnf)) ?_
                        refine L.va rfl (X.assign (by conv => lhs; whnf)) ?_
                        refine L.nil ?_
                        refine J.ite rfl (fun hh => ?_) (fun hh => ?_)
                        · have hh2 : hasK la x.1 = false := by simpa using hh
                          refine J.skip ?_
                          refine J.ite rfl (fun hT => ?_) (fun hT => ?_)
                          · refine J.seq ?_
                            refine J.region ?_
                            refine L.va rfl (X.assign (by conv => lhs; whnf)) ?_
                            refine L.va rfl (X.assign (by conv => lhs; whnf)) ?_
                            refine L.nil ?_
                            refine J.ret ?_
                            refine inB_ret <|  thn_ret <|  inB_ret <|  thn_ret <|  thn_ret <|  inB_ret <|  thn_ret <| ?_
                            refine fin2 ?_
                            have ef : fault la lb x = 11 := if_pos (.inl ⟨k2, hh2⟩)
                            rw [hx] at ef
                            exact PatR.none_ ((patE_f hrs hK hin hF (by rw [ef]; decide)).trans ef) (by decide) rfl H10.he
                          · rw [hh] at hT
                            cases hT
                        · have hh2 : hasK la x.1 = true := by simpa using hh
                          refine J.region ?_
                          refine L.va rfl (X.fieldAddr rfl Try.underlying38 rfl sz_3 (by decide)) ?_
                          refine L.va rfl (X.load rfl sc_3 (by first | exact Ld.blk hk9 rfl)) ?_
                          refine L.va rfl (X.neq rfl rfl) ?_
                          refine L.va rfl (X.move (by conv => lhs; whnf)) ?_
                          refine L.caseNdec (k := 100) rfl (fun k1 => ?_) (fun k1 => ?_)
                          · refine L.va rfl (X.move (by conv => lhs; whnf)) ?_
                            refine L.va rfl (X.not rfl) ?_
                            refine L.va rfl (X.pickT rfl (by conv => lhs; whnf)) ?_
                            refine L.va rfl (X.assign (by conv => lhs; whnf)) ?_
                            refine L.nil ?_
                            refine J.ite rfl (fun hz1 => ?_) (fun hz1 => ?_)
                            · have hz2 : hasK lb x.1 = false := by rw [← hz]; simpa using hz1
                              refine J.seq ?_
                              refine J.region ?_
                              refine L.va rfl (X.assign (by conv => lhs; whnf)) ?_
                              refine L.va rfl (X.assign (by conv => lhs; whnf)) ?_
                              refine L.nil ?_
                              refine J.ret ?_
                              refine inB_ret <|  thn_ret <|  inB_ret <|  thn_ret <|  thn_ret <|  inB_ret <|  thn_ret <| ?_
                              refine fin2 ?_
                              have ef : fault la lb x = 11 := if_pos (.inr ⟨k1, hz2⟩)
                              rw [hx] at ef
                              exact PatR.none_ ((patE_f hrs hK hin hF (by rw [ef]; decide)).trans ef) (by decide) rfl H10.he
                            · have hz2 : hasK lb x.1 = true := by rw [← hz]; simpa using hz1
                              refine J.seq ?_
                              refine J.region ?_
                              refine L.va rfl (X.fieldAddr rfl Try.underlying38 rfl sz_3 (by decide)) ?_
                              refine L.va rfl (X.load rfl sc_3 (by first | exact Ld.blk hk9 rfl)) ?_
                              refine L.va rfl (X.eql rfl rfl) ?_
                              refine L.va rfl (X.move (by conv => lhs; whnf)) ?_
                              refine L.caseDecF (k := 108) rfl (by exact k2) ?_
                              refine L.no rfl ?_
                              refine L.va rfl (X.pickF rfl (by conv => lhs; whnf)) ?_
                              refine L.va rfl (X.assign (by conv => lhs; whnf)) ?_
                              refine L.nil ?_
                              refine J.iteF rfl ?_
                              refine J.skip ?_
                              refine ⟨(), At0 , (by (iterate 26 refine Agr.lk rfl ?_); exact Agr.rfl'), ?_⟩
                              refine ⟨?_, rfl⟩
                              unfold fault
                              rw [if_neg, if_neg]
                              · rintro ⟨h, _⟩
                                exact k2 h
                              · rintro (⟨_, h⟩ | ⟨_, h⟩)
                                · rw [hh2] at h; cases h
                                · rw [hz2] at h; cases h
                          · refine L.no rfl ?_
                            refine L.no rfl ?_
                            refine L.va rfl (X.pickF rfl (by conv => lhs; whnf)) ?_
                            refine L.va rfl (X.assign (by conv => lhs; whnf)) ?_
                            refine L.nil ?_
                            refine J.iteF rfl ?_
                            refine J.seq ?_
                            refine J.region ?_
                            refine L.va rfl (X.fieldAddr rfl Try.underlying38 rfl sz_3 (by decide)) ?_
                            refine L.va rfl (X.load rfl sc_3 (by first | exact Ld.blk hk9 rfl)) ?_
                            refine L.va rfl (X.eql rfl rfl) ?_
                            refine L.va rfl (X.move (by conv => lhs; whnf)) ?_
                            refine L.caseDecF (k := 108) rfl (by exact k2) ?_
                            refine L.no rfl ?_
                            refine L.va rfl (X.pickF rfl (by conv => lhs; whnf)) ?_
                            refine L.va rfl (X.assign (by conv => lhs; whnf)) ?_
                            refine L.nil ?_
                            refine J.iteF rfl ?_
                            refine J.skip ?_
                            refine ⟨(), At0 , (by (iterate 26 refine Agr.lk rfl ?_); exact Agr.rfl'), ?_⟩
                            refine ⟨?_, rfl⟩
                            unfold fault
                            rw [if_neg, if_neg]
                            · rintro ⟨h, _⟩
                              exact k2 h
                            · rintro (⟨_, h⟩ | ⟨h, _⟩)
                              · rw [hh2] at h; cases h
                              · exact h k1
                    · rintro ⟨⟩ g w11 ⟨hf0, rfl⟩
                      have hra10 := H10.ra
                      have z10 := H10.he.le
                      refine J.cut (X := Nat × Option Addr × Nat) [0, 111, 112, 113] (fun (p', Aa', ca') => [(0, .slice Aa' (la.length - p') ca')]) (fun (p', Aa', ca') w' => ((p' = p + 1 ∧ p < la.length ∧ (la.getD p ce0).key = x.1) ∨ (p' = p ∧ ¬ (p < la.length ∧ (la.getD p ce0).key = x.1))) ∧ Reads w' N 4 Aa' (la.length - p') ((la.drop p').flatMap Ce.vs) ∧ la.length - p' ≤ ca' ∧ w10 = w') ?_ ?_
                      · refine J.seq ?_
                        refine J.region ?_
                        refine L.va rfl (X.move (by conv => lhs; whnf)) ?_
                        refine L.nil ?_
                        refine J.ite rfl (fun hh => ?_) (fun hh => ?_)
                        · obtain ⟨q1, q2⟩ := hH.1 (hasK_t.1 hh)
                          refine J.region ?_
                          refine L.va rfl (X.move (by conv => lhs; whnf)) ?_
                          refine L.va rfl ((by first | exact X.sliceFromn (i := 1) rfl rfl Try.underlying22 sz_61 (by omega) | exact X.sliceFrom rfl rfl Try.underlying22 sz_61 (by omega))) ?_
                          refine L.va rfl (X.assign (by conv => lhs; whnf)) ?_
                          refine L.nil ?_
                          refine ⟨(p + 1, (if ca = 1 then Aa else Aa.map (·.add (1 * 4))), ca - 1), At1 (by first | rfl | exact at_int rfl (by omega) | exact at_slice rfl (by omega) | exact at_int rfl (by simp)), (by (iterate 4 refine Agr.lk rfl ?_); exact Agr.rfl'), ?_⟩
                          exact ⟨.inl ⟨rfl, q1, q2⟩, cutC hra10 q1 hc8, Nat.sub_le_sub_right hc8 1, rfl⟩
                        · refine J.skip ?_
                          refine ⟨(p, Aa, ca), At1 (by first | rfl | exact at_int rfl (by omega) | exact at_slice rfl (by omega) | exact at_int rfl (by simp)), (by (iterate 1 refine Agr.lk rfl ?_); exact Agr.rfl'), ?_⟩
                          refine ⟨.inr ⟨rfl, fun h => ?_⟩, hra10, hc8, rfl⟩
                          have := hasK_t.2 (hH.2 h)
                          rw [hh] at this
                          cases this
                      · rintro ⟨p', Aa', ca'⟩ g w11 ⟨hp', hra', hc', rfl⟩
                        have hp2 : p' ≤ la.length ∧ p ≤ p' := by rcases hp' with ⟨rfl, h, _⟩ | ⟨rfl, _⟩ <;> omega
                        have hge' : p < la.length → (l.getD i (0, 0)).1 ≤ (la.getD p ce0).key := by rw [← hx]; exact hge
                        refine J.seq ?_
                        refine J.region ?_
                        refine L.va rfl (X.fieldAddr rfl Try.underlying38 rfl sz_3 (by decide)) ?_
                        refine L.va rfl (X.load rfl sc_3 (by first | exact Ld.blk hk9 rfl)) ?_
                        refine L.va rfl (X.neq rfl rfl) ?_
                        refine L.nil ?_
                        refine J.ndec rfl (fun k1 => ?_) (fun k1 => ?_)
                        · have hb1 : hasK lb x.1 = true := by
                            cases hq : hasK lb x.1
                            · unfold fault at hf0
                              rw [if_pos (.inr ⟨k1, hq⟩)] at hf0
                              cases hf0
                            · rfl
                          rw [← hz] at hb1
                          obtain ⟨hk1, hk2⟩ := hzt hb1
                          obtain ⟨y, hy⟩ : ∃ y, y = lb.getD k ce0 := ⟨_, rfl⟩
                          have gy := gtX hk1
                          have my := memD (l := lb) (i := k) (d := ce0) hk1
                          rw [← hy] at gy hk2 my
                          have hrb10 := hrb.low (Below.mono H10.he hN) (Nat.le_refl _)
                          have hAb := hrb10.some_ (by omega)
                          refine J.region ?_
                          refine L.va rfl (X.move (by conv => lhs; whnf)) ?_
                          refine L.va rfl (X.move (by conv => lhs; whnf)) ?_
                          refine L.va rfl (X.move (by conv => lhs; whnf)) ?_
                          refine L.va rfl ((by first | exact X.indexAddrn rfl rfl Try.underlying22 sz_61 (by first | exact Option.some_ne_none _ | exact hAb) (by omega) | exact X.indexAddr rfl rfl Try.underlying22 sz_61 (by first | exact Option.some_ne_none _ | exact hAb) (by omega))) ?_
                          refine L.va rfl (X.loadRow (cs := y.vs) rfl hrb10 (fun r u hu => flat_row ce_len gy r u hu) (Nat.zero_lt_succ _) Try.underlying61 rfl (by kernel_rfl)) ?_
                          refine L.bslice1 (l := [_, _, _, _]) rfl rfl rfl Try.underlying22 sz_61 zr_61 rfl ?_
                          intro b12 w12 hb12 hs12 hk12 he12
                          have H12 := H10.ext he12
                          have z12 := H12.he.le
                          have ho12 := H12.ho
                          refine L.appendV (q := out.length + 1) (ys := ((out ++ [y]).flatMap Ce.vs)) rfl rfl rfl Try.underlying22 el_61 (ho12) ((blk_readsN (sz := 4) (q := 1) (l := y.vs) hk12 hk12.lt rfl)) (by first | rfl | exact strs_ones _ | assumption) (by omega) (by simp) (by unfold maxLen; omega) (by omega) ?_
                          intro o13 d13 w13 ho13 hg13 hb13 hor13
                          have he13 := H12.he.grw hg13 (fun g hg => (ho12.lt g hg).1)
                          have hra13 := (hra'.ext he12).low (Below.mono hb13 hN) (Nat.le_refl _)
                          have eo : (out ++ [y]).length = out.length + 1 := by rw [List.length_append]; rfl
                          refine L.va rfl (X.assign (by conv => lhs; whnf)) ?_
                          refine L.nil ?_
                          refine J.region ?_
                          refine L.va rfl (X.add rfl rfl (by omega)) ?_
                          refine L.va rfl (X.move (by conv => lhs; whnf)) ?_
                          refine L.nil ?_
                          refine ⟨(i + 1, p', Aa', ca', o13, d13, out ++ [y]), At3 (rfl) (rfl) (at_slice rfl eo.symm), (by (iterate 13 refine Agr.lk rfl ?_); refine Agr.lk rfl ?_; refine Agr.hav rfl ?_; refine Agr.lk rfl ?_; refine Agr.hav rfl ?_; (iterate 9 refine Agr.lk rfl ?_); refine Agr.lk rfl ?_; refine Agr.hav rfl ?_; refine Agr.lk rfl ?_; refine Agr.hav rfl ?_; (iterate 4 refine Agr.lk rfl ?_); exact Agr.lk rfl (Agr.hav rfl Agr.rfl')), ?_⟩
                          refine ⟨⟨by omega, fun j hj => ?_, ⟨hp2.1, hra13, hc', by rw [eo]; exact ho13, ?_, by rw [eo]; omega, he13⟩⟩, by show l.length - (i + 1) < l.length - i; omega⟩
                          · rcases Nat.lt_or_ge j i with h | h
                            · exact hF j h
                            · obtain rfl : j = i := by omega
                              rw [← hx]
                              exact hf0
                          · exact H8.ps.put Ra Rb Rl hin hge' (by rw [← hx]; exact hp') my (by rw [← hx]; exact hk2) (by rw [← hx]; exact k1)
                        · have ha1 : hasK la x.1 = true := by
                            cases hq : hasK la x.1
                            · unfold fault at hf0
                              rw [if_pos (.inl ⟨by omega, hq⟩)] at hf0
                              cases hf0
                            · rfl
                          obtain ⟨q1, q2⟩ := hH.1 (hasK_t.1 ha1)
                          have ep : p' = p + 1 := by
                            rcases hp' with ⟨h, _⟩ | ⟨_, h⟩
                            · exact h
                            · exact absurd ⟨q1, q2⟩ h
                          refine J.skip ?_
                          refine J.region ?_
                          refine L.va rfl (X.add rfl rfl (by omega)) ?_
                          refine L.va rfl (X.move (by conv => lhs; whnf)) ?_
                          refine L.nil ?_
                          refine ⟨(i + 1, p', Aa', ca', oA, od, out), At3 (by first | rfl | exact at_int rfl (by omega) | exact at_slice rfl (by omega) | exact at_int rfl (by simp)) (by first | rfl | exact at_int rfl (by omega) | exact at_slice rfl (by omega) | exact at_int rfl (by simp)) (by first | rfl | exact at_int rfl (by omega) | exact at_slice rfl (by omega) | exact at_int rfl (by simp)), (by (iterate 5 refine Agr.lk rfl ?_); refine Agr.lk rfl ?_; refine Agr.hav rfl ?_; refine Agr.lk rfl ?_; refine Agr.hav rfl ?_; (iterate 9 refine Agr.lk rfl ?_); refine Agr.lk rfl ?_; refine Agr.hav rfl ?_; refine Agr.lk rfl ?_; refine Agr.hav rfl ?_; (iterate 4 refine Agr.lk rfl ?_); exact Agr.lk rfl (Agr.hav rfl Agr.rfl')), ?_⟩
                          refine ⟨⟨by omega, fun j hj => ?_, ⟨hp2.1, hra', hc', H10.ho, ?_, by omega, H10.he⟩⟩, by show l.length - (i + 1) < l.length - i; omega⟩
                          · rcases Nat.lt_or_ge j i with h | h
                            · exact hF j h
                            · obtain rfl : j = i := by omega
                              rw [← hx]
                              exact hf0
                          · rw [ep]
                            exact H8.ps.gone Ra Rl hin q1 (by rw [← hx]; exact q2) (by rw [← hx]; exact k1)
              · obtain rfl : i = l.length := by omega
                refine J.exit ?_
                refine ⟨(p, Aa, ca, oA, od, out), At2 (by first | rfl | exact at_int rfl (by omega) | exact at_slice rfl (by omega) | exact at_int rfl (by simp)) (by first | rfl | exact at_int rfl (by omega) | exact at_slice rfl (by omega) | exact at_int rfl (by simp)), (by (iterate 1 refine Agr.lk rfl ?_); refine Agr.lk rfl ?_; refine Agr.hav rfl ?_; (iterate 3 refine Agr.lk rfl ?_); exact Agr.rfl'), ?_⟩
                exact ⟨H, patE_0 hrs hK hF⟩
          · rintro ⟨p, Aa, ca, oA, od, out⟩ g w5 ⟨H, hE⟩
            have hp := H.hp
            have hl := H.len
            have z5 := H.he.le
            have ho5 := H.ho
            have hones := ces_ones (la.drop p)
            have hPat := H.ps.all Ra
            refine J.seq ?_
            refine J.region ?_
            refine L.va rfl (X.move (by conv => lhs; whnf)) ?_
            refine L.va rfl (X.move (by conv => lhs; whnf)) ?_
            refine L.appendV (q := out.length + (la.length - p)) (ys := ((out ++ la.drop p).flatMap Ce.vs)) rfl rfl rfl Try.underlying22 el_61 (ho5) (H.ra) (by first | rfl | exact strs_ones _ | assumption) (by omega) (by simp) (by unfold maxLen; omega) (by omega) ?_
            intro A6 c6 w6 ho6 hg6 hb6 hor6
            have he6 := H.he.grw hg6 (fun g hg => (ho5.lt g hg).1)
            have z6 := he6.le
            have hall : ∀ y ∈ out ++ la.drop p, y.At N w ∧ y.Lt := fun y hy => by
              rcases (hPat.mem y).1 hy with ⟨h, _⟩ | ⟨h, _⟩
              · exact hLa y h
              · exact hLb y h
            have c7 := cmerge ⟨A6, out.length + (la.length - p), c6, out ++ la.drop p⟩ w6 ⟨Reads.of_own ho6, fun y hy => (((hall y hy).1.ext he6).more (by omega)), by rw [List.length_append, List.length_drop], by show out.length + (la.length - p) ≤ maxLen; unfold maxLen; omega⟩ (by show out.length + (la.length - p) ≤ 1000; omega) (own_le' ho6) (rise_of hPat.ris) (fun y hy => (hall y hy).2)
            refine L.call rfl en_30 rfl (c7) ?_
            rintro e w7 ⟨t, rfl, hcon, hat, htc, htL, he7⟩
            refine ⟨_, rfl, ?_⟩
            refine L.va rfl (X.extract rfl rfl) ?_
            refine L.va rfl (X.extract rfl rfl) ?_
            refine L.va rfl (X.assign (by conv => lhs; whnf)) ?_
            refine L.va rfl (X.assign (by conv => lhs; whnf)) ?_
            refine L.nil ?_
            refine J.ret ?_
            refine fin2 ?_
            refine ⟨t, ?_, hat, htc, ?_, htL, fun h => absurd hE h, fun _ => ⟨_, hPat, hcon⟩, he6.trans he7⟩
            · rw [hE]
              rfl
            have e1 := congrArg List.length hcon
            have e2 := hat.l
            have e3 : t.l.length = (out ++ la.drop p).length := by simpa [Ces.con] using e1
            rw [List.length_append, List.length_drop] at e3
            omega
end Go.Proofs.Ytpomklkfedpkfaa
namespace Go.Proofs.Ytpomklkfedpkfaa
set_option maxRecDepth 100000
open Go.RowKit H
open Dfp
set_option linter.unusedVariables false
theorem ins_len (l : List (Int × Int)) (p : Int × Int) : (insC l p).length = l.length + 1 := by
  have := congrArg List.length (List.takeWhile_append_dropWhile (p := fun q => decide (q.1 < p.1)) (l := l))
  rw [List.length_append] at this
  unfold insC
  simp only [List.length_append, List.length_cons, List.length_nil]
  omega
theorem rcells43_no {w : World} {N : Nat} (hN : N ≤ w.heap.size) (A : Option Addr) (c : Nat) (la : List Ce) (hra : Reads w N 4 A la.length (la.flatMap Ce.vals)) (B : Option Addr) (d : Nat) (lb : List Ce) (hrb : Reads w N 4 B lb.length (lb.flatMap Ce.vals)) (hm : la.length ≤ 1000000 ∧ lb.length ≤ 1000000)
    (hrs : (rise la && rise lb) = false) :
    Calls Try.prog 9 #[.slice A la.length c, .slice B lb.length d] w fun e w' => e = .returned (.tuple #[.slice none 0 0, .int .i64 1]) ∧ Ext w w' := by
  have c1 := rrising15 A c la hra hN hm.1
  refine enter Try.func9 rfl (by kernel_rfl) ?_
  refine J.seq ?_
  refine J.region ?_
  refine L.va rfl (X.assign (by conv => lhs; whnf)) ?_
  refine L.va rfl (X.assign (by conv => lhs; whnf)) ?_
  refine L.nil ?_
  refine J.seq ?_
  refine J.seq ?_
  refine J.region ?_
  refine L.va rfl (X.move (by conv => lhs; whnf)) ?_
  cases h1 : rise la
  · rw [h1] at c1
    refine L.call rfl en_23 rfl (c1) ?_
    rintro e w1 ⟨rfl, he1⟩
    refine ⟨_, rfl, ?_⟩
    refine L.va rfl (X.not rfl) ?_
    refine L.va rfl (X.move (by conv => lhs; whnf)) ?_
    refine L.caseBT (k := 13) rfl (by rfl) ?_
    refine L.no rfl ?_
    refine L.no rfl ?_
    refine L.no rfl ?_
    refine L.va rfl (X.pickT rfl (by conv => lhs; whnf)) ?_
    refine L.nil ?_
    refine J.iteT rfl ?_
    refine J.seq ?_
    refine J.region ?_
    refine L.va rfl (X.assign (by conv => lhs; whnf)) ?_
    refine L.va rfl (X.assign (by conv => lhs; whnf)) ?_
    refine L.nil ?_
    refine J.ret ?_
    refine thn_ret <| ?_
    refine fin2 ?_
    exact ⟨rfl, he1⟩
  · rw [h1] at c1 hrs
    have h2 : rise lb = false := by simpa using hrs
    refine L.call rfl en_23 rfl (c1) ?_
    rintro e w1 ⟨rfl, he1⟩
    refine ⟨_, rfl, ?_⟩
    have he1 : Ext w w1 := he1
    have c2 := rrising15 (w := w1) B d lb (hrb.low (Below.mono he1 hN) (Nat.le_refl _)) (by have := he1.le; omega) hm.2
    rw [h2] at c2
    refine L.va rfl (X.not rfl) ?_
    refine L.va rfl (X.move (by conv => lhs; whnf)) ?_
    refine L.caseBF (k := 13) rfl (by rfl) ?_
    refine L.va rfl (X.move (by conv => lhs; whnf)) ?_
    refine L.call rfl en_23 rfl (c2) ?_
    rintro e w2 ⟨rfl, he2⟩
    refine ⟨_, rfl, ?_⟩
    refine L.va rfl (X.not rfl) ?_
    refine L.va rfl (X.pickF rfl (by conv => lhs; whnf)) ?_
    refine L.nil ?_
    refine J.iteT rfl ?_
    refine J.seq ?_
    refine J.region ?_
    refine L.va rfl (X.assign (by conv => lhs; whnf)) ?_
    refine L.va rfl (X.assign (by conv => lhs; whnf)) ?_
    refine L.nil ?_
    refine J.ret ?_
    refine thn_ret <| ?_
    refine fin2 ?_
    exact ⟨rfl, he1.trans he2⟩
theorem rcells43 {w : World} {N : Nat} (hN : N ≤ w.heap.size) (sm : Ce → Ce → Bool) (A : Option Addr) (c : Nat) (la : List Ce) (hra : Reads w N 4 A la.length (la.flatMap Ce.vals)) (B : Option Addr) (d : Nat) (lb : List Ce) (hrb : Reads w N 4 B lb.length (lb.flatMap Ce.vals)) (hm : la.length ≤ 1000 ∧ lb.length ≤ 1000)
    (hsm : ∀ x ∈ la, ∀ y ∈ lb, ∀ w', Ext w w' → Calls Try.prog 26 #[x.v, y.v] w' fun e w'' => e = .returned (.bool (sm x y)) ∧ Ext w' w'') (hrs : rise la = true ∧ rise lb = true) :
    Calls Try.prog 9 #[.slice A la.length c, .slice B lb.length d] w fun e w' => ∃ oA oc, e = .returned (.tuple #[.slice oA (mergeD sm la lb).length oc, .int .i64 0]) ∧ w'.ownsRow w.heap.size 39 2 (.slice oA (mergeD sm la lb).length oc) (mergeD sm la lb).length ((mergeD sm la lb).flatMap chV) ∧ Ext w w' := by
  have ra := ris_of hrs.1
  have rb := ris_of hrs.2
  have c1 := rrising15 A c la hra hN (by omega)
  rw [hrs.1] at c1
  refine enter Try.func9 rfl (by kernel_rfl) ?_
  refine J.seq ?_
  refine J.region ?_
  refine L.va rfl (X.assign (by conv => lhs; whnf)) ?_
  refine L.va rfl (X.assign (by conv => lhs; whnf)) ?_
  refine L.nil ?_
  refine J.seq ?_
  refine J.seq ?_
  refine J.region ?_
  refine L.va rfl (X.move (by conv => lhs; whnf)) ?_
  refine L.call rfl en_23 rfl (c1) ?_
  rintro e w1 ⟨rfl, he1⟩
  refine ⟨_, rfl, ?_⟩
  have he1 : Ext w w1 := he1
  have c2 := rrising15 (w := w1) B d lb (hrb.low (Below.mono he1 hN) (Nat.le_refl _)) (by have := he1.le; omega) (by omega)
  rw [hrs.2] at c2
  refine L.va rfl (X.not rfl) ?_
  refine L.va rfl (X.move (by conv => lhs; whnf)) ?_
  refine L.caseBF (k := 13) rfl (by rfl) ?_
  refine L.va rfl (X.move (by conv => lhs; whnf)) ?_
  refine L.call rfl en_23 rfl (c2) ?_
  rintro e w2 ⟨rfl, he2⟩
  refine ⟨_, rfl, ?_⟩
  have he02 : Ext w w2 := he1.trans he2
  refine L.va rfl (X.not rfl) ?_
  refine L.va rfl (X.pickF rfl (by conv => lhs; whnf)) ?_
  refine L.nil ?_
  refine J.iteF rfl ?_
  refine J.skip ?_
  refine J.seq ?_
  refine J.region ?_
  refine L.va rfl (X.assign (by conv => lhs; whnf)) ?_
  refine L.nil ?_
  refine J.cut (X := Option Addr × Nat × Nat × List (Int × Int)) [6, 7, 8, 18, 19, 20, 21, 22, 23, 24, 25, 26, 27, 28, 29, 30, 31, 32, 33, 34, 35, 36, 37, 38, 39, 40, 41, 42, 43, 44, 45, 46, 47, 48, 49, 50, 51, 52, 53, 54, 55, 56, 57, 58] (fun (oA, m, oc, o) => [(6, .slice oA m oc)]) (fun (oA, m, oc, o) w' => m = o.length ∧ m ≤ 1000 ∧ w'.ownsRow w.heap.size 39 2 (.slice oA m oc) m (o.flatMap chV) ∧ PartL sm la lb la.length 0 o ∧ Ext w w') ?_ ?_
  · refine J.seq ?_
    refine J.region ?_
    refine L.va rfl (X.assign (by conv => lhs; whnf)) ?_
    refine L.nil ?_
    refine J.block ?_
    refine J.loop (X := Nat × Option Addr × Nat × Nat × List (Int × Int)) [6, 7, 8, 18, 19, 20, 21, 22, 23, 24, 25, 26, 27, 28, 29, 30, 31, 32, 33, 34, 35, 36, 37, 38, 39, 40, 41, 42, 43, 44, 45, 46, 47, 48, 49, 50, 51, 52, 53, 54, 55, 56, 57, 58] (fun (i, oA, m, oc, o) => [(7, .int .i64 (i : Int)), (6, .slice oA m oc)]) (fun (i, oA, m, oc, o) w' => i ≤ la.length ∧ m = o.length ∧ m ≤ i ∧ w'.ownsRow w.heap.size 39 2 (.slice oA m oc) m (o.flatMap chV) ∧ PartL sm la lb i 0 o ∧ Ext w w') (fun (i, _) => la.length - i) ((0, none, 0, 0, [])) (At2 (by first | rfl | exact at_int rfl (by omega) | exact at_slice rfl (by omega) | exact at_int rfl (by simp)) (by first | rfl | exact at_int rfl (by omega) | exact at_slice rfl (by omega) | exact at_int rfl (by simp))) ?_ ?_
    · exact ⟨Nat.zero_le _, rfl, Nat.le_refl _, own_nil _ _ _ _, PartL.start _ _ _, he02⟩
    · rintro ⟨i, oA, m, oc, o⟩ g w3 ⟨hi, rfl, hmi, ho, hP, he⟩
      have z := he.le
      refine J.seq ?_
      refine J.seq ?_
      refine J.region ?_
      refine L.va rfl (X.move (by conv => lhs; whnf)) ?_
      refine L.va rfl (X.move (by conv => lhs; whnf)) ?_
      refine L.va rfl (X.len rfl Try.underlying22) ?_
      refine L.va rfl (X.lss rfl rfl) ?_
      refine L.nil ?_
      refine J.dec rfl (fun hlt => ?_) (fun hlt => ?_)
      · have hil : i < la.length := by omega
        have hra3 := hra.low (Below.mono he hN) (Nat.le_refl _)
        have hrb3 := hrb.low (Below.mono he hN) (Nat.le_refl _)
        have hA := hra3.some_ (by omega)
        have gi := gtX hil
        have hxm : la.getD i ce0 ∈ la := memD hil
        refine J.skip ?_
        refine J.seq ?_
        refine J.block ?_
        refine J.seq ?_
        refine J.region ?_
        refine L.va rfl (X.move (by conv => lhs; whnf)) ?_
        refine L.va rfl (X.move (by conv => lhs; whnf)) ?_
        refine L.va rfl (X.move (by conv => lhs; whnf)) ?_
        refine L.va rfl ((by first | exact X.indexAddrn rfl rfl Try.underlying22 sz_61 (by first | exact Option.some_ne_none _ | exact hA) (by omega) | exact X.indexAddr rfl rfl Try.underlying22 sz_61 (by first | exact Option.some_ne_none _ | exact hA) (by omega))) ?_
        refine L.va rfl (X.fieldP rfl Try.underlying61 rfl sz_36 (by decide) (by first | exact Option.some_ne_none _ | exact hA)) ?_
        refine L.va rfl (X.load rfl sc_36 (by first | exact hA | exact Ld.flat2 ce_len hra3 gi (r := 0) rfl)) ?_
        refine L.call rfl en_24 rfl (rhas43 B d lb ((la.getD i ce0).key) hrb3 (by omega)) ?_
        rintro e _ ⟨rfl, r, rfl, hr⟩
        refine ⟨_, rfl, ?_⟩
        refine L.va rfl (X.assign (by conv => lhs; whnf)) ?_
        refine L.nil ?_
        refine J.seq ?_
        refine J.region ?_
        refine L.va rfl (X.move (by conv => lhs; whnf)) ?_
        refine L.va rfl (X.lss rfl rfl) ?_
        refine L.nil ?_
        rcases hr with ⟨rfl, hno⟩ | ⟨j, rfl, hj, hjk⟩
        · refine J.decT rfl (by omega) ?_
          have hb := own_bd ho
          refine J.region ?_
          refine L.va rfl (X.move (by conv => lhs; whnf)) ?_
          refine L.va rfl (X.move (by conv => lhs; whnf)) ?_
          refine L.va rfl (X.move (by conv => lhs; whnf)) ?_
          refine L.va rfl ((by first | exact X.indexAddrn rfl rfl Try.underlying22 sz_61 (by first | exact Option.some_ne_none _ | exact hA) (by omega) | exact X.indexAddr rfl rfl Try.underlying22 sz_61 (by first | exact Option.some_ne_none _ | exact hA) (by omega))) ?_
          refine L.va rfl (X.fieldP rfl Try.underlying61 rfl sz_36 (by decide) (by first | exact Option.some_ne_none _ | exact hA)) ?_
          refine L.va rfl (X.load rfl sc_36 (by first | exact hA | exact Ld.flat2 ce_len hra3 gi (r := 0) rfl)) ?_
          refine L.va rfl (X.build (l := [_, _]) (Evs.cons (by conv => lhs; whnf) (Evs.cons (by conv => lhs; whnf) Evs.nil)) (bld_run Try.underlying39 (bp_39 Try.underlying39) zr_39 rfl)) ?_
          refine L.call rfl en_25 rfl (rput43 oA o.length oc o ((la.getD i ce0).key, 1) (Reads.of_own ho) rfl (by omega) hb.1 hb.2) ?_
          rintro e w4 ⟨A4, c4, rfl, ho4, he4⟩
          refine ⟨_, rfl, ?_⟩
          refine L.va rfl (X.assign (by conv => lhs; whnf)) ?_
          refine L.nil ?_
          refine J.region ?_
          refine L.va rfl (X.move (by conv => lhs; whnf)) ?_
          refine L.va rfl (X.add rfl rfl (by omega)) ?_
          refine L.va rfl (X.assign (by conv => lhs; whnf)) ?_
          refine L.nil ?_
          refine ⟨(i + 1, A4, o.length + 1, c4, insC o ((la.getD i ce0).key, 1)), At2 (by first | rfl | exact at_int rfl (by omega) | exact at_slice rfl (by omega) | exact at_int rfl (by simp)) (by first | rfl | exact at_int rfl (by omega) | exact at_slice rfl (by omega) | exact at_int rfl (by simp)), (by (iterate 26 refine Agr.lk rfl ?_); exact Agr.lk rfl (Agr.hav rfl Agr.rfl')), ?_⟩
          refine ⟨⟨by omega, (ins_len _ _).symm, by omega, own_lowB ho4 z, hP.gone ra hil hno, he.trans he4⟩, by show la.length - (i + 1) < la.length - i; omega⟩
        · have hB := hrb3.some_ (by omega)
          have gj := gtX hj
          have hym : lb.getD j ce0 ∈ lb := memD hj
          have hrow1 := fun (w' : World) (hw : Ext w3 w') => hra3.low (Below.mono hw (by omega)) (Nat.le_refl _)
          have hrow2 := fun (w' : World) (hw : Ext w3 w') => hrb3.low (Below.mono hw (by omega)) (Nat.le_refl _)
          refine J.decF rfl (by omega) ?_
          refine J.seq ?_
          refine J.quiet mixed (by kernel_rfl) ?_
          refine Qt.va rfl (fun w' hw => X.move (by conv => lhs; whnf)) ?_
          refine Qt.va rfl (fun w' hw => X.move (by conv => lhs; whnf)) ?_
          refine Qt.va rfl (fun w' hw => (by first | exact X.indexAddrn rfl rfl Try.underlying22 sz_61 (by first | exact Option.some_ne_none _ | exact hA | exact hB) (by omega) | exact X.indexAddr rfl rfl Try.underlying22 sz_61 (by first | exact Option.some_ne_none _ | exact hA | exact hB) (by omega))) ?_
          refine Qt.va rfl (fun w' hw => X.loadRow (cs := (la.getD i ce0).vals) rfl (hrow1 w' hw) (fun r u hu => flat_row ce_len gi r u hu) (Nat.zero_lt_succ _) Try.underlying61 rfl (by kernel_rfl)) ?_
          refine Qt.va rfl (fun w' hw => X.move (by conv => lhs; whnf)) ?_
          refine Qt.va rfl (fun w' hw => X.move (by conv => lhs; whnf)) ?_
          refine Qt.va rfl (fun w' hw => (by first | exact X.indexAddrn rfl rfl Try.underlying22 sz_61 (by first | exact Option.some_ne_none _ | exact hA | exact hB) (by omega) | exact X.indexAddr rfl rfl Try.underlying22 sz_61 (by first | exact Option.some_ne_none _ | exact hA | exact hB) (by omega))) ?_
          refine Qt.va rfl (fun w' hw => X.loadRow (cs := (lb.getD j ce0).vals) rfl (hrow2 w' hw) (fun r u hu => flat_row ce_len gj r u hu) (Nat.zero_lt_succ _) Try.underlying61 rfl (by kernel_rfl)) ?_
          refine Qt.call rfl en_26 rfl (fun w' hw => calls_ext hw (hsm _ hxm _ hym w' (he.trans hw))) ?_
          refine Qt.va rfl (fun w' hw => X.not rfl) ?_
          refine Qt.nil (fun w4 hq => ?_)
          have he4 := he.trans hq
          have z4 := he4.le
          cases hs : sm (la.getD i ce0) (lb.getD j ce0)
          · refine J.iteT rfl ?_
            have ho4 := ho.ext hq
            have hb := own_bd ho4
            have hA4 := hA
            refine J.region ?_
            refine L.va rfl (X.move (by conv => lhs; whnf)) ?_
            refine L.va rfl (X.move (by conv => lhs; whnf)) ?_
            refine L.va rfl (X.move (by conv => lhs; whnf)) ?_
            refine L.va rfl ((by first | exact X.indexAddrn rfl rfl Try.underlying22 sz_61 (by first | exact Option.some_ne_none _ | exact hA) (by omega) | exact X.indexAddr rfl rfl Try.underlying22 sz_61 (by first | exact Option.some_ne_none _ | exact hA) (by omega))) ?_
            refine L.va rfl (X.fieldP rfl Try.underlying61 rfl sz_36 (by decide) (by first | exact Option.some_ne_none _ | exact hA)) ?_
            refine L.va rfl (X.load rfl sc_36 (by first | exact hA | exact Ld.flat2 ce_len (hrow1 w4 hq) gi (r := 0) rfl)) ?_
            refine L.va rfl (X.build (l := [_, _]) (Evs.cons (by conv => lhs; whnf) (Evs.cons (by conv => lhs; whnf) Evs.nil)) (bld_run Try.underlying39 (bp_39 Try.underlying39) zr_39 rfl)) ?_
            refine L.call rfl en_25 rfl (rput43 oA o.length oc o ((la.getD i ce0).key, 3) (Reads.of_own ho4) rfl (by omega) hb.1 hb.2) ?_
            rintro e w5 ⟨A5, c5, rfl, ho5, he5⟩
            refine ⟨_, rfl, ?_⟩
            refine L.va rfl (X.assign (by conv => lhs; whnf)) ?_
            refine L.nil ?_
            refine J.region ?_
            refine L.va rfl (X.move (by conv => lhs; whnf)) ?_
            refine L.va rfl (X.add rfl rfl (by omega)) ?_
            refine L.va rfl (X.assign (by conv => lhs; whnf)) ?_
            refine L.nil ?_
            refine ⟨(i + 1, A5, o.length + 1, c5, insC o ((la.getD i ce0).key, 3)), At2 (by first | rfl | exact at_int rfl (by omega) | exact at_slice rfl (by omega) | exact at_int rfl (by simp)) (by first | rfl | exact at_int rfl (by omega) | exact at_slice rfl (by omega) | exact at_int rfl (by simp)), (by (iterate 36 refine Agr.lk rfl ?_); exact Agr.lk rfl (Agr.hav rfl Agr.rfl')), ?_⟩
            exact ⟨⟨by omega, (ins_len _ _).symm, by omega, own_lowB ho5 z4, hP.other ra rb hil hym hjk hs, he4.trans he5⟩, by show la.length - (i + 1) < la.length - i; omega⟩
          · refine J.iteF rfl ?_
            refine J.skip ?_
            refine J.region ?_
            refine L.va rfl (X.move (by conv => lhs; whnf)) ?_
            refine L.va rfl (X.add rfl rfl (by omega)) ?_
            refine L.va rfl (X.assign (by conv => lhs; whnf)) ?_
            refine L.nil ?_
            refine ⟨(i + 1, oA, o.length, oc, o), At2 (by first | rfl | exact at_int rfl (by omega) | exact at_slice rfl (by omega) | exact at_int rfl (by simp)) (by first | rfl | exact at_int rfl (by omega) | exact at_slice rfl (by omega) | exact at_int rfl (by simp)), (by (iterate 27 refine Agr.lk rfl ?_); exact Agr.lk rfl (Agr.hav rfl Agr.rfl')), ?_⟩
            exact ⟨⟨by omega, rfl, by omega, ho.ext hq, hP.like ra rb hil hym hjk hs, he4⟩, by show la.length - (i + 1) < la.length - i; omega⟩
      · refine J.exit ?_
        refine ⟨(oA, o.length, oc, o), At1 (by first | rfl | exact at_int rfl (by omega) | exact at_slice rfl (by omega) | exact at_int rfl (by simp)), (by (iterate 4 refine Agr.lk rfl ?_); refine Agr.lk rfl ?_; refine Agr.hav rfl ?_; (iterate 1 refine Agr.lk rfl ?_); exact Agr.rfl'), ?_⟩
        obtain rfl : i = la.length := by omega
        exact ⟨rfl, by omega, ho, hP, he⟩
  · rintro ⟨oA, m, oc, o⟩ g w3 ⟨rfl, hm3, ho, hP, he⟩
    refine J.seq ?_
    refine J.seq ?_
    refine J.region ?_
    refine L.va rfl (X.assign (by conv => lhs; whnf)) ?_
    refine L.nil ?_
    refine J.block ?_
    refine J.loop (X := Nat × Option Addr × Nat × Nat × List (Int × Int)) [6, 9, 59, 60, 61, 62, 63, 64, 65, 66, 67, 68, 69, 70, 71, 72, 73, 74, 75, 76, 77, 78, 79, 80] (fun (j, oA, m, oc, o) => [(9, .int .i64 (j : Int)), (6, .slice oA m oc)]) (fun (j, oA, m, oc, o) w' => j ≤ lb.length ∧ m = o.length ∧ m ≤ 1000 + j ∧ w'.ownsRow w.heap.size 39 2 (.slice oA m oc) m (o.flatMap chV) ∧ PartL sm la lb la.length j o ∧ Ext w w') (fun (j, _) => lb.length - j) ((0, oA, o.length, oc, o)) (At2 (by first | rfl | exact at_int rfl (by omega) | exact at_slice rfl (by omega) | exact at_int rfl (by simp)) (by first | rfl | exact at_int rfl (by omega) | exact at_slice rfl (by omega) | exact at_int rfl (by simp))) ?_ ?_
    · exact ⟨Nat.zero_le _, rfl, by omega, ho, hP, he⟩
    · rintro ⟨j, oA, m, oc, o⟩ g w4 ⟨hj, rfl, hmj, ho, hP, he⟩
      have z := he.le
      refine J.seq ?_
      refine J.seq ?_
      refine J.region ?_
      refine L.va rfl (X.move (by conv => lhs; whnf)) ?_
      refine L.va rfl (X.move (by conv => lhs; whnf)) ?_
      refine L.va rfl (X.len rfl Try.underlying22) ?_
      refine L.va rfl (X.lss rfl rfl) ?_
      refine L.nil ?_
      refine J.dec rfl (fun hlt => ?_) (fun hlt => ?_)
      · have hjl : j < lb.length := by omega
        have hra3 := hra.low (Below.mono he hN) (Nat.le_refl _)
        have hrb3 := hrb.low (Below.mono he hN) (Nat.le_refl _)
        have hB := hrb3.some_ (by omega)
        have gj := gtX hjl
        refine J.skip ?_
        refine J.seq ?_
        refine J.block ?_
        refine J.seq ?_
        refine J.region ?_
        refine L.va rfl (X.move (by conv => lhs; whnf)) ?_
        refine L.va rfl (X.move (by conv => lhs; whnf)) ?_
        refine L.va rfl (X.move (by conv => lhs; whnf)) ?_
        refine L.va rfl ((by first | exact X.indexAddrn rfl rfl Try.underlying22 sz_61 (by first | exact Option.some_ne_none _ | exact hB) (by omega) | exact X.indexAddr rfl rfl Try.underlying22 sz_61 (by first | exact Option.some_ne_none _ | exact hB) (by omega))) ?_
        refine L.va rfl (X.fieldP rfl Try.underlying61 rfl sz_36 (by decide) (by first | exact Option.some_ne_none _ | exact hB)) ?_
        refine L.va rfl (X.load rfl sc_36 (by first | exact hB | exact Ld.flat2 ce_len hrb3 gj (r := 0) rfl)) ?_
        refine L.call rfl en_24 rfl (rhas43 A c la ((lb.getD j ce0).key) hra3 (by omega)) ?_
        rintro e _ ⟨rfl, r, rfl, hr⟩
        refine ⟨_, rfl, ?_⟩
        refine L.va rfl (X.lss rfl rfl) ?_
        refine L.nil ?_
        rcases hr with ⟨rfl, hno⟩ | ⟨i, rfl, hi, hik⟩
        · refine J.decT rfl (by omega) ?_
          have hb := own_bd ho
          refine J.region ?_
          refine L.va rfl (X.move (by conv => lhs; whnf)) ?_
          refine L.va rfl (X.move (by conv => lhs; whnf)) ?_
          refine L.va rfl (X.move (by conv => lhs; whnf)) ?_
          refine L.va rfl ((by first | exact X.indexAddrn rfl rfl Try.underlying22 sz_61 (by first | exact Option.some_ne_none _ | exact hB) (by omega) | exact X.indexAddr rfl rfl Try.underlying22 sz_61 (by first | exact Option.some_ne_none _ | exact hB) (by omega))) ?_
          refine L.va rfl (X.fieldP rfl Try.underlying61 rfl sz_36 (by decide) (by first | exact Option.some_ne_none _ | exact hB)) ?_
          refine L.va rfl (X.load rfl sc_36 (by first | exact hB | exact Ld.flat2 ce_len hrb3 gj (r := 0) rfl)) ?_
          refine L.va rfl (X.build (l := [_, _]) (Evs.cons (by conv => lhs; whnf) (Evs.cons (by conv => lhs; whnf) Evs.nil)) (bld_run Try.underlying39 (bp_39 Try.underlying39) zr_39 rfl)) ?_
          refine L.call rfl en_25 rfl (rput43 oA o.length oc o ((lb.getD j ce0).key, 2) (Reads.of_own ho) rfl (by omega) hb.1 hb.2) ?_
          rintro e w5 ⟨A5, c5, rfl, ho5, he5⟩
          refine ⟨_, rfl, ?_⟩
          refine L.va rfl (X.assign (by conv => lhs; whnf)) ?_
          refine L.nil ?_
          refine J.region ?_
          refine L.va rfl (X.move (by conv => lhs; whnf)) ?_
          refine L.va rfl (X.add rfl rfl (by omega)) ?_
          refine L.va rfl (X.assign (by conv => lhs; whnf)) ?_
          refine L.nil ?_
          refine ⟨(j + 1, A5, o.length + 1, c5, insC o ((lb.getD j ce0).key, 2)), At2 (by first | rfl | exact at_int rfl (by omega) | exact at_slice rfl (by omega) | exact at_int rfl (by simp)) (by first | rfl | exact at_int rfl (by omega) | exact at_slice rfl (by omega) | exact at_int rfl (by simp)), (by (iterate 24 refine Agr.lk rfl ?_); exact Agr.lk rfl (Agr.hav rfl Agr.rfl')), ?_⟩
          exact ⟨⟨by omega, (ins_len _ _).symm, by omega, own_lowB ho5 z, hP.fresh rb hjl hno, he.trans he5⟩, by show lb.length - (j + 1) < lb.length - j; omega⟩
        · have hxm : la.getD i ce0 ∈ la := memD hi
          refine J.decF rfl (by omega) ?_
          refine J.skip ?_
          refine J.region ?_
          refine L.va rfl (X.move (by conv => lhs; whnf)) ?_
          refine L.va rfl (X.add rfl rfl (by omega)) ?_
          refine L.va rfl (X.assign (by conv => lhs; whnf)) ?_
          refine L.nil ?_
          refine ⟨(j + 1, oA, o.length, oc, o), At2 (by first | rfl | exact at_int rfl (by omega) | exact at_slice rfl (by omega) | exact at_int rfl (by simp)) (by first | rfl | exact at_int rfl (by omega) | exact at_slice rfl (by omega) | exact at_int rfl (by simp)), (by (iterate 15 refine Agr.lk rfl ?_); exact Agr.lk rfl (Agr.hav rfl Agr.rfl')), ?_⟩
          exact ⟨⟨by omega, rfl, by omega, ho, hP.held hjl hxm hik, he⟩, by show lb.length - (j + 1) < lb.length - j; omega⟩
      · obtain rfl : j = lb.length := by omega
        have e := hP.all ra rb
        refine J.exit ?_
        refine J.seq ?_
        refine J.region ?_
        refine L.va rfl (X.move (by conv => lhs; whnf)) ?_
        refine L.va rfl (X.assign (by conv => lhs; whnf)) ?_
        refine L.va rfl (X.assign (by conv => lhs; whnf)) ?_
        refine L.nil ?_
        refine J.ret ?_
        refine fin2 ?_
        rw [← e]
        exact ⟨oA, oc, rfl, ho, he⟩
end Go.Proofs.Ytpomklkfedpkfaa
namespace Go.Proofs.Ytpomklkfedpkfaa
set_option maxRecDepth 100000
open Go.RowKit H
set_option linter.unusedVariables false
theorem lsame43 (A1 : Option Addr) (c1 : Nat) (A2 : Option Addr) (c2 : Nat) (l : List (Int × Int)) (w : World) {N : Nat} (h1 : Reads w N 2 A1 l.length (l.flatMap chV)) (h2 : Reads w N 2 A2 l.length (l.flatMap chV)) (hn : l.length ≤ 1000000) :
    Calls Try.prog 10 #[.slice A1 l.length c1, .slice A2 l.length c2] w fun e w' => e = .returned (.bool true) ∧ Ext w w' := by
  refine enter Try.func10 rfl (by kernel_rfl) ?_
  refine J.seq ?_
  refine J.region ?_
  refine L.va rfl (X.assign (by conv => lhs; whnf)) ?_
  refine L.nil ?_
  refine J.seq ?_
  refine J.seq ?_
  refine J.region ?_
  refine L.va rfl (X.move (by conv => lhs; whnf)) ?_
  refine L.va rfl (X.len rfl Try.underlying25) ?_
  refine L.va rfl (X.move (by conv => lhs; whnf)) ?_
  refine L.va rfl (X.len rfl Try.underlying29) ?_
  refine L.va rfl (X.neq rfl rfl) ?_
  refine L.nil ?_
  refine J.ndecF rfl (by omega) ?_
  refine J.skip ?_
  refine J.seq ?_
  refine J.seq ?_
  refine J.region ?_
  refine L.va rfl (X.assign (by conv => lhs; whnf)) ?_
  refine L.nil ?_
  refine J.block ?_
  refine J.loop (X := Nat) [4, 5, 11, 12, 13, 14, 15, 16, 17, 18, 19, 20, 21, 22, 23, 24, 25, 26, 27, 28, 29, 30, 31, 32, 33, 34, 35, 36, 37, 38, 39, 40] (fun i => [(5, .int .i64 (i : Int))]) (fun i w' => i ≤ l.length ∧ Ext w w') (fun i => l.length - i) (0) (At1 (by first | rfl | exact at_int rfl (by omega) | exact at_slice rfl (by omega) | exact at_int rfl (by simp))) ?_ ?_
  · exact ⟨Nat.zero_le _, Ext.refl _⟩
  · rintro i g w2 ⟨hi, he⟩
    have k1 := h1.ext he
    have k2 := h2.ext he
    refine J.seq ?_
    refine J.seq ?_
    refine J.region ?_
    refine L.va rfl (X.move (by conv => lhs; whnf)) ?_
    refine L.va rfl (X.move (by conv => lhs; whnf)) ?_
    refine L.va rfl (X.len rfl Try.underlying25) ?_
    refine L.va rfl (X.lss rfl rfl) ?_
    refine L.nil ?_
    refine J.dec rfl (fun hlt => ?_) (fun hlt => ?_)
    · have hil : i < l.length := by omega
      have hA := k1.some_ (by omega)
      have hB := k2.some_ (by omega)
      have gi := gtC hil
      refine J.skip ?_
      refine J.seq ?_
      refine J.block ?_
      refine J.seq ?_
      refine J.draw (ℓ := 1000000) (S := Ext w2) mixed (fun w3 hS hS_h => ?_)
      refine D.va 0 rfl (by kernel_rfl) (fun _ _ _ h => h) rfl (fun w' hw => X.move (by conv => lhs; whnf)) hS ?_
      refine D.va 1 rfl (by kernel_rfl) (fun _ _ _ h => h) rfl (fun w' hw => X.move (by conv => lhs; whnf)) hS ?_
      refine D.va 2 rfl (by kernel_rfl) (fun _ _ _ h => h) rfl (fun w' hw => (by first | exact X.indexAddrn rfl rfl Try.underlying25 sz_38 (by first | exact Option.some_ne_none _ | exact hA | exact hB) (by omega) | exact X.indexAddr rfl rfl Try.underlying25 sz_38 (by first | exact Option.some_ne_none _ | exact hA | exact hB) (by omega))) hS ?_
      refine D.va 3 rfl (by kernel_rfl) (fun _ _ _ h => h) rfl (fun w' hw => X.fieldP rfl Try.underlying38 rfl sz_36 (by decide) (by first | exact Option.some_ne_none _ | exact hA | exact hB)) hS ?_
      refine D.va 4 rfl (by kernel_rfl) (fun _ _ _ h => h) rfl (fun w' hw => X.load rfl sc_36 (Ld.flat2 ch_len (k1.ext hw) gi (r := 0) rfl)) hS ?_
      refine D.va 5 rfl (by kernel_rfl) (fun _ _ _ h => h) rfl (fun w' hw => X.move (by conv => lhs; whnf)) hS ?_
      refine D.va 6 rfl (by kernel_rfl) (fun _ _ _ h => h) rfl (fun w' hw => X.move (by conv => lhs; whnf)) hS ?_
      refine D.va 7 rfl (by kernel_rfl) (fun _ _ _ h => h) rfl (fun w' hw => (by first | exact X.indexAddrn rfl rfl Try.underlying29 sz_39 (by first | exact Option.some_ne_none _ | exact hA | exact hB) (by omega) | exact X.indexAddr rfl rfl Try.underlying29 sz_39 (by first | exact Option.some_ne_none _ | exact hA | exact hB) (by omega))) hS ?_
      refine D.va 8 rfl (by kernel_rfl) (fun _ _ _ h => h) rfl (fun w' hw => X.fieldP rfl Try.underlying39 rfl sz_36 (by decide) (by first | exact Option.some_ne_none _ | exact hA | exact hB)) hS ?_
      refine D.va 9 rfl (by kernel_rfl) (fun _ _ _ h => h) rfl (fun w' hw => X.load rfl sc_36 (Ld.flat2 ch_len (k2.ext hw) gi (r := 0) rfl)) hS ?_
      refine D.va 10 rfl (by kernel_rfl) (fun _ _ _ h => h) rfl (fun w' hw => X.neq rfl rfl) hS ?_
      refine D.va 11 rfl (by kernel_rfl) (fun _ _ _ h => h) rfl (fun w' hw => X.move (by conv => lhs; whnf)) hS ?_
      refine D.caseNdecF (k := 28) rfl (by simp) ?_
      refine D.va 12 rfl (by kernel_rfl) (fun _ _ _ h => h) rfl (fun w' hw => X.move (by conv => lhs; whnf)) hS ?_
      refine D.va 13 rfl (by kernel_rfl) (fun _ _ _ h => h) rfl (fun w' hw => X.move (by conv => lhs; whnf)) hS ?_
      refine D.va 14 rfl (by kernel_rfl) (fun _ _ _ h => h) rfl (fun w' hw => (by first | exact X.indexAddrn rfl rfl Try.underlying25 sz_38 (by first | exact Option.some_ne_none _ | exact hA | exact hB) (by omega) | exact X.indexAddr rfl rfl Try.underlying25 sz_38 (by first | exact Option.some_ne_none _ | exact hA | exact hB) (by omega))) hS ?_
      refine D.va 15 rfl (by kernel_rfl) (fun _ _ _ h => h) rfl (fun w' hw => X.fieldP rfl Try.underlying38 rfl sz_3 (by decide) (by first | exact Option.some_ne_none _ | exact hA | exact hB)) hS ?_
      refine D.va 16 rfl (by kernel_rfl) (fun _ _ _ h => h) rfl (fun w' hw => X.load rfl sc_3 (Ld.flat2 ch_len (k1.ext hw) gi (r := 1) rfl)) hS ?_
      refine D.va 17 rfl (by kernel_rfl) (fun _ _ _ h => h) rfl (fun w' hw => X.move (by conv => lhs; whnf)) hS ?_
      refine D.va 18 rfl (by kernel_rfl) (fun _ _ _ h => h) rfl (fun w' hw => X.move (by conv => lhs; whnf)) hS ?_
      refine D.va 19 rfl (by kernel_rfl) (fun _ _ _ h => h) rfl (fun w' hw => (by first | exact X.indexAddrn rfl rfl Try.underlying29 sz_39 (by first | exact Option.some_ne_none _ | exact hA | exact hB) (by omega) | exact X.indexAddr rfl rfl Try.underlying29 sz_39 (by first | exact Option.some_ne_none _ | exact hA | exact hB) (by omega))) hS ?_
      refine D.va 20 rfl (by kernel_rfl) (fun _ _ _ h => h) rfl (fun w' hw => X.fieldP rfl Try.underlying39 rfl sz_3 (by decide) (by first | exact Option.some_ne_none _ | exact hA | exact hB)) hS ?_
      refine D.va 21 rfl (by kernel_rfl) (fun _ _ _ h => h) rfl (fun w' hw => X.load rfl sc_3 (Ld.flat2 ch_len (k2.ext hw) gi (r := 1) rfl)) hS ?_
      refine D.va 22 rfl (by kernel_rfl) (fun _ _ _ h => h) rfl (fun w' hw => X.neq rfl rfl) hS ?_
      refine D.va 23 rfl (by kernel_rfl) (fun _ _ _ h => h) rfl (fun w' hw => X.pickF rfl (by conv => lhs; whnf)) hS ?_
      refine D.done (by kernel_rfl) ?_
      refine J.ndecF rfl (by simp) ?_
      refine J.skip ?_
      refine J.region ?_
      refine L.va rfl (X.move (by conv => lhs; whnf)) ?_
      refine L.va rfl (X.add rfl rfl (by omega)) ?_
      refine L.va rfl (X.assign (by conv => lhs; whnf)) ?_
      refine L.nil ?_
      refine ⟨i + 1, At1 (by first | rfl | exact at_int rfl (by omega) | exact at_slice rfl (by omega) | exact at_int rfl (by simp)), (by (iterate 32 refine Agr.lk rfl ?_); exact Agr.lk rfl (Agr.hav rfl Agr.rfl')), ?_⟩
      exact ⟨⟨by omega, he.trans hS⟩, by omega⟩
    · refine J.exit ?_
      refine J.seq ?_
      refine J.region ?_
      refine L.va rfl (X.assign (by conv => lhs; whnf)) ?_
      refine L.nil ?_
      refine J.ret ?_
      refine fin1 ?_
      exact ⟨rfl, he⟩
end Go.Proofs.Ytpomklkfedpkfaa
namespace Go.Proofs.Ytpomklkfedpkfaa
set_option maxRecDepth 100000
open Go.RowKit H
set_option linter.unusedVariables false
theorem con_atC {l : List Ce} (i : Nat) : (l.map Ce.con).getD i con0 = (l.getD i ce0).con := by
  rw [List.getD, List.getD, List.getElem?_map]
  cases l[i]? <;> rfl
theorem rsame15 {a b : Ces} {w : World} {N : Nat} (ha : a.At N w) (hb : b.At N w) (hN : N ≤ w.heap.size) (hm : a.n ≤ 1000000) (hs : ∀ x ∈ a.l, x.ni ≤ 1000000 ∧ x.nr ≤ 1000000) : Calls Try.prog 12 #[a.val, b.val] w fun e w' => e = .returned (.bool (sameL a.con b.con)) ∧ Ext w w' := by
  have la := ha.l
  have lb := hb.l
  refine enter Try.func12 rfl (by kernel_rfl) ?_
  refine J.seq ?_
  refine J.region ?_
  refine L.va rfl (X.assign (by conv => lhs; whnf)) ?_
  refine L.nil ?_
  refine J.seq ?_
  refine J.seq ?_
  refine J.region ?_
  refine L.va rfl (X.move (by conv => lhs; whnf)) ?_
  refine L.va rfl (X.len rfl Try.underlying22) ?_
  refine L.va rfl (X.move (by conv => lhs; whnf)) ?_
  refine L.va rfl (X.len rfl Try.underlying22) ?_
  refine L.va rfl (X.neq rfl rfl) ?_
  refine L.nil ?_
  refine J.ndec rfl (fun h1 => ?_) (fun h1 => ?_)
  · have e : sameL a.con b.con = false := eqL_len (by show (a.l.map Ce.con).length ≠ (b.l.map Ce.con).length; rw [List.length_map, List.length_map]; omega)
    rw [e]
    refine J.seq ?_
    refine J.region ?_
    refine L.va rfl (X.assign (by conv => lhs; whnf)) ?_
    refine L.nil ?_
    refine J.ret ?_
    refine thn_ret <| ?_
    refine fin1 ?_
    exact ⟨rfl, Ext.refl _⟩
  · have hn : a.n = b.n := by omega
    refine J.skip ?_
    refine J.seq ?_
    refine J.seq ?_
    refine J.region ?_
    refine L.va rfl (X.assign (by conv => lhs; whnf)) ?_
    refine L.nil ?_
    refine J.block ?_
    refine J.loop (X := Nat) [4, 5, 11, 12, 13, 14, 15, 16, 17, 18, 19, 20, 21, 22, 23, 24, 25, 26] (fun i => [(5, .int .i64 (i : Int))]) (fun i w' => i ≤ a.n ∧ (∀ j, j < i → sameC (a.l.getD j ce0).con (b.l.getD j ce0).con = true) ∧ Ext w w') (fun i => a.n - i) (0) (At1 (by first | rfl | exact at_int rfl (by omega) | exact at_slice rfl (by omega) | exact at_int rfl (by simp))) ?_ ?_
    · exact ⟨Nat.zero_le _, fun j hj => absurd hj (by omega), Ext.refl _⟩
    · rintro i g w2 ⟨hi, hP, he⟩
      have z := he.le
      have hra := ha.r.ext he
      have hrb := hb.r.ext he
      refine J.seq ?_
      refine J.seq ?_
      refine J.region ?_
      refine L.va rfl (X.move (by conv => lhs; whnf)) ?_
      refine L.va rfl (X.move (by conv => lhs; whnf)) ?_
      refine L.va rfl (X.len rfl Try.underlying22) ?_
      refine L.va rfl (X.lss rfl rfl) ?_
      refine L.nil ?_
      refine J.dec rfl (fun hlt => ?_) (fun hlt => ?_)
      · have hin : i < a.n := by omega
        have hA := hra.some_ (by omega)
        have hB := hrb.some_ (by omega)
        have gx := gtX (l := a.l) (i := i) (by omega)
        have gy := gtX (l := b.l) (i := i) (by omega)
        have hX := (ha.one (i := i) hin).ext he
        have hY := (hb.one (i := i) (by omega)).ext he
        have hmx := hs _ (memD (d := ce0) (show i < a.l.length by omega))
        generalize ex : a.l.getD i ce0 = p at gx hX hmx
        generalize ey : b.l.getD i ce0 = q at gy hY
        have cS : ∀ w', Ext w2 w' → Calls Try.prog 26 #[p.val, q.val] w' fun e w'' => e = .returned (.bool (sameC p.con q.con)) ∧ Ext w' w'' := fun w' hw => rsame14 (hX.ext hw) (hY.ext hw) (by have := hw.le; omega) hmx
        refine J.skip ?_
        refine J.seq ?_
        refine J.block ?_
        refine J.seq ?_
        refine J.quiet mixed (by kernel_rfl) ?_
        refine Qt.va rfl (fun w' hw => X.move (by conv => lhs; whnf)) ?_
        refine Qt.va rfl (fun w' hw => X.move (by conv => lhs; whnf)) ?_
        refine Qt.va rfl (fun w' hw => (by first | exact X.indexAddrn rfl rfl Try.underlying22 sz_61 (by first | exact Option.some_ne_none _ | exact hA | exact hB) (by omega) | exact X.indexAddr rfl rfl Try.underlying22 sz_61 (by first | exact Option.some_ne_none _ | exact hA | exact hB) (by omega))) ?_
        refine Qt.va rfl (fun w' hw => X.loadRow (cs := p.vs) rfl (hra.ext hw) (fun r u hu => flat_row ce_len gx r u hu) (Nat.zero_lt_succ _) Try.underlying61 rfl (by kernel_rfl)) ?_
        refine Qt.va rfl (fun w' hw => X.move (by conv => lhs; whnf)) ?_
        refine Qt.va rfl (fun w' hw => X.move (by conv => lhs; whnf)) ?_
        refine Qt.va rfl (fun w' hw => (by first | exact X.indexAddrn rfl rfl Try.underlying22 sz_61 (by first | exact Option.some_ne_none _ | exact hA | exact hB) (by omega) | exact X.indexAddr rfl rfl Try.underlying22 sz_61 (by first | exact Option.some_ne_none _ | exact hA | exact hB) (by omega))) ?_
        refine Qt.va rfl (fun w' hw => X.loadRow (cs := q.vs) rfl (hrb.ext hw) (fun r u hu => flat_row ce_len gy r u hu) (Nat.zero_lt_succ _) Try.underlying61 rfl (by kernel_rfl)) ?_
        refine Qt.call rfl en_26 rfl (fun w' hw => calls_ext hw (cS w' hw)) ?_
        refine Qt.va rfl (fun w' hw => X.not rfl) ?_
        refine Qt.nil (fun w3 hq => ?_)
        have he3 := he.trans hq
        cases hk : sameC p.con q.con
        · refine J.iteT rfl ?_
          have e : sameL a.con b.con = false := eqL_no (i := i) (by show i < (a.l.map Ce.con).length; rw [List.length_map]; omega) (by
            show sameC ((a.l.map Ce.con).getD i con0) ((b.l.map Ce.con).getD i con0) = false
            rw [con_atC, con_atC, ex, ey]
            exact hk)
          rw [e]
          refine J.seq ?_
          refine J.region ?_
          refine L.va rfl (X.assign (by conv => lhs; whnf)) ?_
          refine L.nil ?_
          refine J.ret ?_
          refine inB_ret <|  thn_ret <|  thn_ret <|  inB_ret <|  thn_ret <| ?_
          refine fin1 ?_
          exact ⟨rfl, he3⟩
        · refine J.iteF rfl ?_
          refine J.skip ?_
          refine J.region ?_
          refine L.va rfl (X.move (by conv => lhs; whnf)) ?_
          refine L.va rfl (X.add rfl rfl (by omega)) ?_
          refine L.va rfl (X.assign (by conv => lhs; whnf)) ?_
          refine L.nil ?_
          refine ⟨i + 1, At1 (by first | rfl | exact at_int rfl (by omega) | exact at_slice rfl (by omega) | exact at_int rfl (by simp)), (by (iterate 17 refine Agr.lk rfl ?_); exact Agr.lk rfl (Agr.hav rfl Agr.rfl')), ?_⟩
          refine ⟨⟨by omega, fun j hj => ?_, he3⟩, by omega⟩
          rcases Nat.lt_or_ge j i with h | h
          · exact hP j h
          · obtain rfl : j = i := by omega
            rw [ex, ey]
            exact hk
      · obtain rfl : i = a.n := by omega
        have e : sameL a.con b.con = true := eqL_yes (by show (a.l.map Ce.con).length = (b.l.map Ce.con).length; rw [List.length_map, List.length_map]; omega) (fun j hj => by
          show sameC ((a.l.map Ce.con).getD j con0) ((b.l.map Ce.con).getD j con0) = true
          rw [con_atC, con_atC]
          exact hP j (by have : j < (a.l.map Ce.con).length := hj; rw [List.length_map] at this; omega))
        rw [e]
        refine J.exit ?_
        refine J.seq ?_
        refine J.region ?_
        refine L.va rfl (X.assign (by conv => lhs; whnf)) ?_
        refine L.nil ?_
        refine J.ret ?_
        refine fin1 ?_
        exact ⟨rfl, he⟩
end Go.Proofs.Ytpomklkfedpkfaa
namespace Go.Proofs.Ytpomklkfedpkfaa
set_option maxRecDepth 100000
open Go.RowKit H
set_option linter.unusedVariables false
theorem zsOf_u32b (xs : List (Nm .u32)) : InB 4294967296 (zsOf xs) := by
  intro z hz
  unfold zsOf at hz
  obtain ⟨a, _, rfl⟩ := List.mem_map.1 hz
  exact a.u32
theorem zsOf_u8b (xs : List (Nm .u8)) : InB 256 (zsOf xs) := zsOf_u8 xs
theorem flB (x : Fl) : x.b < 18446744073709551616 := of_decide_eq_true x.ok
abbrev WhT := (Nm .i64) × (Nm .i64) × (List (Nm .u32)) × (Nm .i64) × (Nm .i64)
abbrev ReT := (List (Nm .u8)) × (Fl) × (Fl)
abbrev CeT := (Nm .u64) × (Nm .i64) × (List WhT) × (List ReT)
theorem whs_of {w : World} {B n : Nat} {A : Option Addr} {xs : List WhT} (h : LiesSlice w B A n xs) : ∃ l : List Wh, l.length = n ∧ Reads w B 5 A n (l.flatMap Wh.vs) ∧ ∀ x ∈ l, x.At B w := by
  obtain ⟨l, h1, h2, h3⟩ := h.rows (X := Wh) (f := Wh.vs) (g := fun v => v.At B w) (fun _ => rfl) (fun us a hl => by
    obtain ⟨u1, u2, rfl, k1, ⟨v1, v2, rfl, k2, ⟨x1, x2, rfl, ⟨A, n, c, rfl, hn, hc, _, hl⟩, ⟨y1, y2, rfl, k3, k4⟩⟩⟩⟩ := hl
    refine ⟨⟨a.1.z, a.2.1.z, A, n, c, zsOf a.2.2.1, a.2.2.2.1.z, a.2.2.2.2.z⟩, ?_, hl.reads, Nat.le_trans hn hc, a.1.i64, a.2.1.i64, zsOf_u32b _, a.2.2.2.1.i64, a.2.2.2.2.i64⟩
    rw [show u1 = [.int .i64 a.1.z] from k1, show v1 = [.int .i64 a.2.1.z] from k2, show y1 = [.int .i64 a.2.2.2.1.z] from k3, show y2 = [.int .i64 a.2.2.2.2.z] from k4]
    rfl)
  exact ⟨l, h1, h2, h3⟩
theorem res_of {w : World} {B n : Nat} {A : Option Addr} {xs : List ReT} (h : LiesSlice w B A n xs) : ∃ l : List Re, l.length = n ∧ Reads w B 3 A n (l.flatMap Re.vs) ∧ ∀ x ∈ l, x.At B w := by
  obtain ⟨l, h1, h2, h3⟩ := h.rows (X := Re) (f := Re.vs) (g := fun v => v.At B w) (fun _ => rfl) (fun us a hl => by
    obtain ⟨u1, u2, rfl, ⟨A, n, c, rfl, hn, hc, _, hl⟩, ⟨v1, v2, rfl, k2, k3⟩⟩ := hl
    refine ⟨⟨A, n, c, zsOf a.1, a.2.1.b, a.2.2.b⟩, ?_, hl.reads, Nat.le_trans hn hc, zsOf_u8b _, flB _, flB _⟩
    rw [show v1 = [.float .f64 a.2.1.b] from k2, show v2 = [.float .f64 a.2.2.b] from k3]
    rfl)
  exact ⟨l, h1, h2, h3⟩
theorem ce_of {w : World} {B : Nat} {us : List Value} {x : CeT} (h : Lay.lies w B us x) : ∃ r : Ce, us = r.vs ∧ r.At B w := by
  obtain ⟨u1, u2, rfl, k1, ⟨v1, v2, rfl, k2, ⟨x1, x2, rfl, ⟨A, n, c, rfl, hn, hc, _, hl⟩, ⟨A', n', c', rfl, hn', hc', _, hl'⟩⟩⟩⟩ := h
  obtain ⟨li, h1, h2, h3⟩ := whs_of hl
  obtain ⟨lr, h4, h5, h6⟩ := res_of hl'
  obtain ⟨m, hm⟩ := Int.eq_ofNat_of_zero_le x.1.u64.1
  refine ⟨⟨m, x.2.1.z, A, n, c, li, A', n', c', lr⟩, ?_, (by show m < 18446744073709551616; have := x.1.u64.2; omega), x.2.1.i64, h2, h3, h1, Nat.le_trans hn hc, h5, h6, h4, Nat.le_trans hn' hc'⟩
  rw [show u1 = [.int .u64 x.1.z] from k1, show v1 = [.int .i64 x.2.1.z] from k2, hm]
  rfl
theorem ces_of {w : World} {B n c : Nat} {A : Option Addr} {xs : List CeT} (h : LiesSlice w B A n xs) (hm : n ≤ maxLen) : ∃ l : List Ce, (Ces.mk A n c l).At B w := by
  obtain ⟨l, h1, h2, h3⟩ := h.rows (X := Ce) (f := Ce.vs) (g := fun r => r.At B w) (fun _ => rfl) (fun us a hl => ce_of hl)
  exact ⟨l, h2, h3, h1, hm⟩
end Go.Proofs.Ytpomklkfedpkfaa
namespace Go.Proofs.Ytpomklkfedpkfaa
set_option maxRecDepth 100000
open Go.RowKit H
open Dfp
set_option linter.unusedVariables false
abbrev smC (x y : Ce) : Bool := sameC x.con y.con
theorem smC_key (x y : Ce) (h : smC x y = true) : x.key = y.key := by
  unfold smC sameC at h
  rw [Bool.and_eq_true] at h
  have : x.k = y.k := of_decide_eq_true h.1
  show (x.k : Int) = (y.k : Int)
  rw [this]
theorem riseC_of {l : List (Int × Int)} (h : Ris l) : riseC l = true := by
  rw [riseC_at]
  intro i hi
  have := List.pairwise_iff_getElem.1 h i (i + 1) (by omega) hi (by omega)
  rw [List.getD, List.getD, List.getElem?_eq_getElem (by omega : i < l.length), List.getElem?_eq_getElem hi]
  exact this
theorem mergeD_len (sm : Ce → Ce → Bool) (a b : List Ce) : (mergeD sm a b).length ≤ a.length + b.length := by
  induction a, b using mergeD.induct with
  | case1 => rw [mergeD]; simp
  | case2 x a ih => rw [mergeD]; simp only [List.length_cons] at *; omega
  | case3 y b ih => rw [mergeD]; simp only [List.length_cons] at *; omega
  | case4 x a y b h ih => rw [mergeD, if_pos h]; simp only [List.length_cons] at *; omega
  | case5 x a y b h1 h2 ih => rw [mergeD, if_neg h1, if_pos h2]; simp only [List.length_cons] at *; omega
  | case6 x a y b h1 h2 ih =>
    rw [mergeD, if_neg h1, if_neg h2, List.length_append]
    have : (if sm x y = true then ([] : List (Int × Int)) else [(x.key, 3)]).length ≤ 1 := by split <;> simp
    simp only [List.length_cons] at *
    omega
theorem patE_diff (sm : Ce → Ce → Bool) {a b : List Ce} (h1 : rise a = true) (h2 : rise b = true) : patE a (mergeD sm a b) b = 0 := by
  obtain ⟨m1, m2⟩ := merge_ok sm a b (ris_of h1) (ris_of h2)
  refine patE_0 (by rw [h1, h2, riseC_of m1]; rfl) (fun i hi => ?_) fun i hi => ?_
  · have := (m2 _).1 (memD (d := (0, 0)) hi)
    unfold okK
    rw [decide_eq_true (by rcases this with ⟨h, _⟩ | ⟨h, _⟩ | ⟨h, _⟩ <;> omega), decide_eq_true (by rcases this with ⟨h, _⟩ | ⟨h, _⟩ | ⟨h, _⟩ <;> omega)]
    rfl
  · have := (m2 _).1 (memD (d := (0, 0)) hi)
    generalize (mergeD sm a b).getD i (0, 0) = q at this
    unfold fault
    rcases this with ⟨h, ha, hb⟩ | ⟨h, hb, ha⟩ | ⟨h, x, hx, y, hy, e1, e2, _⟩
    · have ha := hasK_t.2 ha
      have hb := hasK_f.2 hb
      rw [if_neg, if_neg]
      · rintro ⟨k, _⟩; omega
      · rintro (⟨_, k⟩ | ⟨k, _⟩)
        · rw [ha] at k; cases k
        · exact k h
    · have hb := hasK_t.2 hb
      have ha := hasK_f.2 ha
      rw [if_neg, if_neg]
      · rintro ⟨_, k⟩; rw [ha] at k; cases k
      · rintro (⟨k, _⟩ | ⟨_, k⟩)
        · exact k h
        · rw [hb] at k; cases k
    · have ha := hasK_t.2 ⟨x, hx, e1⟩
      have hb := hasK_t.2 ⟨y, hy, e2⟩
      rw [if_neg, if_neg]
      · rintro ⟨k, _⟩; omega
      · rintro (⟨_, k⟩ | ⟨_, k⟩)
        · rw [ha] at k; cases k
        · rw [hb] at k; cases k
theorem sameL_iff {a b : List Ce} : sameL (a.map Ce.con) (b.map Ce.con) = true ↔ a.length = b.length ∧ ∀ i, i < b.length → smC (a.getD i ce0) (b.getD i ce0) = true := by
  unfold sameL
  constructor
  · intro h
    obtain ⟨h1, h2⟩ := eqL_ok h
    rw [List.length_map, List.length_map] at h1
    refine ⟨h1, fun i hi => ?_⟩
    have := h2 i (by rw [List.length_map]; omega)
    rwa [con_atC, con_atC] at this
  · rintro ⟨h1, h2⟩
    refine eqL_yes (by rw [List.length_map, List.length_map, h1]) fun i hi => ?_
    rw [List.length_map] at hi
    rw [con_atC, con_atC]
    exact h2 i (by omega)
set_option maxHeartbeats 1000000 in
theorem law_DiffCells (w : World) (A0 : Option Addr) (n0 c0 : Nat) (xs0 : List CeT) (hn0 : n0 ≤ c0) (hc0 : c0 ≤ maxLen) (hA0 : A0 = none → c0 = 0) (hl0 : LiesSlice w w.heap.size A0 n0 xs0) (A1 : Option Addr) (n1 c1 : Nat) (xs1 : List CeT) (hn1 : n1 ≤ c1) (hc1 : c1 ≤ maxLen) (hA1 : A1 = none → c1 = 0) (hl1 : LiesSlice w w.heap.size A1 n1 xs1) :
    Calls Try.prog 3 #[.slice A0 n0 c0, .slice A1 n1 c1] w fun e w' => e = .returned (.bool true) ∧ Below w.heap.size w w' := by
  obtain ⟨la, Ha⟩ := ces_of (c := c0) hl0 (Nat.le_trans hn0 hc0)
  obtain ⟨lb, Hb⟩ := ces_of (c := c1) hl1 (Nat.le_trans hn1 hc1)
  obtain rfl : la.length = n0 := Ha.l
  obtain rfl : lb.length = n1 := Hb.l
  have ra : Reads w w.heap.size 4 A0 la.length (la.flatMap Ce.vs) := Ha.r
  have rb : Reads w w.heap.size 4 A1 lb.length (lb.flatMap Ce.vs) := Hb.r
  refine enter Try.func3 rfl (by kernel_rfl) ?_
  refine J.seq ?_
  refine J.region ?_
  refine L.va rfl (X.assign (by conv => lhs; whnf)) ?_
  refine L.nil ?_
  refine J.seq ?_
  refine J.seq ?_
  refine J.region ?_
  refine L.va rfl (X.move (by conv => lhs; whnf)) ?_
  have K01 := rlight15 (s := Ces.mk A0 la.length c0 la) Ha (Nat.le_refl _)
  refine L.call rfl en_6 rfl (K01) ?_
  rintro e w1 ⟨he1, z1, rfl, hz1⟩
  refine ⟨_, rfl, ?_⟩
  have he1 : Ext w w1 := he1
  refine L.va rfl (X.not rfl) ?_
  refine L.va rfl (X.move (by conv => lhs; whnf)) ?_
  by_cases k1 : z1 = true
  · subst k1
    obtain ⟨La, LLa⟩ := hz1 rfl
    have La : la.length ≤ 60 := La
    have LLa : ∀ x ∈ la, x.Lt := LLa
    refine L.caseBF (k := 14) rfl (by rfl) ?_
    refine L.va rfl (X.move (by conv => lhs; whnf)) ?_
    have K02 := rlight15 (s := Ces.mk A1 lb.length c1 lb) (Hb.ext he1) he1.le
    refine L.call rfl en_6 rfl (K02) ?_
    rintro e w2 ⟨he2, z2, rfl, hz2⟩
    refine ⟨_, rfl, ?_⟩
    have he02 : Ext w w2 := he1.trans he2
    refine L.va rfl (X.not rfl) ?_
    refine L.va rfl (X.pickF rfl (by conv => lhs; whnf)) ?_
    refine L.nil ?_
    by_cases k2 : z2 = true
    · subst k2
      obtain ⟨Lb, LLb⟩ := hz2 rfl
      have Lb : lb.length ≤ 60 := Lb
      have LLb : ∀ x ∈ lb, x.Lt := LLb
      have q2 := he02.le
      have hsm1 : ∀ x ∈ la, ∀ y ∈ lb, ∀ w', Ext w2 w' → Calls Try.prog 22 #[x.v, y.v] w' fun e w'' => e = .returned (.bool (smC x y)) ∧ Ext w' w'' := fun x hx y hy w' hw => agg_same ((Ha.h x hx).ext (he02.trans hw)) ((Hb.h y hy).ext (he02.trans hw)) (he02.trans hw).le
      refine J.iteF rfl ?_
      refine J.skip ?_
      refine J.seq ?_
      refine J.region ?_
      refine L.va rfl (X.move (by conv => lhs; whnf)) ?_
      refine L.va rfl (X.move (by conv => lhs; whnf)) ?_
      by_cases hr : (rise la && rise lb) = true
      · have hr2 : rise la = true ∧ rise lb = true := by simpa using hr
        have K1 := cells_ q2 smC A0 c0 la (ra.ext he02) hn0 A1 c1 lb (rb.ext he02) hn1 (by omega) hsm1 hr2
        obtain ⟨m1, m2⟩ := merge_ok smC la lb (ris_of hr2.1) (ris_of hr2.2)
        have ml := mergeD_len smC la lb
        have hE := patE_diff smC hr2.1 hr2.2
        have hnil := diff_nil smC smC_key (ris_of hr2.1) (ris_of hr2.2)
        have hpd := fun o => pat_diff (o := o) smC (fun x => sameC_refl _) (ris_of hr2.1) (ris_of hr2.2)
        obtain ⟨D, hD⟩ : ∃ D, D = mergeD smC la lb := ⟨_, rfl⟩
        rw [← hD] at K1 ml hE hnil hpd
        refine L.call rfl en_8 rfl (K1) ?_
        rintro e w3 ⟨A3, c3, rfl, ho3, he3⟩
        refine ⟨_, rfl, ?_⟩
        have he3 : Ext w2 w3 := he3
        have he03 := he02.trans he3
        have q3 := he03.le
        have hsm2 : ∀ x ∈ la, ∀ y ∈ lb, ∀ w', Ext w3 w' → Calls Try.prog 26 #[x.v, y.v] w' fun e w'' => e = .returned (.bool (smC x y)) ∧ Ext w' w'' := fun x hx y hy w' hw => rsame14 ((Ha.h x hx).ext (he03.trans hw)) ((Hb.h y hy).ext (he03.trans hw)) (he03.trans hw).le (by have := (LLa x hx).i; have := (LLa x hx).r; omega)
        have K2 := rcells43 q3 smC A0 c0 la (ra.ext he03) A1 c1 lb (rb.ext he03) (by omega) hsm2 hr2
        rw [← hD] at K2
        refine L.va rfl (X.move (by conv => lhs; whnf)) ?_
        refine L.va rfl (X.extract rfl rfl) ?_
        refine L.va rfl (X.extract rfl rfl) ?_
        refine L.va rfl (X.assign (by conv => lhs; whnf)) ?_
        refine L.va rfl (X.assign (by conv => lhs; whnf)) ?_
        refine L.nil ?_
        refine J.seq ?_
        refine J.region ?_
        refine L.va rfl (X.move (by conv => lhs; whnf)) ?_
        refine L.va rfl (X.move (by conv => lhs; whnf)) ?_
        refine L.call rfl en_9 rfl (K2) ?_
        rintro e w4 ⟨A4, c4, rfl, ho4, he4⟩
        refine ⟨_, rfl, ?_⟩
        have he4 : Ext w3 w4 := he4
        have he04 := he03.trans he4
        have q4 := he04.le
        have hrd3 := Reads.of_own (ho3.ext he4)
        have hrd4 := Reads.of_own ho4
        refine L.va rfl (X.move (by conv => lhs; whnf)) ?_
        refine L.va rfl (X.extract rfl rfl) ?_
        refine L.va rfl (X.extract rfl rfl) ?_
        refine L.va rfl (X.assign (by conv => lhs; whnf)) ?_
        refine L.va rfl (X.assign (by conv => lhs; whnf)) ?_
        refine L.nil ?_
        refine J.seq ?_
        refine J.seq ?_
        refine J.region ?_
        refine L.va rfl (X.move (by conv => lhs; whnf)) ?_
        refine L.va rfl (X.move (by conv => lhs; whnf)) ?_
        refine L.va rfl (X.neq rfl rfl) ?_
        refine L.va rfl (X.move (by conv => lhs; whnf)) ?_
        refine L.caseNdecF (k := 35) rfl (by rfl) ?_
        refine L.va rfl (X.move (by conv => lhs; whnf)) ?_
        refine L.va rfl (X.move (by conv => lhs; whnf)) ?_
        refine L.call rfl en_10 rfl (lsame43 A3 c3 A4 c4 D w4 hrd3 hrd4 (by omega)) ?_
        rintro e w5 ⟨rfl, he5⟩
        refine ⟨_, rfl, ?_⟩
        have he05 := he04.trans he5
        have q5 := he05.le
        refine L.va rfl (X.not rfl) ?_
        refine L.va rfl (X.pickF rfl (by conv => lhs; whnf)) ?_
        refine L.nil ?_
        refine J.iteF rfl ?_
        refine J.skip ?_
        refine J.seq ?_
        refine J.seq ?_
        refine J.region ?_
        refine L.va rfl (X.move (by conv => lhs; whnf)) ?_
        refine L.va rfl (X.neq rfl rfl) ?_
        refine L.nil ?_
        refine J.iteF rfl ?_
        have hrd5 := (hrd3.ext he5).more he5.le
        have K3 := dpatch (w := w5) (N := w5.heap.size) (Nat.le_refl _) A0 c0 la ((ra.ext he05).more q5) hn0 A3 c3 D hrd5 A1 c1 lb ((rb.ext he05).more q5) (by omega) (fun x hx => ⟨((Ha.h x hx).ext he05).more q5, LLa x hx⟩) (fun x hx => ⟨((Hb.h x hx).ext he05).more q5, LLb x hx⟩)
        refine J.skip ?_
        refine J.seq ?_
        refine J.region ?_
        refine L.va rfl (X.move (by conv => lhs; whnf)) ?_
        refine L.va rfl (X.move (by conv => lhs; whnf)) ?_
        refine L.va rfl (X.move (by conv => lhs; whnf)) ?_
        refine L.call rfl en_11 rfl (K3) ?_
        rintro e w6 ⟨t, rfl, hat, htc, ht1, htL, _, hok, he6⟩
        refine ⟨_, rfl, ?_⟩
        have he6 : Ext w5 w6 := he6
        have he06 := he05.trans he6
        have q6 := he06.le
        obtain ⟨o, hPo, hcon⟩ := hok hE
        obtain ⟨p1, p2⟩ := hpd o hPo
        rw [hE]
        refine L.va rfl (X.move (by conv => lhs; whnf)) ?_
        refine L.va rfl (X.extract rfl rfl) ?_
        refine L.va rfl (X.extract rfl rfl) ?_
        refine L.va rfl (X.assign (by conv => lhs; whnf)) ?_
        refine L.va rfl (X.assign (by conv => lhs; whnf)) ?_
        refine L.nil ?_
        refine J.seq ?_
        refine J.region ?_
        refine L.va rfl (X.move (by conv => lhs; whnf)) ?_
        refine L.va rfl (X.eql rfl rfl) ?_
        refine L.va rfl (X.move (by conv => lhs; whnf)) ?_
        refine L.caseDecT (k := 53) rfl (by rfl) ?_
        refine L.va rfl (X.move (by conv => lhs; whnf)) ?_
        refine L.va rfl (X.move (by conv => lhs; whnf)) ?_
        have hs1 : sameL t.con ((Ces.mk A1 lb.length c1 lb).con) = true := by
          show sameL t.con (lb.map Ce.con) = true
          rw [hcon]
          exact sameL_iff.2 ⟨p1, p2⟩
        have K4 := rsame15 (a := t) (b := Ces.mk A1 lb.length c1 lb) hat ((Hb.ext he06).more q6) (Nat.le_refl _) (by omega) (fun x hx => by have := (htL x hx).i; have := (htL x hx).r; omega)
        rw [hs1] at K4
        refine L.call rfl en_12 rfl (K4) ?_
        rintro e w7 ⟨rfl, he7⟩
        refine ⟨_, rfl, ?_⟩
        have he07 := he06.trans he7
        have q7 := he07.le
        refine L.va rfl (X.pickT rfl (by conv => lhs; whnf)) ?_
        refine L.va rfl (X.move (by conv => lhs; whnf)) ?_
        refine L.caseBT (k := 58) rfl (by rfl) ?_
        refine L.va rfl (X.move (by conv => lhs; whnf)) ?_
        refine L.va rfl (X.len rfl Try.underlying25) ?_
        refine L.va rfl (X.eql rfl rfl) ?_
        refine L.va rfl (X.move (by conv => lhs; whnf)) ?_
        refine L.va rfl (X.move (by conv => lhs; whnf)) ?_
        have K5 := rsame15 (a := Ces.mk A0 la.length c0 la) (b := Ces.mk A1 lb.length c1 lb) ((Ha.ext he07).more q7) ((Hb.ext he07).more q7) (Nat.le_refl _) (by show la.length ≤ 1000000; omega) (fun x hx => by have := (LLa x hx).i; have := (LLa x hx).r; omega)
        refine L.call rfl en_12 rfl (K5) ?_
        rintro e w8 ⟨rfl, he8⟩
        refine ⟨_, rfl, ?_⟩
        have he08 := he07.trans he8
        have hfin : (decide ((D.length : Int) = 0) == sameL (Ces.mk A0 la.length c0 la).con (Ces.mk A1 lb.length c1 lb).con) = true := by
          show (decide ((D.length : Int) = 0) == sameL (la.map Ce.con) (lb.map Ce.con)) = true
          cases hs : sameL (la.map Ce.con) (lb.map Ce.con)
          · rw [decide_eq_false (fun e => ?_)]
            · rfl
            · have : D = [] := List.length_eq_zero_iff.1 (by omega)
              rw [sameL_iff.2 (hnil.1 this)] at hs
              cases hs
          · have : D = [] := hnil.2 (sameL_iff.1 hs)
            rw [this]
            rfl
        refine L.va rfl (X.eqlB rfl rfl Try.underlying4) ?_
        refine L.va rfl (X.pickT rfl (by conv => lhs; whnf)) ?_
        refine L.va rfl (X.move (by conv => lhs; whnf)) ?_
        refine L.caseBT (k := 67) rfl (by exact hfin) ?_
        refine L.call rfl en_7 rfl (awake43 w8) ?_
        rintro e w9 ⟨rfl, he9⟩
        refine ⟨_, rfl, ?_⟩
        refine L.va rfl (X.pickT rfl (by conv => lhs; whnf)) ?_
        refine L.va rfl (X.assign (by conv => lhs; whnf)) ?_
        refine L.nil ?_
        refine J.ret ?_
        refine fin1 ?_
        exact ⟨rfl, he08.trans he9⟩
      · have hr2 : (rise la && rise lb) = false := by simpa using hr
        have K1 := dcells_no q2 A0 c0 la (ra.ext he02) A1 c1 lb (rb.ext he02) (by omega) hr2
        refine L.call rfl en_8 rfl (K1) ?_
        rintro e w3 ⟨rfl, he3⟩
        refine ⟨_, rfl, ?_⟩
        have he03 := he02.trans he3
        have q3 := he03.le
        have K2 := rcells43_no q3 A0 c0 la (ra.ext he03) A1 c1 lb (rb.ext he03) (by omega) hr2
        refine L.va rfl (X.move (by conv => lhs; whnf)) ?_
        refine L.va rfl (X.extract rfl rfl) ?_
        refine L.va rfl (X.extract rfl rfl) ?_
        refine L.va rfl (X.assign (by conv => lhs; whnf)) ?_
        refine L.va rfl (X.assign (by conv => lhs; whnf)) ?_
        refine L.nil ?_
        refine J.seq ?_
        refine J.region ?_
        refine L.va rfl (X.move (by conv => lhs; whnf)) ?_
        refine L.va rfl (X.move (by conv => lhs; whnf)) ?_
        refine L.call rfl en_9 rfl (K2) ?_
        rintro e w4 ⟨rfl, he4⟩
        refine ⟨_, rfl, ?_⟩
        have he04 := he03.trans he4
        refine L.va rfl (X.move (by conv => lhs; whnf)) ?_
        refine L.va rfl (X.extract rfl rfl) ?_
        refine L.va rfl (X.extract rfl rfl) ?_
        refine L.va rfl (X.assign (by conv => lhs; whnf)) ?_
        refine L.va rfl (X.assign (by conv => lhs; whnf)) ?_
        refine L.nil ?_
        refine J.seq ?_
        refine J.seq ?_
        refine J.region ?_
        refine L.va rfl (X.move (by conv => lhs; whnf)) ?_
        refine L.va rfl (X.move (by conv => lhs; whnf)) ?_
        refine L.va rfl (X.neq rfl rfl) ?_
        refine L.va rfl (X.move (by conv => lhs; whnf)) ?_
        refine L.caseNdecF (k := 35) rfl (by rfl) ?_
        refine L.va rfl (X.move (by conv => lhs; whnf)) ?_
        refine L.va rfl (X.move (by conv => lhs; whnf)) ?_
        refine L.call rfl en_10 rfl (lsame43 none 0 none 0 [] w4 (N := w4.heap.size) Reads.none_ Reads.none_ (by simp)) ?_
        rintro e w5 ⟨rfl, he5⟩
        refine ⟨_, rfl, ?_⟩
        have he05 := he04.trans he5
        refine L.va rfl (X.not rfl) ?_
        refine L.va rfl (X.pickF rfl (by conv => lhs; whnf)) ?_
        refine L.nil ?_
        refine J.iteF rfl ?_
        refine J.skip ?_
        refine J.seq ?_
        refine J.seq ?_
        refine J.region ?_
        refine L.va rfl (X.move (by conv => lhs; whnf)) ?_
        refine L.va rfl (X.neq rfl rfl) ?_
        refine L.nil ?_
        refine J.iteT rfl ?_
        refine J.seq ?_
        refine J.region ?_
        refine L.call rfl en_7 rfl (awake43 w5) ?_
        rintro e w6 ⟨rfl, he6⟩
        refine ⟨_, rfl, ?_⟩
        refine L.va rfl (X.assign (by conv => lhs; whnf)) ?_
        refine L.nil ?_
        refine J.ret ?_
        refine thn_ret <| ?_
        refine fin1 ?_
        exact ⟨rfl, he05.trans he6⟩
    · have k2 : z2 = false := by simpa using k2
      subst k2
      refine J.iteT rfl ?_
      refine J.seq ?_
      refine J.region ?_
      refine L.call rfl en_7 rfl (awake43 w2) ?_
      rintro e w3 ⟨rfl, he3⟩
      refine ⟨_, rfl, ?_⟩
      refine L.va rfl (X.assign (by conv => lhs; whnf)) ?_
      refine L.nil ?_
      refine J.ret ?_
      refine thn_ret <| ?_
      refine fin1 ?_
      exact ⟨rfl, he02.trans he3⟩
  · have k1 : z1 = false := by simpa using k1
    subst k1
    refine L.caseBT (k := 14) rfl (by rfl) ?_
    refine L.no rfl ?_
    refine L.no rfl ?_
    refine L.no rfl ?_
    refine L.va rfl (X.pickT rfl (by conv => lhs; whnf)) ?_
    refine L.nil ?_
    refine J.iteT rfl ?_
    refine J.seq ?_
    refine J.region ?_
    refine L.call rfl en_7 rfl (awake43 w1) ?_
    rintro e w2 ⟨rfl, he2⟩
    refine ⟨_, rfl, ?_⟩
    refine L.va rfl (X.assign (by conv => lhs; whnf)) ?_
    refine L.nil ?_
    refine J.ret ?_
    refine thn_ret <| ?_
    refine fin1 ?_
    exact ⟨rfl, he1.trans he2⟩
end Go.Proofs.Ytpomklkfedpkfaa
