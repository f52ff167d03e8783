import Derived.Test.YtnndkepnabddgaaZTourneyMerges5
/-
  What the law leans on, part 6: RefPlain, WRefI, WCelI, WTouB, Mark, TouAwake, LTourneyMerges.
-/
namespace Go.Proofs.Ytnndkepnabddgaa
set_option maxRecDepth 100000
open Dfp Tmg
set_option linter.unusedVariables false
def nxl (ls : List Ces) (p : List Int) (j : Nat) : List Ce := (ls.getD j ces0).l.drop (p.getD j 0).toNat
def rsA (ls : List Ces) (p : List Int) : List (List Con) := (List.range ls.length).map fun j => (nxl ls p j).map Ce.con
abbrev Hd (ls : List Ces) (p : List Int) (j : Nat) : Prop := p.getD j 0 < ((ls.getD j ces0).n : Int)
abbrev hc (ls : List Ces) (p : List Int) (j : Nat) : Ce := (ls.getD j ces0).l.getD (p.getD j 0).toNat ce0
structure PosOk (ls : List Ces) (p : List Int) : Prop where
  len : p.length = ls.length
  bd : ∀ j, j < ls.length → 0 ≤ p.getD j 0 ∧ p.getD j 0 ≤ ((ls.getD j ces0).n : Int)
def LenOk (ls : List Ces) : Prop := ∀ j, j < ls.length → (ls.getD j ces0).l.length = (ls.getD j ces0).n
section
variable {ls : List Ces} {p : List Int} {j : Nat}
theorem nx_cons (hL : LenOk ls) (hp : PosOk ls p) (hj : j < ls.length) (h : Hd ls p j) : nxl ls p j = hc ls p j :: (ls.getD j ces0).l.drop ((p.getD j 0).toNat + 1) := by
  have h1 := hL j hj
  have h2 := (hp.bd j hj).1
  unfold nxl hc
  unfold Hd at h
  rw [List.drop_eq_getElem_cons (by omega)]
  congr 1
  have hk : (p.getD j 0).toNat < (ls.getD j ces0).l.length := by omega
  have e := List.getElem?_eq_getElem hk
  exact Option.some.inj (e.symm.trans (gtX hk))
theorem nx_nil (hL : LenOk ls) (hp : PosOk ls p) (hj : j < ls.length) (h : ¬ Hd ls p j) : nxl ls p j = [] := by
  have h1 := hL j hj
  have h2 := hp.bd j hj
  unfold Hd at h
  unfold nxl
  rw [List.drop_eq_nil_iff]
  omega
theorem rsA_len : (rsA ls p).length = ls.length := by unfold rsA; rw [List.length_map, List.length_range]
theorem rsA_get (hj : j < ls.length) : (rsA ls p)[j]? = some ((nxl ls p j).map Ce.con) := by
  unfold rsA
  rw [List.getElem?_map, List.getElem?_range hj]
  rfl
theorem rsA_at (hL : LenOk ls) (hp : PosOk ls p) {d : Con} {u : List Con} (h : (rsA ls p)[j]? = some (d :: u)) : j < ls.length ∧ Hd ls p j ∧ d = (hc ls p j).con := by
  rcases Nat.lt_or_ge j ls.length with hj | hj
  · rw [rsA_get hj] at h
    injection h with h
    by_cases hh : Hd ls p j
    · rw [nx_cons hL hp hj hh, List.map_cons] at h
      injection h with h1 h2
      exact ⟨hj, hh, h1.symm⟩
    · rw [nx_nil hL hp hj hh] at h
      cases h
  · rw [List.getElem?_eq_none (by rw [rsA_len]; exact hj)] at h
    cases h
theorem posn_set {k : Nat} {v : Int} (hj : j < p.length) : (p.set j v).getD k 0 = if k = j then v else p.getD k 0 := by
  rw [List.getD, List.getElem?_set]
  by_cases h : k = j
  · rw [if_pos h.symm, if_pos (by omega), if_pos h]
    rfl
  · rw [if_neg (fun e => h e.symm), if_neg h]
    rfl
theorem posn_next (hp : PosOk ls p) (hj : j < ls.length) (h : Hd ls p j) : PosOk ls (p.set j (p.getD j 0 + 1)) := by
  refine ⟨by rw [List.length_set]; exact hp.len, fun k hk => ?_⟩
  rw [posn_set (by rw [hp.len]; exact hj)]
  have h1 := hp.bd k hk
  have h2 := hp.bd j hj
  unfold Hd at h
  split
  · rename_i e
    subst e
    omega
  · exact h1
theorem hd_ne {k : Nat} {v : Int} (hj : j < p.length) (hk : k ≠ j) : (Hd ls (p.set j v) k ↔ Hd ls p k) ∧ hc ls (p.set j v) k = hc ls p k := by
  unfold Hd hc
  rw [posn_set hj, if_neg hk]
  exact ⟨Iff.rfl, rfl⟩
theorem rsA_set (hL : LenOk ls) (hp : PosOk ls p) (hj : j < ls.length) (h : Hd ls p j) : ∃ t, (rsA ls p)[j]? = some ((hc ls p j).con :: t) ∧ rsA ls (p.set j (p.getD j 0 + 1)) = (rsA ls p).set j t := by
  refine ⟨((ls.getD j ces0).l.drop ((p.getD j 0).toNat + 1)).map Ce.con, ?_, ?_⟩
  · rw [rsA_get hj, nx_cons hL hp hj h]
    rfl
  · apply List.ext_getElem?
    intro k
    have hb := (hp.bd j hj).1
    rw [List.getElem?_set]
    rcases Nat.lt_or_ge k ls.length with hk | hk
    · rw [rsA_get hk]
      by_cases e : j = k
      · subst e
        rw [if_pos rfl, if_pos (by rw [rsA_len]; exact hj)]
        unfold nxl
        rw [posn_set (by rw [hp.len]; exact hj), if_pos rfl, show (p.getD j 0 + 1).toNat = (p.getD j 0).toNat + 1 by omega]
      · rw [if_neg e, rsA_get hk]
        unfold nxl
        rw [posn_set (by rw [hp.len]; exact hj), if_neg (fun h => e h.symm)]
    · rw [List.getElem?_eq_none (by rw [rsA_len]; exact hk), if_neg (by omega), List.getElem?_eq_none (by rw [rsA_len]; exact hk)]
theorem rsA_none (hL : LenOk ls) (hp : PosOk ls p) (h : ∀ k, k < ls.length → ¬ Hd ls p k) : ∀ r ∈ rsA ls p, r = [] := by
  intro r hr
  unfold rsA at hr
  obtain ⟨k, hk, rfl⟩ := List.mem_map.1 hr
  have hk := List.mem_range.1 hk
  rw [nx_nil hL hp hk (h k hk)]
  rfl
theorem rsA_0 : rsA ls (List.replicate ls.length 0) = ls.map Ces.con := by
  apply List.ext_getElem?
  intro k
  rcases Nat.lt_or_ge k ls.length with hk | hk
  · rw [rsA_get hk, List.getElem?_map, List.getElem?_eq_getElem hk]
    unfold nxl
    rw [List.getD, List.getD, List.getElem?_eq_getElem hk, List.getElem?_replicate, if_pos hk]
    rfl
  · rw [List.getElem?_eq_none (by rw [rsA_len]; exact hk), List.getElem?_eq_none (by rw [List.length_map]; exact hk)]
theorem posn_0 : PosOk ls (List.replicate ls.length 0) := by
  refine ⟨by simp, fun k hk => ?_⟩
  rw [List.getD, List.getElem?_replicate, if_pos hk]
  show (0 : Int) ≤ 0 ∧ (0 : Int) ≤ _
  omega
theorem hc_next (hL : LenOk ls) (hp : PosOk ls p) (hj : j < ls.length) (hr : rise (ls.getD j ces0).l = true) (h' : Hd ls (p.set j (p.getD j 0 + 1)) j) : (hc ls p j).k < (hc ls (p.set j (p.getD j 0 + 1)) j).k := by
  have hl := hL j hj
  have hb := (hp.bd j hj).1
  unfold Hd at h'
  unfold hc
  rw [posn_set (by rw [hp.len]; exact hj), if_pos rfl] at h' ⊢
  rw [rise_at] at hr
  have := hr (p.getD j 0).toNat (by omega)
  rw [show (p.getD j 0 + 1).toNat = (p.getD j 0).toNat + 1 by omega]
  have h1 : (((ls.getD j ces0).l.getD (p.getD j 0).toNat ce0).k : Int) < (((ls.getD j ces0).l.getD ((p.getD j 0).toNat + 1) ce0).k : Int) := this
  omega
theorem best_at (hL : LenOk ls) (hp : PosOk ls p) (hj : j < ls.length) (h : Hd ls p j) (hle : ∀ k, k < ls.length → Hd ls p k → (hc ls p j).k ≤ (hc ls p k).k) (hlt : ∀ k, k < j → Hd ls p k → (hc ls p j).k < (hc ls p k).k) : ∃ t, IsBest (rsA ls p) j (hc ls p j).con t ∧ rsA ls (p.set j (p.getD j 0 + 1)) = (rsA ls p).set j t ∧ tot (rsA ls p) = tot (rsA ls (p.set j (p.getD j 0 + 1))) + 1 := by
  obtain ⟨t, h1, h2⟩ := rsA_set hL hp hj h
  refine ⟨t, ⟨h1, fun k d u hk => ?_⟩, h2, by rw [h2]; exact tot_set h1⟩
  obtain ⟨hk1, hk2, rfl⟩ := rsA_at hL hp hk
  have a := hle k hk1 hk2
  show (hc ls p j).k < (hc ls p k).k ∨ (hc ls p j).k = (hc ls p k).k ∧ j ≤ k
  rcases Nat.lt_or_ge k j with hh | hh
  · exact .inl (hlt k hh hk2)
  · omega
end
end Go.Proofs.Ytnndkepnabddgaa
namespace Go.Proofs.Ytnndkepnabddgaa
set_option maxRecDepth 100000
open Go.RowKit H
open Tmg
set_option linter.unusedVariables false
def Ce.Mix (u : Ce) (N : Nat) (w : World) : Prop := u.At N w ∨ u.OwnQ 30 N w
section
variable {u : Ce} {N : Nat} {w w' : World}
theorem Ce.Mix.ext (h : u.Mix N w) (he : Ext w w') : u.Mix N w' := by
  rcases h with h | h
  · exact .inl (h.ext he)
  · exact .inr (h.ext he)
theorem Ce.Mix.put (h : u.Mix N w) {t : Nat} (hb : Below N w w') (hC : TCh t w w') (hne : 96 ≠ t ∧ 5 ≠ t ∧ 69 ≠ t ∧ 72 ≠ t) : u.Mix N w' := by
  rcases h with h | h
  · exact .inl (h.low hb (Nat.le_refl _))
  · exact .inr (h.put hb hC hne)
theorem Ce.Mix.at (h : u.Mix N w) (hN : N ≤ w.heap.size) : u.At w.heap.size w := by
  rcases h with h | h
  · exact h.more hN
  · exact h.at hN
end
theorem below_put {N b : Nat} {w w' : World} (hg : w.grownBy w' (some b)) (hb : N ≤ b) (hN : N ≤ w.heap.size) : Below N w w' :=
  Chg.below (.of_grown hg (S := fun g => g = b) (fun g hg => by injection hg with hg; exact hg.symm)) hN (fun g hg => by omega)
theorem last_snoc {o : List Ce} {x : Ce} {u : Con} (h : ((o ++ [x]).map Ce.con).getLast? = some u) : u = x.con := by
  rw [List.map_append, List.map_cons, List.map_nil, List.getLast?_concat] at h
  injection h with h
  exact h.symm
theorem hV3 {x y : Con} (h : eJ x y = 0) : (vJ x y).k = x.k := by
  unfold vJ
  rw [if_pos h]
def RmR (ls : List Ces) (w : World) (e : Ending) (w' : World) : Prop :=
  ∃ (t : Ces) (z : Int), e = .returned (.tuple #[t.val, .int .i64 z]) ∧ (riseAll ls = false → z = 1 ∧ t.con = []) ∧ (riseAll ls = true → (t.con, z) = mP eJ vJ (tot (ls.map Ces.con)) (ls.map Ces.con) []) ∧ t.At w'.heap.size w' ∧ t.n ≤ 10000 ∧ (∀ x ∈ t.l, x.LtQ 30) ∧ Ext w w'
set_option maxHeartbeats 2000000 in
theorem rmerge16 (A : Option Addr) (n c : Nat) (ls : List Ces) (w : World) (hr : Reads w w.heap.size 1 A n (ls.flatMap Ces.vs)) (hs : ∀ s ∈ ls, s.At w.heap.size w ∧ s.n ≤ s.c ∧ s.n ≤ 1000 ∧ ∀ x ∈ s.l, x.LtQ 20) (hl : ls.length = n) (hn : n ≤ 8) : Calls Try.prog 8 #[.slice A n c] w (RmR ls w) := by
  have hSS := fun (j : Nat) (hj : j < ls.length) => hs _ (memD (l := ls) (i := j) (d := ces0) hj)
  have hLen : LenOk ls := fun j hj => (hSS j hj).1.l
  refine enter Try.func8 rfl (by kernel_rfl) ?_
  refine J.seq ?_
  refine J.region ?_
  refine L.va rfl (X.assign (by conv => lhs; whnf)) ?_
  refine L.va rfl (X.assign (by conv => lhs; whnf)) ?_
  refine L.nil ?_
  refine J.cut (X := Unit) [2, 3, 4, 16, 17, 18, 19, 20, 21, 22, 23, 24, 25, 26, 27] (fun _ => []) (fun _ w' => riseAll ls = true ∧ Ext w w') ?_ ?_
  · refine J.seq ?_
    refine J.region ?_
    refine L.va rfl (X.assign (by conv => lhs; whnf)) ?_
    refine L.nil ?_
    refine J.block ?_
    refine J.loop (X := Nat) [2, 3, 4, 16, 17, 18, 19, 20, 21, 22, 23, 24, 25, 26, 27] (fun i => [(4, .int .i64 (i : Int))]) (fun i w' => i ≤ n ∧ (∀ j, j < i → rise (ls.getD j ces0).l = true) ∧ Ext w w') (fun i => n - i) (0) (At1 (by first | rfl | exact at_int rfl (by omega) | exact at_slice rfl (by omega) | exact at_int rfl (by simp))) ?_ ?_
    · exact ⟨Nat.zero_le _, fun j hj => absurd hj (by omega), Ext.refl _⟩
    · rintro i g w3 ⟨hi, hrs, he3⟩
      have hr3 := hr.ext he3
      refine J.seq ?_
      refine J.seq ?_
      refine J.region ?_
      refine L.va rfl (X.move (by conv => lhs; whnf)) ?_
      refine L.va rfl (X.move (by conv => lhs; whnf)) ?_
      refine L.va rfl (X.len rfl Try.underlying22) ?_
      refine L.va rfl (X.lss rfl rfl) ?_
      refine L.nil ?_
      refine J.dec rfl (fun hlt => ?_) (fun hlt => ?_)
      · have hil : i < ls.length := by omega
        have gs := gtS (l := ls) (i := i) hil
        have ms := hSS i hil
        obtain ⟨s, es⟩ : ∃ s, s = ls.getD i ces0 := ⟨_, rfl⟩
        rw [← es] at gs ms
        have hA := hr3.some_ (by omega)
        have lx : Ld w3 (pA A i) (.slice s.A s.n s.c) := by have h := Ld.flat2 cs_len hr3 gs (r := 0) rfl; rwa [Nat.mul_one] at h
        refine J.skip ?_
        refine J.seq ?_
        refine J.block ?_
        refine J.seq ?_
        refine J.region ?_
        refine L.va rfl (X.move (by conv => lhs; whnf)) ?_
        refine L.va rfl (X.move (by conv => lhs; whnf)) ?_
        refine L.va rfl ((by first | exact X.index1n rfl rfl Try.underlying22 sz_25 (by first | exact Option.some_ne_none _ | exact hA | exact lx) (by omega) | exact X.index1 rfl rfl Try.underlying22 sz_25 (by first | exact Option.some_ne_none _ | exact hA | exact lx) (by omega))) ?_
        refine L.va rfl (X.load rfl sc_25 (by first | exact hA | exact lx)) ?_
        have hsl := (ms.1.ext he3).l
        have c1 := rrising15 s.A s.c s.l (by rw [hsl]; exact (ms.1.ext he3).r) he3.le (by omega)
        rw [hsl] at c1
        refine L.call rfl en_20 rfl (c1) ?_
        rintro e w4 ⟨rfl, he4⟩
        refine ⟨_, rfl, ?_⟩
        have he4 : Ext w3 w4 := he4
        have he04 := he3.trans he4
        refine L.va rfl (X.not rfl) ?_
        refine L.nil ?_
        cases hri : rise s.l
        · refine J.iteT rfl ?_
          refine J.seq ?_
          refine J.region ?_
          refine L.va rfl (X.assign (by conv => lhs; whnf)) ?_
          refine L.va rfl (X.assign (by conv => lhs; whnf)) ?_
          refine L.nil ?_
          refine J.ret ?_
          refine inB_ret <|  thn_ret <|  thn_ret <|  inB_ret <|  thn_ret <| ?_
          refine fin2 ?_
          have hno := riseAll_no hil (by rw [← es]; exact hri)
          exact ⟨⟨none, 0, 0, []⟩, 1, rfl, fun _ => ⟨rfl, rfl⟩, fun h => by (rw [hno] at h; cases h), ⟨Reads.of_own (own_nil _ 0 0 4), (fun x hx => by cases hx), rfl, Nat.zero_le _⟩, Nat.zero_le _, (fun x hx => by cases hx), he04⟩
        · have hrs' : ∀ j, j < i + 1 → rise (ls.getD j ces0).l = true := fun j hj => by
            rcases Nat.lt_or_ge j i with k | k
            · exact hrs j k
            · rw [show j = i by omega, ← es]; exact hri
          refine J.iteF rfl ?_
          refine J.skip ?_
          refine J.region ?_
          refine L.va rfl (X.move (by conv => lhs; whnf)) ?_
          refine L.va rfl (X.add rfl rfl (by omega)) ?_
          refine L.va rfl (X.assign (by conv => lhs; whnf)) ?_
          refine L.nil ?_
          refine ⟨i + 1, At1 (by first | rfl | exact at_int rfl (by omega) | exact at_slice rfl (by omega) | exact at_int rfl (by simp)), (by (iterate 13 refine Agr.lk rfl ?_); exact Agr.lk rfl (Agr.hav rfl Agr.rfl')), ?_⟩
          exact ⟨⟨by omega, hrs', he04⟩, by omega⟩
      · refine J.exit ?_
        refine ⟨(), At0 , (by (iterate 4 refine Agr.lk rfl ?_); refine Agr.lk rfl ?_; refine Agr.hav rfl ?_; (iterate 1 refine Agr.lk rfl ?_); exact Agr.rfl'), ?_⟩
        exact ⟨riseAll_yes (ls := ls) fun j hj => hrs j (by omega), he3⟩
  · rintro ⟨⟩ g w1 ⟨hra, he1⟩
    have z1 := he1.le
    have hrise : ∀ j, j < ls.length → rise (ls.getD j ces0).l = true := fun j hj => List.all_eq_true.1 hra _ (memD (d := ces0) hj)
    refine J.seq ?_
    refine J.region ?_
    refine L.va rfl (X.move (by conv => lhs; whnf)) ?_
    refine L.va rfl (X.len rfl Try.underlying22) ?_
    refine L.make (q := n) (c := n) rfl rfl rfl Try.underlying35 el_3 (by omega) ?_
    intro b2 w2 hb2 hs2 hk2 he2
    rw [made_one rfl] at hk2
    have he02 := he1.trans he2
    have z2 := he02.le
    have hp2 : w2.ownsRow w.heap.size 3 1 (.slice (some ⟨b2, 0, none⟩) n n) n (nums .i64 (List.replicate ls.length 0)) := by
      have := blk_own1 (base := w.heap.size) (q := n) (l := List.replicate n (Value.int .i64 0)) hk2 (by omega) (by unfold maxLen; omega) (by simp)
      have e : nums .i64 (List.replicate ls.length 0) = List.replicate n (Value.int .i64 0) := by unfold nums; rw [hl]; simp
      rw [e]
      exact this
    obtain ⟨TG, hTG⟩ : ∃ TG, TG = mP eJ vJ (tot (ls.map Ces.con)) (ls.map Ces.con) [] := ⟨_, rfl⟩
    have hT0 := tot_le (m := 1000) fun s hs' => by rw [(hs s hs').1.l]; exact (hs s hs').2.2.1
    obtain ⟨T0, eT0⟩ : ∃ T0, T0 = tot (ls.map Ces.con) := ⟨_, rfl⟩
    rw [← eT0] at hT0
    refine L.va rfl (X.assign (by conv => lhs; whnf)) ?_
    refine L.nil ?_
    refine J.seq ?_
    refine J.region ?_
    refine L.va rfl (X.assign (by conv => lhs; whnf)) ?_
    refine L.nil ?_
    refine J.block ?_
    refine J.loop (X := List Int × Option Addr × Nat × List Ce) [2, 3, 6, 7, 8, 9, 10, 11, 12, 13, 14, 15, 31, 32, 33, 34, 35, 36, 37, 38, 39, 40, 41, 42, 43, 44, 45, 46, 47, 48, 49, 50, 51, 52, 53, 54, 55, 56, 57, 58, 59, 60, 61, 62, 63, 64, 65, 66, 67, 68, 69, 70, 71, 72, 73, 74, 75, 76, 77, 78, 79, 80, 81, 82, 83, 84, 85, 86, 87, 88, 89, 90, 91, 92, 93, 94, 95, 96, 97, 98, 99, 100, 101, 102, 103, 104, 105, 106, 107, 108, 109, 110, 111, 112, 113, 114, 115, 116, 117, 118, 119, 120, 121, 122, 123, 124, 125, 126, 127, 128, 129, 130, 131, 132, 133, 134, 135, 136, 137, 138, 139, 140, 141, 142, 143, 144, 145] (fun (p, oA, oc, o) => [(6, .slice oA o.length oc)]) (fun (p, oA, oc, o) w' => PosOk ls p ∧ mP eJ vJ (tot (rsA ls p)) (rsA ls p) (o.map Ce.con) = TG ∧ (∀ u, (o.map Ce.con).getLast? = some u → ∀ j, j < ls.length → Hd ls p j → u.k < (hc ls p j).k) ∧ o.length + tot (rsA ls p) ≤ T0 ∧ (∀ u ∈ o, u.Mix w.heap.size w' ∧ u.LtQ 30) ∧ w'.ownsRow w.heap.size 3 1 (.slice (some ⟨b2, 0, none⟩) n n) n (nums .i64 p) ∧ w'.ownsRow w.heap.size 48 4 (.slice oA o.length oc) o.length (o.flatMap Ce.vs) ∧ Ext w w') (fun (p, oA, oc, o) => tot (rsA ls p)) ((List.replicate ls.length 0, none, 0, [])) (At1 (by first | rfl | exact at_int rfl (by omega) | exact at_slice rfl (by omega) | exact at_int rfl (by simp))) ?_ ?_
    · refine ⟨posn_0, by rw [rsA_0, hTG]; rfl, (fun u hu => by cases hu), by rw [rsA_0, ← eT0]; show 0 + T0 ≤ T0; omega, (fun u hu => by cases hu), hp2, own_nil _ _ _ _, he02⟩
    · rintro ⟨p, oA, oc, o⟩ g w3 ⟨hP, hT, hLast, hSz, hO, hp3, ho3, he3⟩
      have z3 := he3.le
      have hr3 := hr.ext he3
      refine J.block ?_
      refine J.seq ?_
      refine J.region ?_
      refine L.va rfl (X.assign (by conv => lhs; whnf)) ?_
      refine L.va rfl (X.assign (by conv => lhs; whnf)) ?_
      refine L.nil ?_
      refine J.cut (X := Bool × Nat) [7, 8, 9, 31, 32, 33, 34, 35, 36, 37, 38, 39, 40, 41, 42, 43, 44, 45, 46, 47, 48, 49, 50, 51, 52, 53, 54, 55, 56, 57, 58, 59, 60, 61, 62, 63, 64, 65, 66, 67, 68, 69, 70, 71, 72, 73, 74, 75, 76] (fun (sm, lst) => [(7, .bool sm), (8, .int .u64 (lst : Int))]) (fun (sm, lst) w' => (sm = false → ∀ j, j < ls.length → ¬ Hd ls p j) ∧ (sm = true → (∃ j, j < ls.length ∧ Hd ls p j ∧ (hc ls p j).k = lst) ∧ ∀ j, j < ls.length → Hd ls p j → lst ≤ (hc ls p j).k) ∧ Ext w3 w') ?_ ?_
      · refine J.seq ?_
        refine J.region ?_
        refine L.va rfl (X.assign (by conv => lhs; whnf)) ?_
        refine L.nil ?_
        refine J.block ?_
        refine J.loop (X := Nat × Bool × Nat) [7, 8, 9, 31, 32, 33, 34, 35, 36, 37, 38, 39, 40, 41, 42, 43, 44, 45, 46, 47, 48, 49, 50, 51, 52, 53, 54, 55, 56, 57, 58, 59, 60, 61, 62, 63, 64, 65, 66, 67, 68, 69, 70, 71, 72, 73, 74, 75, 76] (fun (i, sm, lst) => [(9, .int .i64 (i : Int)), (7, .bool sm), (8, .int .u64 (lst : Int))]) (fun (i, sm, lst) w' => i ≤ n ∧ (sm = false → ∀ j, j < i → ¬ Hd ls p j) ∧ (sm = true → (∃ j, j < ls.length ∧ Hd ls p j ∧ (hc ls p j).k = lst) ∧ ∀ j, j < i → Hd ls p j → lst ≤ (hc ls p j).k) ∧ Ext w3 w') (fun (i, sm, lst) => n - i) ((0, false, 0)) (At3 (by first | rfl | exact at_int rfl (by omega) | exact at_slice rfl (by omega) | exact at_int rfl (by simp)) (by first | rfl | exact at_int rfl (by omega) | exact at_slice rfl (by omega) | exact at_int rfl (by simp)) (by first | rfl | exact at_int rfl (by omega) | exact at_slice rfl (by omega) | exact at_int rfl (by simp))) ?_ ?_
        · exact ⟨Nat.zero_le _, (fun _ j hj => absurd hj (by omega)), (fun h => by cases h), Ext.refl _⟩
        · rintro ⟨i, sm, lst⟩ g w4 ⟨hi, hn1, hn2, he34⟩
          have he4 := he3.trans he34
          have z4 := he4.le
          have hr4 := hr.ext he4
          have hp4 := hp3.ext he34
          refine J.seq ?_
          refine J.seq ?_
          refine J.region ?_
          refine L.va rfl (X.move (by conv => lhs; whnf)) ?_
          refine L.va rfl (X.move (by conv => lhs; whnf)) ?_
          refine L.va rfl (X.len rfl Try.underlying22) ?_
          refine L.va rfl (X.lss rfl rfl) ?_
          refine L.nil ?_
          refine J.dec rfl (fun hlt => ?_) (fun hlt => ?_)
          · have hil : i < ls.length := by omega
            have gs := gtS (l := ls) (i := i) hil
            have ms := hSS i hil
            have hb := hP.bd i hil
            have hpl := hP.len
            obtain ⟨s, es⟩ : ∃ s, s = ls.getD i ces0 := ⟨_, rfl⟩
            rw [← es] at gs ms hb
            obtain ⟨k, hk⟩ := Int.eq_ofNat_of_zero_le hb.1
            have hA := hr4.some_ (by omega)
            have lx : ∀ w', Ext w4 w' → Ld w' (pA A i) (.slice s.A s.n s.c) := fun w' hw => by have h := Ld.flat2 cs_len (hr4.ext hw) gs (r := 0) rfl; rwa [Nat.mul_one] at h
            have lp : ∀ w', Ext w4 w' → Ld w' (pA (some ⟨b2, 0, none⟩) i) (.int .i64 (k : Int)) := fun w' hw => by have h := Ld.own (hp4.ext hw) (j := i) (by omega); rw [hk] at h; exact h
            have hlen := ms.1.l
            refine J.skip ?_
            refine J.seq ?_
            refine J.block ?_
            refine J.seq ?_
            by_cases hh : k < s.n
            · have hhd : Hd ls p i := by unfold Hd; rw [hk, ← es]; omega
              have gc := gtX (l := s.l) (i := k) (by omega)
              obtain ⟨cc, ecc⟩ : ∃ cc, cc = s.l.getD k ce0 := ⟨_, rfl⟩
              rw [← ecc] at gc
              have ehc : hc ls p i = cc := by unfold hc; rw [← es, hk, Int.toNat_natCast, ecc]
              have hcA := ms.1.r.some_ (by omega)
              have lc : ∀ w', Ext w4 w' → Ld w' (pA s.A (k * 4)) (.int .u64 (cc.k : Int)) := fun w' hw => Ld.flat2 ce_len ((ms.1.r.ext he4).ext hw) gc (r := 0) rfl
              cases sm
              ·
                refine J.quiet mixed (by kernel_rfl) ?_
                refine Qt.va rfl (fun w' hw => X.move (by conv => lhs; whnf)) ?_
                refine Qt.va rfl (fun w' hw => X.move (by conv => lhs; whnf)) ?_
                refine Qt.va rfl (fun w' hw => (by first | exact X.index1n rfl rfl Try.underlying35 sz_3 (by first | exact Option.some_ne_none _ | exact hA) (by omega) | exact X.index1 rfl rfl Try.underlying35 sz_3 (by first | exact Option.some_ne_none _ | exact hA) (by omega))) ?_
                refine Qt.va rfl (fun w' hw => X.load rfl sc_3 (lp w' hw)) ?_
                refine Qt.va rfl (fun w' hw => X.move (by conv => lhs; whnf)) ?_
                refine Qt.va rfl (fun w' hw => X.move (by conv => lhs; whnf)) ?_
                refine Qt.va rfl (fun w' hw => (by first | exact X.index1n rfl rfl Try.underlying22 sz_25 (by first | exact Option.some_ne_none _ | exact hA) (by omega) | exact X.index1 rfl rfl Try.underlying22 sz_25 (by first | exact Option.some_ne_none _ | exact hA) (by omega))) ?_
                refine Qt.va rfl (fun w' hw => X.load rfl sc_25 (lx w' hw)) ?_
                refine Qt.va rfl (fun w' hw => X.len rfl Try.underlying25) ?_
                refine Qt.va rfl (fun w' hw => X.lss rfl rfl) ?_
                refine Qt.va rfl (fun w' hw => X.move (by conv => lhs; whnf)) ?_
                refine Qt.caseDecT (k := 47) rfl (by omega) ?_
                refine Qt.va rfl (fun w' hw => X.move (by conv => lhs; whnf)) ?_
                refine Qt.va rfl (fun w' hw => X.not rfl) ?_
                refine Qt.va rfl (fun w' hw => X.move (by conv => lhs; whnf)) ?_
                refine Qt.caseBT (k := 50) rfl (by rfl) ?_
                refine Qt.no rfl ?_
                refine Qt.no rfl ?_
                refine Qt.no rfl ?_
                refine Qt.no rfl ?_
                refine Qt.no rfl ?_
                refine Qt.no rfl ?_
                refine Qt.no rfl ?_
                refine Qt.no rfl ?_
                refine Qt.no rfl ?_
                refine Qt.no rfl ?_
                refine Qt.no rfl ?_
                refine Qt.no rfl ?_
                refine Qt.no rfl ?_
                refine Qt.va rfl (fun w' hw => X.pickT rfl (by conv => lhs; whnf)) ?_
                refine Qt.va rfl (fun w' hw => X.pickT rfl (by conv => lhs; whnf)) ?_
                refine Qt.nil (fun w5 hq => ?_)
                refine J.iteT rfl ?_
                refine J.quiet mixed (by kernel_rfl) ?_
                refine Qt.va rfl (fun w' hw => X.move (by conv => lhs; whnf)) ?_
                refine Qt.va rfl (fun w' hw => X.move (by conv => lhs; whnf)) ?_
                refine Qt.va rfl (fun w' hw => (by first | exact X.index1n rfl rfl Try.underlying22 sz_25 (by first | exact Option.some_ne_none _ | exact hA) (by omega) | exact X.index1 rfl rfl Try.underlying22 sz_25 (by first | exact Option.some_ne_none _ | exact hA) (by omega))) ?_
                refine Qt.va rfl (fun w' hw => X.load rfl sc_25 (lx w' (hq.trans hw))) ?_
                refine Qt.va rfl (fun w' hw => X.move (by conv => lhs; whnf)) ?_
                refine Qt.va rfl (fun w' hw => X.move (by conv => lhs; whnf)) ?_
                refine Qt.va rfl (fun w' hw => (by first | exact X.index1n rfl rfl Try.underlying35 sz_3 (by first | exact Option.some_ne_none _ | exact hA) (by omega) | exact X.index1 rfl rfl Try.underlying35 sz_3 (by first | exact Option.some_ne_none _ | exact hA) (by omega))) ?_
                refine Qt.va rfl (fun w' hw => X.load rfl sc_3 (lp w' (hq.trans hw))) ?_
                refine Qt.va rfl (fun w' hw => X.indexAddrn (j := k) rfl rfl Try.underlying25 sz_48 hcA (by omega)) ?_
                refine Qt.va rfl (fun w' hw => X.fieldP rfl Try.underlying48 rfl sz_44 (by decide) hcA) ?_
                refine Qt.va rfl (fun w' hw => X.load rfl sc_44 (lc w' (hq.trans hw))) ?_
                refine Qt.va rfl (fun w' hw => X.assign (by conv => lhs; whnf)) ?_
                refine Qt.va rfl (fun w' hw => X.assign (by conv => lhs; whnf)) ?_
                refine Qt.nil (fun w6 hq6 => ?_)
                refine J.region ?_
                refine L.va rfl (X.move (by conv => lhs; whnf)) ?_
                refine L.va rfl (X.add rfl rfl (by omega)) ?_
                refine L.va rfl (X.assign (by conv => lhs; whnf)) ?_
                refine L.nil ?_
                refine ⟨(i + 1, true, cc.k), At3 (by first | rfl | exact at_int rfl (by omega) | exact at_slice rfl (by omega) | exact at_int rfl (by simp)) (by first | rfl | exact at_int rfl (by omega) | exact at_slice rfl (by omega) | exact at_int rfl (by simp)) (by first | rfl | exact at_int rfl (by omega) | exact at_slice rfl (by omega) | exact at_int rfl (by simp)), (by (iterate 51 refine Agr.lk rfl ?_); exact Agr.lk rfl (Agr.hav rfl Agr.rfl')), ?_⟩
                refine ⟨⟨by omega, (fun h => by cases h), fun _ => ⟨⟨i, hil, hhd, by rw [ehc]⟩, fun j hj hjh => ?_⟩, (he34.trans hq).trans hq6⟩, by show n - (i + 1) < n - i; omega⟩
                rcases Nat.lt_or_ge j i with h | h
                · exact absurd hjh (hn1 rfl j h)
                · obtain rfl : j = i := by omega
                  rw [ehc]
                  exact Nat.le_refl _
              ·
                refine J.quiet mixed (by kernel_rfl) ?_
                refine Qt.va rfl (fun w' hw => X.move (by conv => lhs; whnf)) ?_
                refine Qt.va rfl (fun w' hw => X.move (by conv => lhs; whnf)) ?_
                refine Qt.va rfl (fun w' hw => (by first | exact X.index1n rfl rfl Try.underlying35 sz_3 (by first | exact Option.some_ne_none _ | exact hA) (by omega) | exact X.index1 rfl rfl Try.underlying35 sz_3 (by first | exact Option.some_ne_none _ | exact hA) (by omega))) ?_
                refine Qt.va rfl (fun w' hw => X.load rfl sc_3 (lp w' hw)) ?_
                refine Qt.va rfl (fun w' hw => X.move (by conv => lhs; whnf)) ?_
                refine Qt.va rfl (fun w' hw => X.move (by conv => lhs; whnf)) ?_
                refine Qt.va rfl (fun w' hw => (by first | exact X.index1n rfl rfl Try.underlying22 sz_25 (by first | exact Option.some_ne_none _ | exact hA) (by omega) | exact X.index1 rfl rfl Try.underlying22 sz_25 (by first | exact Option.some_ne_none _ | exact hA) (by omega))) ?_
                refine Qt.va rfl (fun w' hw => X.load rfl sc_25 (lx w' hw)) ?_
                refine Qt.va rfl (fun w' hw => X.len rfl Try.underlying25) ?_
                refine Qt.va rfl (fun w' hw => X.lss rfl rfl) ?_
                refine Qt.va rfl (fun w' hw => X.move (by conv => lhs; whnf)) ?_
                refine Qt.caseDecT (k := 47) rfl (by omega) ?_
                refine Qt.va rfl (fun w' hw => X.move (by conv => lhs; whnf)) ?_
                refine Qt.va rfl (fun w' hw => X.not rfl) ?_
                refine Qt.va rfl (fun w' hw => X.move (by conv => lhs; whnf)) ?_
                refine Qt.caseBF (k := 50) rfl (by rfl) ?_
                refine Qt.va rfl (fun w' hw => X.move (by conv => lhs; whnf)) ?_
                refine Qt.va rfl (fun w' hw => X.move (by conv => lhs; whnf)) ?_
                refine Qt.va rfl (fun w' hw => (by first | exact X.index1n rfl rfl Try.underlying22 sz_25 (by first | exact Option.some_ne_none _ | exact hA) (by omega) | exact X.index1 rfl rfl Try.underlying22 sz_25 (by first | exact Option.some_ne_none _ | exact hA) (by omega))) ?_
                refine Qt.va rfl (fun w' hw => X.load rfl sc_25 (lx w' hw)) ?_
                refine Qt.va rfl (fun w' hw => X.move (by conv => lhs; whnf)) ?_
                refine Qt.va rfl (fun w' hw => X.move (by conv => lhs; whnf)) ?_
                refine Qt.va rfl (fun w' hw => (by first | exact X.index1n rfl rfl Try.underlying35 sz_3 (by first | exact Option.some_ne_none _ | exact hA) (by omega) | exact X.index1 rfl rfl Try.underlying35 sz_3 (by first | exact Option.some_ne_none _ | exact hA) (by omega))) ?_
                refine Qt.va rfl (fun w' hw => X.load rfl sc_3 (lp w' hw)) ?_
                refine Qt.va rfl (fun w' hw => X.indexAddrn (j := k) rfl rfl Try.underlying25 sz_48 hcA (by omega)) ?_
                refine Qt.va rfl (fun w' hw => X.fieldP rfl Try.underlying48 rfl sz_44 (by decide) hcA) ?_
                refine Qt.va rfl (fun w' hw => X.load rfl sc_44 (lc w' hw)) ?_
                refine Qt.va rfl (fun w' hw => X.move (by conv => lhs; whnf)) ?_
                refine Qt.va rfl (fun w' hw => X.lss rfl rfl) ?_
                refine Qt.va rfl (fun w' hw => X.pickF rfl (by conv => lhs; whnf)) ?_
                refine Qt.va rfl (fun w' hw => X.pickT rfl (by conv => lhs; whnf)) ?_
                refine Qt.nil (fun w5 hq => ?_)
                refine J.dec rfl (fun hlk => ?_) (fun hlk => ?_)
                ·
                  refine J.quiet mixed (by kernel_rfl) ?_
                  refine Qt.va rfl (fun w' hw => X.move (by conv => lhs; whnf)) ?_
                  refine Qt.va rfl (fun w' hw => X.move (by conv => lhs; whnf)) ?_
                  refine Qt.va rfl (fun w' hw => (by first | exact X.index1n rfl rfl Try.underlying22 sz_25 (by first | exact Option.some_ne_none _ | exact hA) (by omega) | exact X.index1 rfl rfl Try.underlying22 sz_25 (by first | exact Option.some_ne_none _ | exact hA) (by omega))) ?_
                  refine Qt.va rfl (fun w' hw => X.load rfl sc_25 (lx w' (hq.trans hw))) ?_
                  refine Qt.va rfl (fun w' hw => X.move (by conv => lhs; whnf)) ?_
                  refine Qt.va rfl (fun w' hw => X.move (by conv => lhs; whnf)) ?_
                  refine Qt.va rfl (fun w' hw => (by first | exact X.index1n rfl rfl Try.underlying35 sz_3 (by first | exact Option.some_ne_none _ | exact hA) (by omega) | exact X.index1 rfl rfl Try.underlying35 sz_3 (by first | exact Option.some_ne_none _ | exact hA) (by omega))) ?_
                  refine Qt.va rfl (fun w' hw => X.load rfl sc_3 (lp w' (hq.trans hw))) ?_
                  refine Qt.va rfl (fun w' hw => X.indexAddrn (j := k) rfl rfl Try.underlying25 sz_48 hcA (by omega)) ?_
                  refine Qt.va rfl (fun w' hw => X.fieldP rfl Try.underlying48 rfl sz_44 (by decide) hcA) ?_
                  refine Qt.va rfl (fun w' hw => X.load rfl sc_44 (lc w' (hq.trans hw))) ?_
                  refine Qt.va rfl (fun w' hw => X.assign (by conv => lhs; whnf)) ?_
                  refine Qt.va rfl (fun w' hw => X.assign (by conv => lhs; whnf)) ?_
                  refine Qt.nil (fun w6 hq6 => ?_)
                  refine J.region ?_
                  refine L.va rfl (X.move (by conv => lhs; whnf)) ?_
                  refine L.va rfl (X.add rfl rfl (by omega)) ?_
                  refine L.va rfl (X.assign (by conv => lhs; whnf)) ?_
                  refine L.nil ?_
                  refine ⟨(i + 1, true, cc.k), At3 (by first | rfl | exact at_int rfl (by omega) | exact at_slice rfl (by omega) | exact at_int rfl (by simp)) (by first | rfl | exact at_int rfl (by omega) | exact at_slice rfl (by omega) | exact at_int rfl (by simp)) (by first | rfl | exact at_int rfl (by omega) | exact at_slice rfl (by omega) | exact at_int rfl (by simp)), (by (iterate 51 refine Agr.lk rfl ?_); exact Agr.lk rfl (Agr.hav rfl Agr.rfl')), ?_⟩
                  refine ⟨⟨by omega, (fun h => by cases h), fun _ => ⟨⟨i, hil, hhd, by rw [ehc]⟩, fun j hj hjh => ?_⟩, (he34.trans hq).trans hq6⟩, by show n - (i + 1) < n - i; omega⟩
                  rcases Nat.lt_or_ge j i with h | h
                  · have := (hn2 rfl).2 j h hjh
                    omega
                  · obtain rfl : j = i := by omega
                    rw [ehc]
                    exact Nat.le_refl _
                · refine J.skip ?_
                  refine J.region ?_
                  refine L.va rfl (X.move (by conv => lhs; whnf)) ?_
                  refine L.va rfl (X.add rfl rfl (by omega)) ?_
                  refine L.va rfl (X.assign (by conv => lhs; whnf)) ?_
                  refine L.nil ?_
                  refine ⟨(i + 1, true, lst), At3 (by first | rfl | exact at_int rfl (by omega) | exact at_slice rfl (by omega) | exact at_int rfl (by simp)) (by first | rfl | exact at_int rfl (by omega) | exact at_slice rfl (by omega) | exact at_int rfl (by simp)) (by first | rfl | exact at_int rfl (by omega) | exact at_slice rfl (by omega) | exact at_int rfl (by simp)), (by (iterate 38 refine Agr.lk rfl ?_); exact Agr.lk rfl (Agr.hav rfl Agr.rfl')), ?_⟩
                  refine ⟨⟨by omega, (fun h => by cases h), fun _ => ⟨(hn2 rfl).1, fun j hj hjh => ?_⟩, he34.trans hq⟩, by show n - (i + 1) < n - i; omega⟩
                  rcases Nat.lt_or_ge j i with h | h
                  · exact (hn2 rfl).2 j h hjh
                  · obtain rfl : j = i := by omega
                    rw [ehc]
                    omega
            · have hhd : ¬ Hd ls p i := by unfold Hd; rw [hk, ← es]; omega
              refine J.quiet mixed (by kernel_rfl) ?_
              refine Qt.va rfl (fun w' hw => X.move (by conv => lhs; whnf)) ?_
              refine Qt.va rfl (fun w' hw => X.move (by conv => lhs; whnf)) ?_
              refine Qt.va rfl (fun w' hw => (by first | exact X.index1n rfl rfl Try.underlying35 sz_3 (by first | exact Option.some_ne_none _ | exact hA) (by omega) | exact X.index1 rfl rfl Try.underlying35 sz_3 (by first | exact Option.some_ne_none _ | exact hA) (by omega))) ?_
              refine Qt.va rfl (fun w' hw => X.load rfl sc_3 (lp w' hw)) ?_
              refine Qt.va rfl (fun w' hw => X.move (by conv => lhs; whnf)) ?_
              refine Qt.va rfl (fun w' hw => X.move (by conv => lhs; whnf)) ?_
              refine Qt.va rfl (fun w' hw => (by first | exact X.index1n rfl rfl Try.underlying22 sz_25 (by first | exact Option.some_ne_none _ | exact hA) (by omega) | exact X.index1 rfl rfl Try.underlying22 sz_25 (by first | exact Option.some_ne_none _ | exact hA) (by omega))) ?_
              refine Qt.va rfl (fun w' hw => X.load rfl sc_25 (lx w' hw)) ?_
              refine Qt.va rfl (fun w' hw => X.len rfl Try.underlying25) ?_
              refine Qt.va rfl (fun w' hw => X.lss rfl rfl) ?_
              refine Qt.va rfl (fun w' hw => X.move (by conv => lhs; whnf)) ?_
              refine Qt.caseDecF (k := 47) rfl (by omega) ?_
              refine Qt.no rfl ?_
              refine Qt.no rfl ?_
              refine Qt.no rfl ?_
              refine Qt.no rfl ?_
              refine Qt.no rfl ?_
              refine Qt.no rfl ?_
              refine Qt.no rfl ?_
              refine Qt.no rfl ?_
              refine Qt.no rfl ?_
              refine Qt.no rfl ?_
              refine Qt.no rfl ?_
              refine Qt.no rfl ?_
              refine Qt.no rfl ?_
              refine Qt.no rfl ?_
              refine Qt.no rfl ?_
              refine Qt.no rfl ?_
              refine Qt.no rfl ?_
              refine Qt.va rfl (fun w' hw => X.pickF rfl (by conv => lhs; whnf)) ?_
              refine Qt.nil (fun w5 hq => ?_)
              refine J.iteF rfl ?_
              refine J.skip ?_
              refine J.region ?_
              refine L.va rfl (X.move (by conv => lhs; whnf)) ?_
              refine L.va rfl (X.add rfl rfl (by omega)) ?_
              refine L.va rfl (X.assign (by conv => lhs; whnf)) ?_
              refine L.nil ?_
              refine ⟨(i + 1, sm, lst), At3 (by first | rfl | exact at_int rfl (by omega) | exact at_slice rfl (by omega) | exact at_int rfl (by simp)) (by first | rfl | exact at_int rfl (by omega) | exact at_slice rfl (by omega) | exact at_int rfl (by simp)) (by first | rfl | exact at_int rfl (by omega) | exact at_slice rfl (by omega) | exact at_int rfl (by simp)), (by (iterate 37 refine Agr.lk rfl ?_); exact Agr.lk rfl (Agr.hav rfl Agr.rfl')), ?_⟩
              refine ⟨⟨by omega, fun h j hj => ?_, fun h => ⟨(hn2 h).1, fun j hj hjh => ?_⟩, he34.trans hq⟩, by show n - (i + 1) < n - i; omega⟩
              · rcases Nat.lt_or_ge j i with h' | h'
                · exact hn1 h j h'
                · obtain rfl : j = i := by omega
                  exact hhd
              · rcases Nat.lt_or_ge j i with h' | h'
                · exact (hn2 h).2 j h' hjh
                · obtain rfl : j = i := by omega
                  exact absurd hjh hhd
          · refine J.exit ?_
            refine ⟨(sm, lst), At2 (by first | rfl | exact at_int rfl (by omega) | exact at_slice rfl (by omega) | exact at_int rfl (by simp)) (by first | rfl | exact at_int rfl (by omega) | exact at_slice rfl (by omega) | exact at_int rfl (by simp)), (by (iterate 4 refine Agr.lk rfl ?_); refine Agr.lk rfl ?_; refine Agr.hav rfl ?_; (iterate 1 refine Agr.lk rfl ?_); exact Agr.rfl'), ?_⟩
            exact ⟨fun h j hj => hn1 h j (by omega), fun h => ⟨(hn2 h).1, fun j hj => (hn2 h).2 j (by omega)⟩, he34⟩
      · rintro ⟨sm, lst⟩ g w4 ⟨hn1, hn2, he34⟩
        have he4 := he3.trans he34
        have z4 := he4.le
        have hp4 := hp3.ext he34
        have ho4 := ho3.ext he34
        have hO4 : ∀ u ∈ o, u.Mix w.heap.size w4 ∧ u.LtQ 30 := fun u hu => ⟨(hO u hu).1.ext he34, (hO u hu).2⟩
        refine J.seq ?_
        refine J.seq ?_
        refine J.region ?_
        refine L.va rfl (X.move (by conv => lhs; whnf)) ?_
        refine L.va rfl (X.not rfl) ?_
        refine L.nil ?_
        cases sm
        · refine J.iteT rfl ?_
          refine J.seq ?_
          refine J.region ?_
          refine L.va rfl (X.move (by conv => lhs; whnf)) ?_
          refine L.va rfl (X.assign (by conv => lhs; whnf)) ?_
          refine L.va rfl (X.assign (by conv => lhs; whnf)) ?_
          refine L.nil ?_
          refine J.ret ?_
          refine thn_ret <|  inB_ret <|  thn_ret <|  inB_ret <| ?_
          refine fin2 ?_
          have hE := mP_end (E := eJ) (V := vJ) (f := tot (rsA ls p)) (out := o.map Ce.con) (rsA_none hLen hP (hn1 rfl))
          refine ⟨⟨oA, o.length, oc, o⟩, 0, rfl, fun h => by (rw [hra] at h; cases h), fun _ => ?_, ⟨Reads.of_own ho4, fun u hu => (hO4 u hu).1.at z4, rfl, by show o.length ≤ maxLen; unfold maxLen; omega⟩, by show o.length ≤ 10000; omega, fun u hu => (hO4 u hu).2, he4⟩
          rw [← hTG, ← hT, hE]
        · obtain ⟨⟨jw, hjw, hjh, hjk⟩, hleast⟩ := hn2 rfl
          have hlast4 : ∀ u, (o.map Ce.con).getLast? = some u → u.k < lst := fun u hu => by
            rw [← hjk]
            exact hLast u hu jw hjw hjh
          refine J.iteF rfl ?_
          refine J.skip ?_
          refine J.seq ?_
          refine J.region ?_
          refine L.va rfl (X.assign (by conv => lhs; whnf)) ?_
          refine L.nil ?_
          refine J.seq ?_
          refine J.region ?_
          refine L.va rfl (X.build (l := [_, _, _, _]) Evs.nil (bld_run Try.underlying48 (bp_48 Try.underlying48) zr_48 rfl)) ?_
          refine L.alloc rfl zr_48 ?_
          intro b11 w5 hb11 hs11 hk11 he5
          refine L.storeAgg (vs := [_, _, _, _]) rfl rfl rfl rfl sz_48 (hk11) rfl ?_
          intro w6 hk6 hg6 hs6
          have hk6 : Blk w6 b11 48 ce0.vs.toArray := hk6
          have he46 : Ext w4 w6 := he5.grw hg6 (by intro g hg; injection hg with hg; omega)
          have he6 := he4.trans he46
          have z6 := he6.le
          refine L.nil ?_
          refine J.cut (X := List Int × Ce) [2, 3, 10, 12, 13, 14, 15, 81, 82, 83, 84, 85, 86, 87, 88, 89, 90, 91, 92, 93, 94, 95, 96, 97, 98, 99, 100, 101, 102, 103, 104, 105, 106, 107, 108, 109, 110, 111, 112, 113, 114, 115, 116, 117, 118, 119, 120, 121, 122, 123, 124, 125, 126, 127, 128, 129, 130, 131, 132, 133, 134, 135, 136, 137, 138, 139, 140, 141] (fun (p', x) => []) (fun (p', x) w' => PosOk ls p' ∧ mP eJ vJ (tot (rsA ls p')) (rsA ls p') (o.map Ce.con ++ [x.con]) = TG ∧ x.k = lst ∧ (∀ j, j < ls.length → Hd ls p' j → lst < (hc ls p' j).k) ∧ tot (rsA ls p') < tot (rsA ls p) ∧ o.length + 1 + tot (rsA ls p') ≤ T0 ∧ x.Mix w.heap.size w' ∧ x.LtQ 30 ∧ Blk w' b11 48 x.vs.toArray ∧ w'.ownsRow w.heap.size 3 1 (.slice (some ⟨b2, 0, none⟩) n n) n (nums .i64 p') ∧ (∀ u ∈ o, u.Mix w.heap.size w' ∧ u.LtQ 30) ∧ w'.ownsRow w.heap.size 48 4 (.slice oA o.length oc) o.length (o.flatMap Ce.vs) ∧ Ext w w') ?_ ?_
          · refine J.seq ?_
            refine J.region ?_
            refine L.va rfl (X.assign (by conv => lhs; whnf)) ?_
            refine L.nil ?_
            refine J.block ?_
            refine J.loop (X := Nat × Bool × List Int × Ce) [2, 3, 10, 12, 13, 14, 15, 81, 82, 83, 84, 85, 86, 87, 88, 89, 90, 91, 92, 93, 94, 95, 96, 97, 98, 99, 100, 101, 102, 103, 104, 105, 106, 107, 108, 109, 110, 111, 112, 113, 114, 115, 116, 117, 118, 119, 120, 121, 122, 123, 124, 125, 126, 127, 128, 129, 130, 131, 132, 133, 134, 135, 136, 137, 138, 139, 140, 141] (fun (i, fst, p', x) => [(12, .int .i64 (i : Int)), (10, .bool fst)]) (fun (i, fst, p', x) w' => i ≤ n ∧ PosOk ls p' ∧ (∀ j, j < ls.length → Hd ls p' j → lst ≤ (hc ls p' j).k) ∧ (∀ j, j < i → Hd ls p' j → lst < (hc ls p' j).k) ∧ (fst = true → p' = p ∧ ∃ j, i ≤ j ∧ j < ls.length ∧ Hd ls p j ∧ (hc ls p j).k = lst) ∧ (fst = false → mP eJ vJ (tot (rsA ls p')) (rsA ls p') (o.map Ce.con ++ [x.con]) = TG ∧ x.k = lst ∧ tot (rsA ls p') < tot (rsA ls p) ∧ o.length + 1 + tot (rsA ls p') ≤ T0) ∧ x.Mix w.heap.size w' ∧ x.LtQ (20 + i) ∧ Blk w' b11 48 x.vs.toArray ∧ w'.ownsRow w.heap.size 3 1 (.slice (some ⟨b2, 0, none⟩) n n) n (nums .i64 p') ∧ (∀ u ∈ o, u.Mix w.heap.size w' ∧ u.LtQ 30) ∧ w'.ownsRow w.heap.size 48 4 (.slice oA o.length oc) o.length (o.flatMap Ce.vs) ∧ Ext w w') (fun (i, fst, p', x) => n - i) ((0, true, p, ce0)) (At2 (by first | rfl | exact at_int rfl (by omega) | exact at_slice rfl (by omega) | exact at_int rfl (by simp)) (by first | rfl | exact at_int rfl (by omega) | exact at_slice rfl (by omega) | exact at_int rfl (by simp))) ?_ ?_
            · refine ⟨Nat.zero_le _, hP, hleast, (fun j hj => absurd hj (by omega)), fun _ => ⟨rfl, jw, Nat.zero_le _, hjw, hjh, hjk⟩, (fun h => by cases h), .inl ?_, ce0_lt _, hk6, hp4.ext he46, fun u hu => ⟨(hO4 u hu).1.ext he46, (hO4 u hu).2⟩, ho4.ext he46, he6⟩
              exact ⟨by decide, by decide, Reads.none_, (fun y hy => by cases hy), rfl, Nat.zero_le _, Reads.none_, (fun y hy => by cases hy), rfl, Nat.zero_le _⟩
            · rintro ⟨i, fst, p', x⟩ g w7 ⟨hi, hP7, hle7, hlt7, hf1, hf0, hx7, hxL, hk7, hp7, hO7, ho7, he7⟩
              have z7 := he7.le
              have hr7 := hr.ext he7
              refine J.seq ?_
              refine J.seq ?_
              refine J.region ?_
              refine L.va rfl (X.move (by conv => lhs; whnf)) ?_
              refine L.va rfl (X.move (by conv => lhs; whnf)) ?_
              refine L.va rfl (X.len rfl Try.underlying22) ?_
              refine L.va rfl (X.lss rfl rfl) ?_
              refine L.nil ?_
              refine J.dec rfl (fun hlt => ?_) (fun hlt => ?_)
              · have hil : i < ls.length := by omega
                have gs := gtS (l := ls) (i := i) hil
                have ms := hSS i hil
                have hb := hP7.bd i hil
                have hpl := hP7.len
                obtain ⟨s, es⟩ : ∃ s, s = ls.getD i ces0 := ⟨_, rfl⟩
                rw [← es] at gs ms hb
                obtain ⟨k, hk⟩ := Int.eq_ofNat_of_zero_le hb.1
                have hA := hr7.some_ (by omega)
                have lx : ∀ w', Ext w7 w' → Ld w' (pA A i) (.slice s.A s.n s.c) := fun w' hw => by have h := Ld.flat2 cs_len (hr7.ext hw) gs (r := 0) rfl; rwa [Nat.mul_one] at h
                have lp : ∀ w', Ext w7 w' → Ld w' (pA (some ⟨b2, 0, none⟩) i) (.int .i64 (k : Int)) := fun w' hw => by have h := Ld.own (hp7.ext hw) (j := i) (by omega); rw [hk] at h; exact h
                have hlen := ms.1.l
                have skip : (¬ Hd ls p' i ∨ (hc ls p' i).k ≠ lst) → (∀ j, j < i + 1 → Hd ls p' j → lst < (hc ls p' j).k) ∧ (fst = true → p' = p ∧ ∃ j, i + 1 ≤ j ∧ j < ls.length ∧ Hd ls p j ∧ (hc ls p j).k = lst) := fun hno => by
                  refine ⟨fun j hj hjh => ?_, fun h => ?_⟩
                  · rcases Nat.lt_or_ge j i with h' | h'
                    · exact hlt7 j h' hjh
                    · obtain rfl : j = i := by omega
                      have h1 := hle7 j hil hjh
                      rcases hno with hno | hno
                      · exact absurd hjh hno
                      · omega
                  · obtain ⟨rfl, j, hj1, hj2, hj3, hj4⟩ := hf1 h
                    refine ⟨rfl, j, ?_, hj2, hj3, hj4⟩
                    rcases Nat.lt_or_ge i j with h' | h'
                    · exact h'
                    · obtain rfl : j = i := by omega
                      rcases hno with hno | hno
                      · exact absurd hj3 hno
                      · exact absurd hj4 hno
                refine J.skip ?_
                refine J.seq ?_
                refine J.block ?_
                refine J.seq ?_
                refine J.seq ?_
                by_cases hh : k < s.n
                · have hhd : Hd ls p' i := by unfold Hd; rw [hk, ← es]; omega
                  have gc := gtX (l := s.l) (i := k) (by omega)
                  have mc := memD (l := s.l) (i := k) (d := ce0) (by omega)
                  obtain ⟨cc, ecc⟩ : ∃ cc, cc = s.l.getD k ce0 := ⟨_, rfl⟩
                  rw [← ecc] at gc mc
                  have ehc : hc ls p' i = cc := by unfold hc; rw [← es, hk, Int.toNat_natCast, ecc]
                  have hcA := ms.1.r.some_ (by omega)
                  have hcr : ∀ w', Ext w7 w' → Reads w' w.heap.size 4 s.A s.n (s.l.flatMap Ce.vs) := fun w' hw => (ms.1.r.ext he7).ext hw
                  have lc : ∀ w', Ext w7 w' → Ld w' (pA s.A (k * 4)) (.int .u64 (cc.k : Int)) := fun w' hw => Ld.flat2 ce_len (hcr w' hw) gc (r := 0) rfl
                  refine J.quiet mixed (by kernel_rfl) ?_
                  refine Qt.va rfl (fun w' hw => X.move (by conv => lhs; whnf)) ?_
                  refine Qt.va rfl (fun w' hw => X.move (by conv => lhs; whnf)) ?_
                  refine Qt.va rfl (fun w' hw => (by first | exact X.index1n rfl rfl Try.underlying35 sz_3 (by first | exact Option.some_ne_none _ | exact hA) (by omega) | exact X.index1 rfl rfl Try.underlying35 sz_3 (by first | exact Option.some_ne_none _ | exact hA) (by omega))) ?_
                  refine Qt.va rfl (fun w' hw => X.load rfl sc_3 (lp w' hw)) ?_
                  refine Qt.va rfl (fun w' hw => X.move (by conv => lhs; whnf)) ?_
                  refine Qt.va rfl (fun w' hw => X.move (by conv => lhs; whnf)) ?_
                  refine Qt.va rfl (fun w' hw => (by first | exact X.index1n rfl rfl Try.underlying22 sz_25 (by first | exact Option.some_ne_none _ | exact hA) (by omega) | exact X.index1 rfl rfl Try.underlying22 sz_25 (by first | exact Option.some_ne_none _ | exact hA) (by omega))) ?_
                  refine Qt.va rfl (fun w' hw => X.load rfl sc_25 (lx w' hw)) ?_
                  refine Qt.va rfl (fun w' hw => X.len rfl Try.underlying25) ?_
                  refine Qt.va rfl (fun w' hw => X.geq rfl rfl) ?_
                  refine Qt.va rfl (fun w' hw => X.move (by conv => lhs; whnf)) ?_
                  refine Qt.caseDecF (k := 97) rfl (by omega) ?_
                  refine Qt.va rfl (fun w' hw => X.move (by conv => lhs; whnf)) ?_
                  refine Qt.va rfl (fun w' hw => X.move (by conv => lhs; whnf)) ?_
                  refine Qt.va rfl (fun w' hw => (by first | exact X.index1n rfl rfl Try.underlying22 sz_25 (by first | exact Option.some_ne_none _ | exact hA) (by omega) | exact X.index1 rfl rfl Try.underlying22 sz_25 (by first | exact Option.some_ne_none _ | exact hA) (by omega))) ?_
                  refine Qt.va rfl (fun w' hw => X.load rfl sc_25 (lx w' hw)) ?_
                  refine Qt.va rfl (fun w' hw => X.move (by conv => lhs; whnf)) ?_
                  refine Qt.va rfl (fun w' hw => X.move (by conv => lhs; whnf)) ?_
                  refine Qt.va rfl (fun w' hw => (by first | exact X.index1n rfl rfl Try.underlying35 sz_3 (by first | exact Option.some_ne_none _ | exact hA) (by omega) | exact X.index1 rfl rfl Try.underlying35 sz_3 (by first | exact Option.some_ne_none _ | exact hA) (by omega))) ?_
                  refine Qt.va rfl (fun w' hw => X.load rfl sc_3 (lp w' hw)) ?_
                  refine Qt.va rfl (fun w' hw => X.indexAddrn (j := k) rfl rfl Try.underlying25 sz_48 hcA (by omega)) ?_
                  refine Qt.va rfl (fun w' hw => X.fieldP rfl Try.underlying48 rfl sz_44 (by decide) hcA) ?_
                  refine Qt.va rfl (fun w' hw => X.load rfl sc_44 (lc w' hw)) ?_
                  refine Qt.va rfl (fun w' hw => X.move (by conv => lhs; whnf)) ?_
                  refine Qt.va rfl (fun w' hw => X.neq rfl rfl) ?_
                  refine Qt.va rfl (fun w' hw => X.pickF rfl (by conv => lhs; whnf)) ?_
                  refine Qt.nil (fun w8 hq => ?_)
                  have hO8 : ∀ u ∈ o, u.Mix w.heap.size w8 ∧ u.LtQ 30 := fun u hu => ⟨(hO7 u hu).1.ext hq, (hO7 u hu).2⟩
                  refine J.ndec rfl (fun hne => ?_) (fun hne => ?_)
                  · have sk := skip (.inr (by rw [ehc]; omega))
                    refine J.exit ?_
                    refine J.region ?_
                    refine L.va rfl (X.move (by conv => lhs; whnf)) ?_
                    refine L.va rfl (X.add rfl rfl (by omega)) ?_
                    refine L.va rfl (X.assign (by conv => lhs; whnf)) ?_
                    refine L.nil ?_
                    refine ⟨(i + 1, fst, p', x), At2 (by first | rfl | exact at_int rfl (by omega) | exact at_slice rfl (by omega) | exact at_int rfl (by simp)) (by first | rfl | exact at_int rfl (by omega) | exact at_slice rfl (by omega) | exact at_int rfl (by simp)), (by (iterate 33 refine Agr.lk rfl ?_); exact Agr.lk rfl (Agr.hav rfl Agr.rfl')), ?_⟩
                    exact ⟨⟨by omega, hP7, hle7, sk.1, sk.2, hf0, hx7.ext hq, hxL.more (by omega), hk7.ext hq, hp7.ext hq, hO8, ho7.ext hq, he7.trans hq⟩, by show n - (i + 1) < n - i; omega⟩
                  · have hkl : cc.k = lst := by omega
                    obtain ⟨t, hB, hset, htot1⟩ := best_at hLen hP7 hil hhd (fun k hk hkh => by rw [ehc, hkl]; exact hle7 k hk hkh) (fun k hk hkh => by rw [ehc, hkl]; exact hlt7 k hk hkh)
                    rw [ehc] at hB
                    obtain ⟨P, hPe⟩ : ∃ P, P = p'.set i (p'.getD i 0 + 1) := ⟨_, rfl⟩
                    have hPn := posn_next hP7 hil hhd
                    have hki := hc_next hLen hP7 hil (hrise i hil)
                    have hne' := fun (j : Nat) (hj : j ≠ i) => hd_ne (ls := ls) (p := p') (j := i) (v := p'.getD i 0 + 1) (by omega) hj
                    rw [← hPe] at hset htot1 hPn hki hne'
                    rw [ehc, hkl] at hki
                    have hleP : ∀ j, j < ls.length → Hd ls P j → lst ≤ (hc ls P j).k := fun j hj hjh => by
                      by_cases e : j = i
                      · subst e
                        exact Nat.le_of_lt (hki hjh)
                      · rw [(hne' j e).2]
                        exact hle7 j hj ((hne' j e).1.1 hjh)
                    have hltP : ∀ j, j < i + 1 → Hd ls P j → lst < (hc ls P j).k := fun j hj hjh => by
                      by_cases e : j = i
                      · subst e
                        exact hki hjh
                      · rw [(hne' j e).2]
                        exact hlt7 j (by omega) ((hne' j e).1.1 hjh)
                    have hx8 := hx7.ext hq
                    have hk8 := hk7.ext hq
                    have hp8 := hp7.ext hq
                    have ho8 := ho7.ext hq
                    have he8 := he7.trans hq
                    have z8 := he8.le
                    refine J.skip ?_
                    refine J.seq ?_
                    refine J.draw (ℓ := 1000000) (S := Ext w8) mixed (fun w9 hS hS_h => ?_)
                    have z9 := hS.le
                    refine D.va 0 rfl (by kernel_rfl) (fun _ _ _ h => h) rfl (fun w' hw => X.move (by conv => lhs; whnf)) hS ?_
                    refine D.va 1 rfl (by kernel_rfl) (fun _ _ _ h => h) rfl (fun w' hw => X.move (by conv => lhs; whnf)) hS ?_
                    refine D.va 2 rfl (by kernel_rfl) (fun _ _ _ h => h) rfl (fun w' hw => (by first | exact X.index1n rfl rfl Try.underlying22 sz_25 (by first | exact Option.some_ne_none _ | exact hA) (by omega) | exact X.index1 rfl rfl Try.underlying22 sz_25 (by first | exact Option.some_ne_none _ | exact hA) (by omega))) hS ?_
                    refine D.va 3 rfl (by kernel_rfl) (fun _ _ _ h => h) rfl (fun w' hw => X.load rfl sc_25 (lx w' (hq.trans hw))) hS ?_
                    refine D.va 4 rfl (by kernel_rfl) (fun _ _ _ h => h) rfl (fun w' hw => X.move (by conv => lhs; whnf)) hS ?_
                    refine D.va 5 rfl (by kernel_rfl) (fun _ _ _ h => h) rfl (fun w' hw => X.move (by conv => lhs; whnf)) hS ?_
                    refine D.va 6 rfl (by kernel_rfl) (fun _ _ _ h => h) rfl (fun w' hw => (by first | exact X.index1n rfl rfl Try.underlying35 sz_3 (by first | exact Option.some_ne_none _ | exact hA) (by omega) | exact X.index1 rfl rfl Try.underlying35 sz_3 (by first | exact Option.some_ne_none _ | exact hA) (by omega))) hS ?_
                    refine D.va 7 rfl (by kernel_rfl) (fun _ _ _ h => h) rfl (fun w' hw => X.load rfl sc_3 (lp w' (hq.trans hw))) hS ?_
                    refine D.va 8 rfl (by kernel_rfl) (fun _ _ _ h => h) rfl (fun w' hw => X.indexAddrn (j := k) rfl rfl Try.underlying25 sz_48 hcA (by omega)) hS ?_
                    refine D.va 9 rfl (by kernel_rfl) (fun _ _ _ h => h) rfl (fun w' hw => X.loadRow (cs := cc.vs) rfl (hcr w' (hq.trans hw)) (fun r u hu => flat_row ce_len gc r u hu) (Nat.zero_lt_succ _) Try.underlying48 rfl (by kernel_rfl)) hS ?_
                    refine D.one 10 (by kernel_rfl) rfl ?_
                    refine L.alloc rfl zr_48 ?_
                    intro b13 w10 hb13 hs13 hk13 he10
                    have hS1 := hS.trans he10
                    refine L.nil ?_
                    refine ⟨fun _ => hS1, ?_⟩
                    refine D.one 11 (by kernel_rfl) rfl ?_
                    refine L.storeAgg (vs := [_, _, _, _]) rfl rfl rfl rfl sz_48 (hk13) rfl ?_
                    intro w11 hk13' hg11 hs11
                    have hS2 := hS1.grw hg11 (by intro g hg; injection hg with hg; omega)
                    refine L.nil ?_
                    refine ⟨fun _ => hS2, ?_⟩
                    have hk13 : Blk w11 b13 48 cc.vs.toArray := hk13'
                    have e811 : Ext w8 w11 := hS2
                    have hp11 := hp8.ext e811
                    have he11 := he8.trans e811
                    have z11 := he11.le
                    have lk11 := lp w11 (hq.trans e811)
                    refine D.done (by kernel_rfl) ?_
                    refine J.seq ?_
                    refine J.region ?_
                    refine L.va rfl (X.move (by conv => lhs; whnf)) ?_
                    refine L.va rfl (X.move (by conv => lhs; whnf)) ?_
                    refine L.va rfl (X.move (by conv => lhs; whnf)) ?_
                    refine L.va rfl (X.move (by conv => lhs; whnf)) ?_
                    refine L.va rfl ((by first | exact X.index1n rfl rfl Try.underlying35 sz_3 (by first | exact Option.some_ne_none _ | exact hA) (by omega) | exact X.index1 rfl rfl Try.underlying35 sz_3 (by first | exact Option.some_ne_none _ | exact hA) (by omega))) ?_
                    refine L.va rfl (X.load rfl sc_3 lk11) ?_
                    refine L.va rfl (X.add rfl rfl (by omega)) ?_
                    refine L.va rfl ((by first | exact X.index1n rfl rfl Try.underlying35 sz_3 (by first | exact Option.some_ne_none _ | exact hA) (by omega) | exact X.index1 rfl rfl Try.underlying35 sz_3 (by first | exact Option.some_ne_none _ | exact hA) (by omega))) ?_
                    refine L.storeON rfl rfl (by conv => lhs; whnf) sz_3 (hp11) (by omega) ?_
                    intro w12 hp12 hg12 hb12 hs12
                    have hp12 : w12.ownsRow w.heap.size 3 1 (.slice (some ⟨b2, 0, none⟩) n n) n (nums .i64 P) := by rw [hPe, hk]; exact hp12
                    have hB12 : Below w.heap.size w11 w12 := hb12
                    have hC12 : TCh 3 w11 w12 := TCh.row hp11 hg12
                    have he12 := he11.grw hg12 (fun g hg => (hp11.lt g hg).1)
                    have z12 := he12.le
                    have hx12 := (hx8.ext e811).put hB12 hC12 (by decide)
                    have hk12 := hC12.blk (hk8.ext e811) (by decide)
                    have hk312 := hC12.blk hk13 (by decide)
                    have ho12 := hC12.own (ho8.ext e811) (by decide)
                    have hO12 : ∀ u ∈ o, u.Mix w.heap.size w12 ∧ u.LtQ 30 := fun u hu => ⟨((hO8 u hu).1.ext e811).put hB12 hC12 (by decide), (hO8 u hu).2⟩
                    have hcc : cc.At w.heap.size w12 := (ms.1.h cc mc).ext he12
                    have hcL : cc.LtQ 20 := ms.2.2.2 cc mc
                    have zb11 := hk12.lt
                    refine L.nil ?_
                    refine J.seq ?_
                    refine J.seq ?_
                    refine J.region ?_
                    refine L.va rfl (X.move (by conv => lhs; whnf)) ?_
                    refine L.nil ?_
                    cases fst
                    · obtain ⟨hT7, hxk, htot7, hSz7⟩ := hf0 rfl
                      refine J.iteF rfl ?_
                      refine J.skip ?_
                      refine J.seq ?_
                      refine J.region ?_
                      refine L.va rfl (X.loadAgg rfl (range_l hk12) Try.underlying48 rfl (by kernel_rfl)) ?_
                      refine L.va rfl (X.loadAgg rfl (range_l hk312) Try.underlying48 rfl (by kernel_rfl)) ?_
                      have c13 := rjoin14 (x := x) (y := cc) (q := 20 + i) (w := w12) (Nat.le_refl _) (hx12.at z12) (hcc.more z12) hxL (hcL.more (by omega)) (by omega)
                      refine L.call rfl en_21 rfl (c13) ?_
                      rintro e w13 ⟨z, rfl, hzc, hzM, hzL, he13⟩
                      refine ⟨_, rfl, ?_⟩
                      have he13 : Ext w12 w13 := he13
                      refine L.va rfl (X.move (by conv => lhs; whnf)) ?_
                      refine L.va rfl (X.extract rfl rfl) ?_
                      refine L.va rfl (X.extract rfl rfl) ?_
                      refine L.alloc rfl zr_48 ?_
                      intro b14 w14 hb14 hs14 hk14 he14
                      refine L.storeAgg (vs := [_, _, _, _]) rfl rfl rfl rfl sz_48 (hk14) rfl ?_
                      intro w15 hk15 hg15 hs15
                      have hk15 : Blk w15 b14 48 z.vs.toArray := hk15
                      have he1315 : Ext w13 w15 := he14.grw hg15 (by intro g hg; injection hg with hg; omega)
                      have he1215 := he13.trans he1315
                      have he15 := he12.trans he1215
                      have z15 := he15.le
                      have hk1115 := hk12.ext he1215
                      refine L.va rfl (X.assign (by conv => lhs; whnf)) ?_
                      refine L.nil ?_
                      refine J.seq ?_
                      refine J.seq ?_
                      refine J.region ?_
                      refine L.va rfl (X.move (by conv => lhs; whnf)) ?_
                      refine L.va rfl (X.neq rfl rfl) ?_
                      refine L.nil ?_
                      refine J.ndec rfl (fun herr => ?_) (fun herr => ?_)
                      · refine J.seq ?_
                        refine J.region ?_
                        refine L.va rfl (X.move (by conv => lhs; whnf)) ?_
                        refine L.va rfl (X.assign (by conv => lhs; whnf)) ?_
                        refine L.va rfl (X.assign (by conv => lhs; whnf)) ?_
                        refine L.nil ?_
                        refine J.ret ?_
                        refine thn_ret <|  inB_ret <|  thn_ret <|  thn_ret <|  inB_ret <|  thn_ret <|  inB_ret <|  thn_ret <|  inB_ret <| ?_
                        refine fin2 ?_
                        refine ⟨⟨none, 0, 0, []⟩, eJ x.con cc.con, rfl, fun h => by (rw [hra] at h; cases h), fun _ => ?_, ⟨Reads.of_own (own_nil _ 0 0 4), (fun x hx => by cases hx), rfl, Nat.zero_le _⟩, Nat.zero_le _, (fun x hx => by cases hx), he15⟩
                        rw [htot1, mP_err hB (show x.con.k = cc.con.k from hxk.trans hkl.symm) herr] at hT7
                        rw [← hTG, ← hT7]
                        rfl
                      · have herr : eJ x.con cc.con = 0 := by omega
                        refine J.skip ?_
                        refine J.region ?_
                        refine L.va rfl (X.loadAgg rfl (range_l hk15) Try.underlying48 rfl (by kernel_rfl)) ?_
                        refine L.storeAgg (vs := [_, _, _, _]) rfl rfl rfl rfl sz_48 (hk1115) rfl ?_
                        intro w16 hk16 hg16 hs16
                        have hk16 : Blk w16 b11 48 z.vs.toArray := hk16
                        have hC16 : TCh 48 w15 w16 := TCh.put hk1115 hg16
                        have hB16 : Below w.heap.size w15 w16 := below_put hg16 (by omega) z15
                        have he16 : Ext w w16 := he15.grw hg16 (by intro g hg; injection hg with hg; omega)
                        have zL30 : z.LtQ 30 := hzL.more (by omega)
                        have hzX : z.Mix w.heap.size w16 := Ce.Mix.put (.inr (((hzM.low z12).ownQ zL30).ext he1315)) hB16 hC16 (by decide)
                        have hzk : z.k = lst := by
                          have h1 := congrArg Con.k hzc
                          rw [hV3 herr] at h1
                          exact h1.trans hxk
                        rw [htot1, mP_join hB (show x.con.k = cc.con.k from hxk.trans hkl.symm) herr, ← hset, ← hzc] at hT7
                        refine L.nil ?_
                        refine J.region ?_
                        refine L.va rfl (X.move (by conv => lhs; whnf)) ?_
                        refine L.va rfl (X.add rfl rfl (by omega)) ?_
                        refine L.va rfl (X.assign (by conv => lhs; whnf)) ?_
                        refine L.nil ?_
                        refine ⟨(i + 1, false, P, z), At2 (by first | rfl | exact at_int rfl (by omega) | exact at_slice rfl (by omega) | exact at_int rfl (by simp)) (by first | rfl | exact at_int rfl (by omega) | exact at_slice rfl (by omega) | exact at_int rfl (by simp)), (by (iterate 64 refine Agr.lk rfl ?_); exact Agr.lk rfl (Agr.hav rfl Agr.rfl')), ?_⟩
                        exact ⟨⟨by omega, hPn, hleP, hltP, (fun h => by cases h), fun _ => ⟨hT7, hzk, by omega, by omega⟩, hzX, hzL.more (by omega), hk16, hC16.own (hp12.ext he1215) (by decide), fun u hu => ⟨((hO12 u hu).1.ext he1215).put hB16 hC16 (by decide), (hO12 u hu).2⟩, (ho12.ext he1215).kept hg16 (.inr (fun e => by have := (ho4.lt _ e).2; omega)), he16⟩, by show n - (i + 1) < n - i; omega⟩
                    · obtain ⟨rfl, _⟩ := hf1 rfl
                      refine J.iteT rfl ?_
                      refine J.seq ?_
                      refine J.region ?_
                      refine L.va rfl (X.loadAgg rfl (range_l hk312) Try.underlying48 rfl (by kernel_rfl)) ?_
                      refine L.storeAgg (vs := [_, _, _, _]) rfl rfl rfl rfl sz_48 (hk12) rfl ?_
                      intro w16 hk16 hg16 hs16
                      have hk16 : Blk w16 b11 48 cc.vs.toArray := hk16
                      have hC16 : TCh 48 w12 w16 := TCh.put hk12 hg16
                      have hB16 : Below w.heap.size w12 w16 := below_put hg16 (by omega) z12
                      have he16 : Ext w w16 := he12.grw hg16 (by intro g hg; injection hg with hg; omega)
                      have hT7 := hT
                      rw [htot1, mP_push hB (fun u hu => by have := hlast4 u hu; show u.k ≠ cc.k; omega), ← hset] at hT7
                      refine L.va rfl (X.assign (by conv => lhs; whnf)) ?_
                      refine L.nil ?_
                      refine J.exit ?_
                      refine J.region ?_
                      refine L.va rfl (X.move (by conv => lhs; whnf)) ?_
                      refine L.va rfl (X.add rfl rfl (by omega)) ?_
                      refine L.va rfl (X.assign (by conv => lhs; whnf)) ?_
                      refine L.nil ?_
                      refine ⟨(i + 1, false, P, cc), At2 (by first | rfl | exact at_int rfl (by omega) | exact at_slice rfl (by omega) | exact at_int rfl (by simp)) (by first | rfl | exact at_int rfl (by omega) | exact at_slice rfl (by omega) | exact at_int rfl (by simp)), (by (iterate 55 refine Agr.lk rfl ?_); exact Agr.lk rfl (Agr.hav rfl Agr.rfl')), ?_⟩
                      exact ⟨⟨by omega, hPn, hleP, hltP, (fun h => by cases h), fun _ => ⟨hT7, hkl, by omega, by omega⟩, .inl (hcc.low hB16 (Nat.le_refl _)), hcL.more (by omega), hk16, hC16.own hp12 (by decide), fun u hu => ⟨(hO12 u hu).1.put hB16 hC16 (by decide), (hO12 u hu).2⟩, ho12.kept hg16 (.inr (fun e => by have := (ho4.lt _ e).2; omega)), he16⟩, by show n - (i + 1) < n - i; omega⟩
                · have hhd : ¬ Hd ls p' i := by unfold Hd; rw [hk, ← es]; omega
                  have sk := skip (.inl hhd)
                  refine J.quiet mixed (by kernel_rfl) ?_
                  refine Qt.va rfl (fun w' hw => X.move (by conv => lhs; whnf)) ?_
                  refine Qt.va rfl (fun w' hw => X.move (by conv => lhs; whnf)) ?_
                  refine Qt.va rfl (fun w' hw => (by first | exact X.index1n rfl rfl Try.underlying35 sz_3 (by first | exact Option.some_ne_none _ | exact hA) (by omega) | exact X.index1 rfl rfl Try.underlying35 sz_3 (by first | exact Option.some_ne_none _ | exact hA) (by omega))) ?_
                  refine Qt.va rfl (fun w' hw => X.load rfl sc_3 (lp w' hw)) ?_
                  refine Qt.va rfl (fun w' hw => X.move (by conv => lhs; whnf)) ?_
                  refine Qt.va rfl (fun w' hw => X.move (by conv => lhs; whnf)) ?_
                  refine Qt.va rfl (fun w' hw => (by first | exact X.index1n rfl rfl Try.underlying22 sz_25 (by first | exact Option.some_ne_none _ | exact hA) (by omega) | exact X.index1 rfl rfl Try.underlying22 sz_25 (by first | exact Option.some_ne_none _ | exact hA) (by omega))) ?_
                  refine Qt.va rfl (fun w' hw => X.load rfl sc_25 (lx w' hw)) ?_
                  refine Qt.va rfl (fun w' hw => X.len rfl Try.underlying25) ?_
                  refine Qt.va rfl (fun w' hw => X.geq rfl rfl) ?_
                  refine Qt.va rfl (fun w' hw => X.move (by conv => lhs; whnf)) ?_
                  refine Qt.caseDecT (k := 97) rfl (by omega) ?_
                  refine Qt.no rfl ?_
                  refine Qt.no rfl ?_
                  refine Qt.no rfl ?_
                  refine Qt.no rfl ?_
                  refine Qt.no rfl ?_
                  refine Qt.no rfl ?_
                  refine Qt.no rfl ?_
                  refine Qt.no rfl ?_
                  refine Qt.no rfl ?_
                  refine Qt.no rfl ?_
                  refine Qt.no rfl ?_
                  refine Qt.no rfl ?_
                  refine Qt.no rfl ?_
                  refine Qt.va rfl (fun w' hw => X.pickT rfl (by conv => lhs; whnf)) ?_
                  refine Qt.nil (fun w8 hq => ?_)
                  refine J.iteT rfl ?_
                  refine J.exit ?_
                  refine J.region ?_
                  refine L.va rfl (X.move (by conv => lhs; whnf)) ?_
                  refine L.va rfl (X.add rfl rfl (by omega)) ?_
                  refine L.va rfl (X.assign (by conv => lhs; whnf)) ?_
                  refine L.nil ?_
                  refine ⟨(i + 1, fst, p', x), At2 (by first | rfl | exact at_int rfl (by omega) | exact at_slice rfl (by omega) | exact at_int rfl (by simp)) (by first | rfl | exact at_int rfl (by omega) | exact at_slice rfl (by omega) | exact at_int rfl (by simp)), (by (iterate 33 refine Agr.lk rfl ?_); exact Agr.lk rfl (Agr.hav rfl Agr.rfl')), ?_⟩
                  exact ⟨⟨by omega, hP7, hle7, sk.1, sk.2, hf0, hx7.ext hq, hxL.more (by omega), hk7.ext hq, hp7.ext hq, fun u hu => ⟨(hO7 u hu).1.ext hq, (hO7 u hu).2⟩, ho7.ext hq, he7.trans hq⟩, by show n - (i + 1) < n - i; omega⟩
              · have hin : i = ls.length := by omega
                have hf : fst = false := by
                  cases fst with
                  | false => rfl
                  | true =>
                    obtain ⟨_, j, hj1, hj2, _⟩ := hf1 rfl
                    omega
                obtain ⟨hf01, hf02, hf03, hf04⟩ := hf0 hf
                refine J.exit ?_
                refine ⟨(p', x), At0 , (by (iterate 4 refine Agr.lk rfl ?_); refine Agr.lk rfl ?_; refine Agr.hav rfl ?_; (iterate 1 refine Agr.lk rfl ?_); exact Agr.rfl'), ?_⟩
                exact ⟨hP7, hf01, hf02, fun j hj => hlt7 j (by omega), hf03, hf04, hx7, hxL.more (by omega), hk7, hp7, hO7, ho7, he7⟩
          · rintro ⟨p', x⟩ g w7 ⟨hP7, hT7, hxk, hlt7, htot, hSz7, hx7, hxL, hk7, hp7, hO7, ho7, he7⟩
            have z7 := he7.le
            refine J.region ?_
            refine L.va rfl (X.move (by conv => lhs; whnf)) ?_
            refine L.va rfl (X.loadAgg rfl (range_l hk7) Try.underlying48 rfl (by kernel_rfl)) ?_
            refine L.bslice1 (l := [_, _, _, _]) rfl rfl rfl Try.underlying25 sz_48 zr_48 rfl ?_
            intro b8 w8 hb8 hs8 hk8 he8
            have ho8 := ho7.ext he8
            have hp8 := hp7.ext he8
            have he08 := he7.trans he8
            have z8 := he08.le
            refine L.appendV (q := o.length + 1) (ys := ((o ++ [x]).flatMap Ce.vs)) rfl rfl rfl Try.underlying25 el_48 (ho8) ((blk_readsN (sz := 4) (q := 1) (l := x.vs) hk8 hk8.lt rfl)) (by first | rfl | exact strs_ones _ | assumption) (by omega) (by simp) (by unfold maxLen; omega) (by omega) ?_
            intro A9 c9 w9 ho9 hg9 hb9 hor9
            have hC9 : TCh 48 w8 w9 := TCh.row ho8 hg9
            have hB9 : Below w.heap.size w8 w9 := hb9
            have he9 := he08.grw hg9 (fun g hg => (ho8.lt g hg).1)
            have ll : (o ++ [x]).length = o.length + 1 := by rw [List.length_append]; rfl
            refine L.va rfl (X.assign (by conv => lhs; whnf)) ?_
            refine L.nil ?_
            refine ⟨(p', A9, c9, o ++ [x]), At1 (at_slice rfl ll.symm), (by (iterate 5 refine Agr.lk rfl ?_); refine Agr.lk rfl ?_; refine Agr.hav rfl ?_; (iterate 5 refine Agr.lk rfl ?_); refine Agr.lk rfl ?_; refine Agr.hav rfl ?_; (iterate 2 refine Agr.lk rfl ?_); exact Agr.lk rfl (Agr.hav rfl Agr.rfl')), ?_⟩
            refine ⟨⟨hP7, by rw [List.map_append]; exact hT7, fun u hu j hj hjh => ?_, by rw [ll]; exact hSz7, fun u hu => ?_, hC9.own hp8 (by decide), by rw [ll]; exact ho9, he9⟩, htot⟩
            · rw [last_snoc hu]
              show x.k < _
              rw [hxk]
              exact hlt7 j hj hjh
            · rcases List.mem_append.1 hu with hu | hu
              · exact ⟨((hO7 u hu).1.ext he8).put hB9 hC9 (by decide), (hO7 u hu).2⟩
              · rw [List.mem_singleton] at hu
                rw [hu]
                exact ⟨(hx7.ext he8).put hB9 hC9 (by decide), hxL⟩
end Go.Proofs.Ytnndkepnabddgaa
namespace Go.Proofs.Ytnndkepnabddgaa
set_option maxRecDepth 100000
open Go.RowKit H
set_option linter.unusedVariables false
theorem con_atC {l : List Ce} (i : Nat) : (l.map Ce.con).getD i con0 = (l.getD i ce0).con := by
  rw [List.getD, List.getD, List.getElem?_map]
  cases l[i]? <;> rfl
theorem rsame15 {a b : Ces} {w : World} {N : Nat} (ha : a.At N w) (hb : b.At N w) (hN : N ≤ w.heap.size) (hm : a.n ≤ 1000000) (hs : ∀ x ∈ a.l, x.ni ≤ 1000000 ∧ x.nr ≤ 1000000) : Calls Try.prog 9 #[a.val, b.val] w fun e w' => e = .returned (.bool (sameL a.con b.con)) ∧ Ext w w' := by
  have la := ha.l
  have lb := hb.l
  refine enter Try.func9 rfl (by kernel_rfl) ?_
  refine J.seq ?_
  refine J.region ?_
  refine L.va rfl (X.assign (by conv => lhs; whnf)) ?_
  refine L.nil ?_
  refine J.seq ?_
  refine J.seq ?_
  refine J.region ?_
  refine L.va rfl (X.move (by conv => lhs; whnf)) ?_
  refine L.va rfl (X.len rfl Try.underlying25) ?_
  refine L.va rfl (X.move (by conv => lhs; whnf)) ?_
  refine L.va rfl (X.len rfl Try.underlying25) ?_
  refine L.va rfl (X.neq rfl rfl) ?_
  refine L.nil ?_
  refine J.ndec rfl (fun h1 => ?_) (fun h1 => ?_)
  · have e : sameL a.con b.con = false := eqL_len (by show (a.l.map Ce.con).length ≠ (b.l.map Ce.con).length; rw [List.length_map, List.length_map]; omega)
    rw [e]
    refine J.seq ?_
    refine J.region ?_
    refine L.va rfl (X.assign (by conv => lhs; whnf)) ?_
    refine L.nil ?_
    refine J.ret ?_
    refine thn_ret <| ?_
    refine fin1 ?_
    exact ⟨rfl, Ext.refl _⟩
  · have hn : a.n = b.n := by omega
    refine J.skip ?_
    refine J.seq ?_
    refine J.seq ?_
    refine J.region ?_
    refine L.va rfl (X.assign (by conv => lhs; whnf)) ?_
    refine L.nil ?_
    refine J.block ?_
    refine J.loop (X := Nat) [4, 5, 11, 12, 13, 14, 15, 16, 17, 18, 19, 20, 21, 22, 23, 24, 25, 26] (fun i => [(5, .int .i64 (i : Int))]) (fun i w' => i ≤ a.n ∧ (∀ j, j < i → sameC (a.l.getD j ce0).con (b.l.getD j ce0).con = true) ∧ Ext w w') (fun i => a.n - i) (0) (At1 (by first | rfl | exact at_int rfl (by omega) | exact at_slice rfl (by omega) | exact at_int rfl (by simp))) ?_ ?_
    · exact ⟨Nat.zero_le _, fun j hj => absurd hj (by omega), Ext.refl _⟩
    · rintro i g w2 ⟨hi, hP, he⟩
      have z := he.le
      have hra := ha.r.ext he
      have hrb := hb.r.ext he
      refine J.seq ?_
      refine J.seq ?_
      refine J.region ?_
      refine L.va rfl (X.move (by conv => lhs; whnf)) ?_
      refine L.va rfl (X.move (by conv => lhs; whnf)) ?_
      refine L.va rfl (X.len rfl Try.underlying25) ?_
      refine L.va rfl (X.lss rfl rfl) ?_
      refine L.nil ?_
      refine J.dec rfl (fun hlt => ?_) (fun hlt => ?_)
      · have hin : i < a.n := by omega
        have hA := hra.some_ (by omega)
        have hB := hrb.some_ (by omega)
        have gx := gtX (l := a.l) (i := i) (by omega)
        have gy := gtX (l := b.l) (i := i) (by omega)
        have hX := (ha.one (i := i) hin).ext he
        have hY := (hb.one (i := i) (by omega)).ext he
        have hmx := hs _ (memD (d := ce0) (show i < a.l.length by omega))
        generalize ex : a.l.getD i ce0 = p at gx hX hmx
        generalize ey : b.l.getD i ce0 = q at gy hY
        have cS : ∀ w', Ext w2 w' → Calls Try.prog 22 #[p.val, q.val] w' fun e w'' => e = .returned (.bool (sameC p.con q.con)) ∧ Ext w' w'' := fun w' hw => rsame14 (hX.ext hw) (hY.ext hw) (by have := hw.le; omega) hmx
        refine J.skip ?_
        refine J.seq ?_
        refine J.block ?_
        refine J.seq ?_
        refine J.quiet mixed (by kernel_rfl) ?_
        refine Qt.va rfl (fun w' hw => X.move (by conv => lhs; whnf)) ?_
        refine Qt.va rfl (fun w' hw => X.move (by conv => lhs; whnf)) ?_
        refine Qt.va rfl (fun w' hw => (by first | exact X.indexAddrn rfl rfl Try.underlying25 sz_48 (by first | exact Option.some_ne_none _ | exact hA | exact hB) (by omega) | exact X.indexAddr rfl rfl Try.underlying25 sz_48 (by first | exact Option.some_ne_none _ | exact hA | exact hB) (by omega))) ?_
        refine Qt.va rfl (fun w' hw => X.loadRow (cs := p.vs) rfl (hra.ext hw) (fun r u hu => flat_row ce_len gx r u hu) (Nat.zero_lt_succ _) Try.underlying48 rfl (by kernel_rfl)) ?_
        refine Qt.va rfl (fun w' hw => X.move (by conv => lhs; whnf)) ?_
        refine Qt.va rfl (fun w' hw => X.move (by conv => lhs; whnf)) ?_
        refine Qt.va rfl (fun w' hw => (by first | exact X.indexAddrn rfl rfl Try.underlying25 sz_48 (by first | exact Option.some_ne_none _ | exact hA | exact hB) (by omega) | exact X.indexAddr rfl rfl Try.underlying25 sz_48 (by first | exact Option.some_ne_none _ | exact hA | exact hB) (by omega))) ?_
        refine Qt.va rfl (fun w' hw => X.loadRow (cs := q.vs) rfl (hrb.ext hw) (fun r u hu => flat_row ce_len gy r u hu) (Nat.zero_lt_succ _) Try.underlying48 rfl (by kernel_rfl)) ?_
        refine Qt.call rfl en_22 rfl (fun w' hw => calls_ext hw (cS w' hw)) ?_
        refine Qt.va rfl (fun w' hw => X.not rfl) ?_
        refine Qt.nil (fun w3 hq => ?_)
        have he3 := he.trans hq
        cases hk : sameC p.con q.con
        · refine J.iteT rfl ?_
          have e : sameL a.con b.con = false := eqL_no (i := i) (by show i < (a.l.map Ce.con).length; rw [List.length_map]; omega) (by
            show sameC ((a.l.map Ce.con).getD i con0) ((b.l.map Ce.con).getD i con0) = false
            rw [con_atC, con_atC, ex, ey]
            exact hk)
          rw [e]
          refine J.seq ?_
          refine J.region ?_
          refine L.va rfl (X.assign (by conv => lhs; whnf)) ?_
          refine L.nil ?_
          refine J.ret ?_
          refine inB_ret <|  thn_ret <|  thn_ret <|  inB_ret <|  thn_ret <| ?_
          refine fin1 ?_
          exact ⟨rfl, he3⟩
        · refine J.iteF rfl ?_
          refine J.skip ?_
          refine J.region ?_
          refine L.va rfl (X.move (by conv => lhs; whnf)) ?_
          refine L.va rfl (X.add rfl rfl (by omega)) ?_
          refine L.va rfl (X.assign (by conv => lhs; whnf)) ?_
          refine L.nil ?_
          refine ⟨i + 1, At1 (by first | rfl | exact at_int rfl (by omega) | exact at_slice rfl (by omega) | exact at_int rfl (by simp)), (by (iterate 17 refine Agr.lk rfl ?_); exact Agr.lk rfl (Agr.hav rfl Agr.rfl')), ?_⟩
          refine ⟨⟨by omega, fun j hj => ?_, he3⟩, by omega⟩
          rcases Nat.lt_or_ge j i with h | h
          · exact hP j h
          · obtain rfl : j = i := by omega
            rw [ex, ey]
            exact hk
      · obtain rfl : i = a.n := by omega
        have e : sameL a.con b.con = true := eqL_yes (by show (a.l.map Ce.con).length = (b.l.map Ce.con).length; rw [List.length_map, List.length_map]; omega) (fun j hj => by
          show sameC ((a.l.map Ce.con).getD j con0) ((b.l.map Ce.con).getD j con0) = true
          rw [con_atC, con_atC]
          exact hP j (by have : j < (a.l.map Ce.con).length := hj; rw [List.length_map] at this; omega))
        rw [e]
        refine J.exit ?_
        refine J.seq ?_
        refine J.region ?_
        refine L.va rfl (X.assign (by conv => lhs; whnf)) ?_
        refine L.nil ?_
        refine J.ret ?_
        refine fin1 ?_
        exact ⟨rfl, he⟩
end Go.Proofs.Ytnndkepnabddgaa
namespace Go.Proofs.Ytnndkepnabddgaa
set_option maxRecDepth 100000
open Go.RowKit H
open Odr Tou HeapK
set_option linter.unusedVariables false
theorem tleast (s : Bys) (k : Int) (w : World) (hs : s.At w.heap.size w) (hn : s.n ≤ 900000) : Calls Try.prog 13 #[s.val, .int .i64 k] w fun e w' => ∃ A m c o, e = .returned (.slice A m c) ∧ w'.ownsRow w.heap.size 3 1 (.slice A m c) m (nums .i64 o) ∧ Firsts (ahL s.ks) s.n m o ∧ m = min s.n k.toNat ∧ Ext w w' := by
  have hR := ahL_ord s.ks
  refine enter Try.func13 rfl (by kernel_rfl) ?_
  refine J.seq ?_
  refine J.region ?_
  refine L.va rfl (X.assign (by conv => lhs; whnf)) ?_
  refine L.nil ?_
  refine J.seq ?_
  refine J.seq ?_
  refine J.region ?_
  refine L.va rfl (X.move (by conv => lhs; whnf)) ?_
  refine L.va rfl (X.lss rfl rfl) ?_
  refine L.nil ?_
  refine J.dec rfl (fun hk => ?_) (fun hk => ?_)
  · refine J.seq ?_
    refine J.region ?_
    refine L.va rfl (X.assign (by conv => lhs; whnf)) ?_
    refine L.nil ?_
    refine J.ret ?_
    refine thn_ret <| ?_
    refine fin1 ?_
    exact ⟨none, 0, 0, [], rfl, own_nil _ _ _ _, ⟨rfl, fun j hj => absurd hj (by omega)⟩, by omega, Ext.refl _⟩
  · obtain ⟨q, rfl⟩ := Int.eq_ofNat_of_zero_le (show 0 ≤ k by omega)
    refine J.skip ?_
    refine J.seq ?_
    refine J.region ?_
    refine L.va rfl (X.move (by conv => lhs; whnf)) ?_
    refine L.va rfl (X.build (l := [_, _]) (Evs.cons (by conv => lhs; whnf) Evs.nil) (bld_run Try.underlying59 (bp_59 Try.underlying59) zr_59 rfl)) ?_
    refine L.boxA (l := [_, _]) rfl rfl ?_
    intro d w1 hd1 hs1 hk1 he1
    have B1 : Bq s w.heap.size d (none, 0) w1 [] := ⟨hk1, own_nil _ _ _ _, hs.ext he1, by omega, (fun x hx => by cases hx), hn, Nat.zero_le _⟩
    have hx := B1.tch_ge
    refine L.va rfl (X.assign (by conv => lhs; whnf)) ?_
    refine L.nil ?_
    refine J.seq ?_
    refine J.seq ?_
    refine J.region ?_
    refine L.va rfl (X.move (by conv => lhs; whnf)) ?_
    refine L.va rfl (X.len rfl Try.underlying38) ?_
    refine L.va rfl (X.move (by conv => lhs; whnf)) ?_
    refine L.nil ?_
    refine J.block ?_
    refine J.loop (X := Nat × List Int × (Option Addr × Nat)) [6, 16, 17, 18, 19, 20, 21, 22, 23, 24, 25, 26, 27, 28, 29, 30, 31, 32, 33, 34, 35, 36, 37, 38, 39, 40, 41, 42, 43, 44, 45, 46] (fun (i, l, a) => [(16, .int .i64 (i : Int))]) (fun (i, l, a) w' => i ≤ s.n ∧ In1 (ahL s.ks) s.n i q l ∧ Bq s w.heap.size d a w' l ∧ Below w.heap.size w w') (fun (i, _) => s.n - i) ((0, [], (none, 0))) (At1 (by first | rfl | exact at_int rfl (by omega) | exact at_slice rfl (by omega) | exact at_int rfl (by simp))) ?_ ?_
    · exact ⟨Nat.zero_le _, In1.nil _ _, B1, he1⟩
    · rintro ⟨i, l, a⟩ g w2 ⟨hi, hI, H, hB⟩
      refine J.seq ?_
      refine J.region ?_
      refine L.va rfl (X.lss rfl rfl) ?_
      refine L.nil ?_
      refine J.seq ?_
      refine J.dec rfl (fun hlt => ?_) (fun hlt => ?_)
      · have hin : i < s.n := by omega
        have hln := hI.ln
        have c1 := H.len_
        refine J.skip ?_
        refine J.seq ?_
        refine J.block ?_
        refine J.seq ?_
        refine J.region ?_
        refine L.va rfl (X.move (by conv => lhs; whnf)) ?_
        refine L.va rfl (X.assign (by conv => lhs; whnf)) ?_
        refine L.nil ?_
        refine J.seq ?_
        refine J.region ?_
        refine L.va rfl (X.move (by conv => lhs; whnf)) ?_
        refine L.call rfl en_26 rfl (c1) ?_
        rintro e _ ⟨rfl, rfl⟩
        refine ⟨_, rfl, ?_⟩
        refine L.va rfl (X.move (by conv => lhs; whnf)) ?_
        refine L.va rfl (X.lss rfl rfl) ?_
        refine L.nil ?_
        refine J.dec rfl (fun hq => ?_) (fun hq => ?_)
        · refine J.region ?_
          refine L.va rfl (X.move (by conv => lhs; whnf)) ?_
          refine L.va rfl (X.mkI rfl Try.underlying57 rfl) ?_
          refine L.va rfl (X.move (by conv => lhs; whnf)) ?_
          refine L.va rfl (X.mkI rfl Try.underlying3 rfl) ?_
          refine L.call rfl en_27 rfl (H.hpush (by omega) (x := (i : Int)) (by omega)) ?_
          rintro e w3 ⟨rfl, a', H3, hC, _⟩
          refine ⟨_, rfl, ?_⟩
          refine L.nil ?_
          refine J.region ?_
          refine L.va rfl (X.add rfl rfl (by omega)) ?_
          refine L.va rfl (X.move (by conv => lhs; whnf)) ?_
          refine L.nil ?_
          refine ⟨(i + 1, siftUk (kap (ahL s.ks) s.n) (l.length + 1) (l ++ [(i : Int)]) l.length, a'), At1 (by first | rfl | exact at_int rfl (by omega) | exact at_slice rfl (by omega) | exact at_int rfl (by simp)), (by (iterate 14 refine Agr.lk rfl ?_); exact Agr.lk rfl (Agr.hav rfl Agr.rfl')), ?_⟩
          exact ⟨⟨by omega, hI.add (by omega), H3, hB.trans (hC.below H.lo H.tch_ge)⟩, by show s.n - (i + 1) < s.n - i; omega⟩
        · have hlq : l.length = q := by have := hI.ln; omega
          have h0 := H.at_ (i := 0) (by omega)
          have hr := Reads.of_own H.hf
          have hb := H.hb
          have hA := hr.some_ (by omega)
          refine J.seq ?_
          refine J.region ?_
          refine L.va rfl (X.move (by conv => lhs; whnf)) ?_
          refine L.va rfl (X.move (by conv => lhs; whnf)) ?_
          refine L.va rfl (X.move (by conv => lhs; whnf)) ?_
          refine L.va rfl (X.nilCheck rfl) ?_
          refine L.va rfl (X.fieldAddr rfl Try.underlying59 rfl sz_35 (by decide)) ?_
          refine L.va rfl (X.load rfl sc_35 (by first | exact Ld.blk hb rfl | exact Ld.num hr (by omega) | exact hA)) ?_
          refine L.va rfl (X.index1n (j := 0) rfl rfl Try.underlying35 sz_3 (by first | exact Option.some_ne_none _ | exact hr.some_ (by omega) | exact hA) (by omega)) ?_
          refine L.va rfl (X.load rfl sc_3 (by first | exact Ld.blk hb rfl | exact Ld.num hr (by omega) | exact hA)) ?_
          refine L.call rfl en_28 rfl (taheadI s (i : Int) (l.getD 0 0) w2 (H.hs.more H.lo) (by omega) h0) ?_
          rintro e w3 ⟨rfl, he3⟩
          refine ⟨_, rfl, ?_⟩
          have H3 := H.ext he3
          refine L.nil ?_
          cases ha : ahL s.ks (i : Int).toNat (l.getD 0 0).toNat
          · refine J.iteF rfl ?_
            refine J.skip ?_
            refine J.region ?_
            refine L.va rfl (X.add rfl rfl (by omega)) ?_
            refine L.va rfl (X.move (by conv => lhs; whnf)) ?_
            refine L.nil ?_
            refine ⟨(i + 1, l, a), At1 (by first | rfl | exact at_int rfl (by omega) | exact at_slice rfl (by omega) | exact at_int rfl (by simp)), (by (iterate 18 refine Agr.lk rfl ?_); exact Agr.lk rfl (Agr.hav rfl Agr.rfl')), ?_⟩
            exact ⟨⟨by omega, hI.skip hR hin hlq (by omega) (by simpa using ha), H3, hB.trans (he3.mono H.lo)⟩, by show s.n - (i + 1) < s.n - i; omega⟩
          · have hb3 := H3.hb
            refine J.iteT rfl ?_
            refine J.seq ?_
            refine J.region ?_
            refine L.va rfl (X.move (by conv => lhs; whnf)) ?_
            refine L.va rfl (X.nilCheck rfl) ?_
            refine L.va rfl (X.fieldAddr rfl Try.underlying59 rfl sz_35 (by decide)) ?_
            refine L.va rfl (X.load rfl sc_35 (by first | exact Ld.blk hb3 rfl | exact hA)) ?_
            refine L.va rfl (X.move (by conv => lhs; whnf)) ?_
            refine L.va rfl (X.index1n (j := 0) rfl rfl Try.underlying35 sz_3 (by first | exact Option.some_ne_none _ | exact hA) (by omega)) ?_
            refine L.storeON rfl rfl (by conv => lhs; whnf) sz_3 (H3.hf) (by omega) ?_
            intro w4 ho4 hg4 hb4 hs4
            have hls : (l.set 0 (i : Int)).length = l.length := List.length_set ..
            have hg4' : Chg (Tch d a) w3 w4 := .of_grown hg4 (fun g hg => tch_own hg)
            have hB4 := hB.trans ((he3.mono H.lo).trans (hg4'.below H3.lo H3.tch_ge))
            have H4 : Bq s w.heap.size d a w4 (l.set 0 (i : Int)) := ⟨by rw [hls]; exact hb3.grown hg4 (fun e => own_blk_ne H3.hf hb3 (by decide) e.symm), by rw [hls]; exact ho4, H3.hs.below (hg4'.below H3.lo H3.tch_ge), H.hd, (fun x hx => by
              rcases List.mem_or_eq_of_mem_set hx with hx | rfl
              · exact H.el x hx
              · omega), hn, by rw [hls]; exact H.bl⟩
            have c5 := (Bq.kit s w.heap.size d a).fix_ H4 (by omega)
            rw [hls] at c5
            refine L.nil ?_
            refine J.region ?_
            refine L.va rfl (X.move (by conv => lhs; whnf)) ?_
            refine L.va rfl (X.mkI rfl Try.underlying57 rfl) ?_
            refine L.call rfl en_29 rfl (c5) ?_
            rintro e w5 ⟨rfl, H5, hC5⟩
            refine ⟨_, rfl, ?_⟩
            refine L.nil ?_
            refine J.region ?_
            refine L.va rfl (X.add rfl rfl (by omega)) ?_
            refine L.va rfl (X.move (by conv => lhs; whnf)) ?_
            refine L.nil ?_
            refine ⟨(i + 1, siftDk (kap (ahL s.ks) s.n) l.length (l.set 0 (i : Int)) 0 l.length, a), At1 (by first | rfl | exact at_int rfl (by omega) | exact at_slice rfl (by omega) | exact at_int rfl (by simp)), (by (iterate 27 refine Agr.lk rfl ?_); exact Agr.lk rfl (Agr.hav rfl Agr.rfl')), ?_⟩
            exact ⟨⟨by omega, hI.put hR hin hlq (by omega) (by simpa using ha), H5, hB4.trans (hC5.below H4.lo H4.tch_ge)⟩, by show s.n - (i + 1) < s.n - i; omega⟩
      · obtain rfl : i = s.n := by omega
        have hln := hI.ln
        have I2 := hI.last hR
        have c1 := H.len_
        refine J.exit ?_
        refine J.seq ?_
        refine J.region ?_
        refine L.va rfl (X.move (by conv => lhs; whnf)) ?_
        refine L.call rfl en_26 rfl (c1) ?_
        rintro e _ ⟨rfl, rfl⟩
        refine ⟨_, rfl, ?_⟩
        refine L.make (q := l.length) (c := l.length) rfl rfl rfl Try.underlying35 el_3 (by omega) ?_
        intro b3 w3 hb3 hs3 hk3 he3
        rw [made_nums] at hk3
        have hlo := H.lo
        have hbl := H.bl
        have hbs : w2.heap.size = b3 := by omega
        have hlm : l.length ≤ maxLen := by unfold maxLen; omega
        have ho3 : w3.ownsRow w.heap.size 3 1 (.slice (some ⟨b3, 0, none⟩) l.length l.length) l.length (nums .i64 (List.replicate l.length 0)) := blk_own1 (q := l.length) hk3 (by omega) hlm (by simp [nums])
        have hne : ¬ Tch d a b3 := by
          rintro (e | e)
          · have := H.hb.lt; omega
          · have := (H.hf.lt b3 ((own_n _ _ _ _).trans e)).2; omega
        have H3 := H.ext he3
        have hB3 := hB.trans (he3.mono hlo)
        obtain ⟨m, hm⟩ : ∃ m, m = l.length := ⟨_, rfl⟩
        rw [← hm] at ho3 hlm hln I2
        refine L.va rfl (X.assign (by conv => lhs; whnf)) ?_
        refine L.nil ?_
        refine J.seq ?_
        refine J.seq ?_
        refine J.region ?_
        refine L.va rfl (X.move (by conv => lhs; whnf)) ?_
        refine L.va rfl (X.len rfl Try.underlying35) ?_
        refine L.va rfl (X.sub rfl rfl (by omega)) ?_
        refine L.va rfl (X.assign (by conv => lhs; whnf)) ?_
        refine L.nil ?_
        refine J.block ?_
        refine J.loop (X := Nat × List Int × List Int) [8, 53, 54, 55, 56, 57, 58, 59, 60, 61, 62, 63] (fun (p, l, o) => [(8, .int .i64 ((p : Int) - 1))]) (fun (p, l, o) w' => p ≤ m ∧ In2 (ahL s.ks) s.n p l ∧ Bq s w.heap.size d a w' l ∧ Below w.heap.size w w' ∧ o.length = m ∧ (∀ j, p ≤ j → j < m → 0 ≤ o.getD j 0 ∧ o.getD j 0 < (s.n : Int) ∧ pos (ahL s.ks) s.n (o.getD j 0).toNat = j) ∧ w'.ownsRow w.heap.size 3 1 (.slice (some ⟨b3, 0, none⟩) m m) m (nums .i64 o)) (fun (p, _) => p) ((m, l, List.replicate m 0)) (At1 (by first | rfl | exact at_int rfl (by omega) | exact at_slice rfl (by omega) | exact at_int rfl (by simp))) ?_ ?_
        · exact ⟨Nat.le_refl _, I2, H3, hB3, List.length_replicate .., fun j h1 h2 => by omega, ho3⟩
        · rintro ⟨p, l2, o⟩ g w4 ⟨hp, I4, H4, hB4, hol, hof, ho4⟩
          refine J.seq ?_
          refine J.seq ?_
          refine J.region ?_
          refine L.va rfl (X.move (by conv => lhs; whnf)) ?_
          refine L.va rfl (X.geq rfl rfl) ?_
          refine L.nil ?_
          refine J.dec rfl (fun hge => ?_) (fun hge => ?_)
          · obtain ⟨p', rfl⟩ : ∃ p', p = p' + 1 := ⟨p - 1, by omega⟩
            obtain ⟨⟨r0, r1, r2⟩, I5⟩ := I4.pop hR
            have hl2 := I4.ln
            refine J.skip ?_
            refine J.seq ?_
            refine J.block ?_
            refine J.region ?_
            refine L.va rfl (X.move (by conv => lhs; whnf)) ?_
            refine L.va rfl (X.move (by conv => lhs; whnf)) ?_
            refine L.va rfl (X.move (by conv => lhs; whnf)) ?_
            refine L.va rfl (X.mkI rfl Try.underlying57 rfl) ?_
            refine L.call rfl en_30 rfl ((Bq.kit s w.heap.size d a).pop_ H4 (by omega)) ?_
            rintro e w5 ⟨rfl, H5, hC5⟩
            refine ⟨_, rfl, ?_⟩
            have ho5 := hC5.own ho4 (fun g hg => by injection hg with hg; subst hg; exact hne)
            have hB5 := hB4.trans (hC5.below H4.lo H4.tch_ge)
            refine L.va rfl (X.assert rfl Try.underlying3 rfl) ?_
            refine L.va rfl (X.index1n (j := p') rfl (show Value.int .i64 (((p' + 1 : Nat) : Int) - 1) = _ from by rw [show (((p' + 1 : Nat) : Int) - 1) = (p' : Int) by omega]) Try.underlying35 sz_3 (fun h => by cases h) (by omega)) ?_
            refine L.storeON rfl rfl (by conv => lhs; whnf) sz_3 (ho5) (by omega) ?_
            intro w6 ho6 hg6 hb6 hs6
            have hC6 : Chg (fun g => g = b3) w5 w6 := .of_grown hg6 (fun g hg => by injection hg with hg; exact hg.symm)
            have hwb : w.heap.size ≤ b3 := by omega
            have H6 := H5.chg hC6 (fun g h1 h2 => hne (h2 ▸ h1)) (fun g hg => by omega)
            have hB6 := hB5.trans (hC6.below H5.lo (fun g hg => by omega))
            refine L.nil ?_
            refine J.region ?_
            refine L.va rfl (X.move (by conv => lhs; whnf)) ?_
            refine L.va rfl (X.sub rfl rfl (by omega)) ?_
            refine L.va rfl (X.assign (by conv => lhs; whnf)) ?_
            refine L.nil ?_
            refine ⟨(p', (siftDk (kap (ahL s.ks) s.n) l2.length (swp l2 0 (l2.length - 1)) 0 (l2.length - 1)).take (l2.length - 1), o.set p' (l2.getD 0 0)), At1 (by first | rfl | exact at_int rfl (by omega) | exact at_slice rfl (by omega) | exact at_int rfl (by simp)), (by (iterate 12 refine Agr.lk rfl ?_); exact Agr.lk rfl (Agr.hav rfl Agr.rfl')), ?_⟩
            refine ⟨⟨by omega, I5, H6, hB6, by rw [List.length_set]; exact hol, fun j h1 h2 => ?_, ho6⟩, by show p' < p' + 1; omega⟩
            rw [getD_set _ _ _ _ (by omega)]
            by_cases e : p' = j
            · subst e
              rw [if_pos rfl]
              exact ⟨r0, r1, r2⟩
            · rw [if_neg e]
              exact hof j (by omega) h2
          · obtain rfl : p = 0 := by omega
            refine J.exit ?_
            refine J.seq ?_
            refine J.region ?_
            refine L.va rfl (X.move (by conv => lhs; whnf)) ?_
            refine L.va rfl (X.assign (by conv => lhs; whnf)) ?_
            refine L.nil ?_
            refine J.ret ?_
            refine fin1 ?_
            subst hm
            exact ⟨_, _, _, o, rfl, ho4, ⟨hol, fun j hj => hof j (Nat.zero_le _) hj⟩, by omega, hB4⟩
end Go.Proofs.Ytnndkepnabddgaa
namespace Go.Proofs.Ytnndkepnabddgaa
set_option maxRecDepth 100000
open Go.RowKit H
set_option linter.unusedVariables false
theorem run_mark {P : Program} {w : World} {t e : TypeId} {g n c : Nat} {cs : Array Value} (hb : Blk w g e cs) (ht : P.underlying t = some (.slice e)) (he : P.underlying e = some (.int .u8)) :
    (convert t t (.slice (some ⟨g, 0, none⟩) n c)).run P w = .ok (.slice (some ⟨g, 0, none⟩) n c) (w.freeze ⟨g, cs.size, none⟩ 1) := by
  have hsh : w.shape? g = some (e, cs.size) := by
    unfold World.shape?
    rw [show w.heap[g]? = _ from hb]
  simp [convert, run_underlying ht, run_underlying he, markStringish, hsh]
theorem freeze_at {w : World} {g e : Nat} {cs : Array Value} (hb : Blk w g e cs) : (w.freeze ⟨g, cs.size, none⟩ 1).heap[g]? = some (.cells cs e (cs.size, cs.size + 1)) := by
  have hlt := hb.lt
  unfold World.freeze
  rw [if_neg (by decide)]
  show (w.heap.modify g _)[g]? = _
  rw [Array.getElem?_eq_getElem (by rw [Array.size_modify]; exact hlt), Array.getElem_modify_self]
  have hk : w.heap[g] = .cells cs e (0, 0) := by
    have := hb
    unfold Blk at this
    rw [Array.getElem?_eq_getElem hlt] at this
    exact Option.some.inj this
  rw [hk]
  rfl
theorem freeze_grown (w : World) (g k : Nat) : w.grownBy (w.freeze ⟨g, k, none⟩ 1) (some g) := by
  unfold World.freeze
  rw [if_neg (by decide)]
  refine ⟨rfl, rfl, rfl, by show w.heap.size ≤ (w.heap.modify g _).size; rw [Array.size_modify]; exact Nat.le_refl _, fun j hj hne => ?_⟩
  show (w.heap.modify g _)[j]? = _
  rw [Array.getElem?_modify, if_neg (fun e => hne (by rw [e]))]
theorem L.mark {P : Program} {n : Nat} {ops rest : List Oper} {Q : Exit → Fr → World → Prop} {f : Fr} {w : World} {d : Option Tmp} {ty : TypeId} {pos : String} {aft : Array Edge} {gd : Option (Nat × Bool)} {x : Operand} {t e : TypeId} {g m c q : Nat} {cs : Array Value} (hg : wn ops f gd = true) (hx : ev f x = .slice (some ⟨g, 0, none⟩) m c) (hb : Blk w g e cs) (hq : cs.size = q)
    (ht : P.underlying t = some (.slice e)) (he : P.underlying e = some (.int .u8))
    (h : ∀ w', Reads w' (g + 1) 1 (some ⟨g, 0, none⟩) q cs.toList → w.grownBy w' (some g) → L P n ops Q rest (putO f d (.slice (some ⟨g, 0, none⟩) m c)) w') : L P n ops Q (⟨d, .convert t t x, ty, pos, aft, gd⟩ :: rest) f w := by
  refine L.val hg (w' := w.freeze ⟨g, cs.size, none⟩ 1) (v := .slice (some ⟨g, 0, none⟩) m c) ?_ (h _ ?_ (freeze_grown w g _))
  · have := run_mark (n := m) (c := c) hb ht he
    simp only [execOp, hx]
    simp [this]
  · subst hq
    refine ⟨by simp, fun _ => ⟨⟨g, 0, none⟩, rfl, Nat.lt_succ_self _, fun j u hu => ?_⟩⟩
    have := cell_of_row _ g j cs e _ (freeze_at hb)
    rw [Addr.add_mid, Nat.zero_add, this]
    simpa using hu
end Go.Proofs.Ytnndkepnabddgaa
namespace Go.Proofs.Ytnndkepnabddgaa
set_option maxRecDepth 100000
open Go.RowKit H
open Odr Tou HeapK
set_option linter.unusedVariables false
theorem le_maxL {n : Nat} (h : n ≤ 100) : n ≤ maxLen := by unfold maxLen; omega
def ks16 : List (List Int) := [[98], [97], [98], [97, 97]]
theorem first16 : Firsts (ahL ks16) 4 2 [1, 3] := by
  refine ⟨rfl, ?_⟩
  decide
theorem awake16 (w : World) : Calls Try.prog 6 #[] w fun e w' => e = .returned (.bool true) ∧ Ext w w' := by
  refine enter Try.func6 rfl (by kernel_rfl) ?_
  refine J.seq ?_
  refine J.region ?_
  refine L.va rfl (X.assign (by conv => lhs; whnf)) ?_
  refine L.nil ?_
  refine J.seq ?_
  refine J.region ?_
  refine L.bslice (vs := [_]) rfl (Evs.cons (by conv => lhs; whnf) Evs.nil) rfl rfl rfl rfl Try.underlying37 sz_5 zr_5 (by decide) ?_
  intro b1 w1 hb1 hs1 hk1 he1
  refine L.mark rfl rfl (hk1) rfl Try.underlying37 Try.underlying5 ?_
  intro v1 hr1 hg1
  have hx1 : Ext w v1 := he1.grw hg1 (by intro g hg; injection hg with hg; omega)
  have hz1 : b1 + 1 ≤ v1.heap.size := by have := hg1.size; omega
  refine L.bslice (vs := [_]) rfl (Evs.cons (by conv => lhs; whnf) Evs.nil) rfl rfl rfl rfl Try.underlying37 sz_5 zr_5 (by decide) ?_
  intro b2 w2 hb2 hs2 hk2 he2
  refine L.mark rfl rfl (hk2) rfl Try.underlying37 Try.underlying5 ?_
  intro v2 hr2 hg2
  have hx2 : Ext v1 v2 := he2.grw hg2 (by intro g hg; injection hg with hg; omega)
  have hz2 : b2 + 1 ≤ v2.heap.size := by have := hg2.size; omega
  refine L.bslice (vs := [_]) rfl (Evs.cons (by conv => lhs; whnf) Evs.nil) rfl rfl rfl rfl Try.underlying37 sz_5 zr_5 (by decide) ?_
  intro b3 w3 hb3 hs3 hk3 he3
  refine L.mark rfl rfl (hk3) rfl Try.underlying37 Try.underlying5 ?_
  intro v3 hr3 hg3
  have hx3 : Ext v2 v3 := he3.grw hg3 (by intro g hg; injection hg with hg; omega)
  have hz3 : b3 + 1 ≤ v3.heap.size := by have := hg3.size; omega
  refine L.bslice (vs := [_, _]) rfl (Evs.cons (by conv => lhs; whnf) (Evs.cons (by conv => lhs; whnf) Evs.nil)) rfl rfl rfl rfl Try.underlying37 sz_5 zr_5 (by decide) ?_
  intro b4 w4 hb4 hs4 hk4 he4
  refine L.mark rfl rfl (hk4) rfl Try.underlying37 Try.underlying5 ?_
  intro v4 hr4 hg4
  have hx4 : Ext v3 v4 := he4.grw hg4 (by intro g hg; injection hg with hg; omega)
  have hz4 : b4 + 1 ≤ v4.heap.size := by have := hg4.size; omega
  refine L.bslice (vs := [_, _, _, _]) rfl (Evs.cons (by conv => lhs; whnf) (Evs.cons (by conv => lhs; whnf) (Evs.cons (by conv => lhs; whnf) (Evs.cons (by conv => lhs; whnf) Evs.nil)))) rfl rfl rfl rfl Try.underlying38 sz_37 zr_37 (by decide) ?_
  intro b5 w5 hb5 hs5 hk5 he5
  have hx3' := hx4.trans he5
  have hx2' := hx3.trans hx3'
  have hx1' := hx2.trans hx2'
  have hr1' := (hr1.ext hx1').more (Nat.le_trans hz1 hx1'.le)
  have hr2' := (hr2.ext hx2').more (Nat.le_trans hz2 hx2'.le)
  have hr3' := (hr3.ext hx3').more (Nat.le_trans hz3 hx3'.le)
  have hr4' := (hr4.ext he5).more (Nat.le_trans hz4 he5.le)
  have he05 := hx1.trans hx1'
  obtain ⟨s, hs⟩ : ∃ s : Bys, s = ⟨some ⟨b5, 0, none⟩, 4, 4, [⟨some ⟨b1, 0, none⟩, 1, 1, [98]⟩, ⟨some ⟨b2, 0, none⟩, 1, 1, [97]⟩, ⟨some ⟨b3, 0, none⟩, 1, 1, [98]⟩, ⟨some ⟨b4, 0, none⟩, 2, 2, [97, 97]⟩]⟩ := ⟨_, rfl⟩
  have hA : s.At w5.heap.size w5 := by
    rw [hs]
    refine ⟨?_, ?_, rfl, le_maxL (n := 4) (by decide)⟩
    · exact blk_readsN (sz := 1) (q := 4) hk5 hk5.lt rfl
    · intro x hx
      simp only [List.mem_cons, List.not_mem_nil, or_false] at hx
      rcases hx with rfl | rfl | rfl | rfl
      · exact ⟨hr1', le_maxL (n := 1) (by decide)⟩
      · exact ⟨hr2', le_maxL (n := 1) (by decide)⟩
      · exact ⟨hr3', le_maxL (n := 1) (by decide)⟩
      · exact ⟨hr4', le_maxL (n := 2) (by decide)⟩
  have c1 := tleast s 2 w5 hA (by rw [hs]; show 4 ≤ 900000; decide)
  rw [show s.ks = ks16 by rw [hs]; rfl, show s.n = 4 by rw [hs]] at c1
  rw [show s.val = .slice (some ⟨b5, 0, none⟩) 4 4 by rw [hs]] at c1
  refine L.call rfl en_13 rfl (c1) ?_
  rintro e w6 ⟨A6, m6, c6, o6, rfl, ho6, hf6, hm6, he6⟩
  refine ⟨_, rfl, ?_⟩
  obtain rfl : m6 = 2 := hm6
  obtain rfl : o6 = [1, 3] := hf6.unique (ahL_ord _) first16
  refine L.bslice (vs := [_, _]) rfl (Evs.cons (by conv => lhs; whnf) (Evs.cons (by conv => lhs; whnf) Evs.nil)) rfl rfl rfl rfl Try.underlying35 sz_3 zr_3 (by decide) ?_
  intro b7 w7 hb7 hs7 hk7 he7
  have ho7 := ho6.ext he7
  refine L.call rfl en_12 rfl (ints16 _ _ _ _ _ _ _ [1, 3] w7 (Reads.of_own ho7) (blk_readsN (sz := 1) (q := 2) (l := nums .i64 [1, 3]) hk7 hk7.lt rfl) (by unfold maxLen; omega) (by unfold maxLen; omega)) ?_
  rintro e w8 ⟨rfl, he8⟩
  refine ⟨_, rfl, ?_⟩
  rw [eqI_self]
  refine L.va rfl (X.assign (by conv => lhs; whnf)) ?_
  refine L.nil ?_
  refine J.ret ?_
  refine fin1 ?_
  exact ⟨rfl, ((he05.trans he6).trans he7).trans he8⟩
end Go.Proofs.Ytnndkepnabddgaa
namespace Go.Proofs.Ytnndkepnabddgaa
set_option maxRecDepth 100000
open Go.RowKit H
open Tmg
set_option linter.unusedVariables false
theorem law_TourneyMerges (w : World) (A0 : Option Addr) (n0 c0 : Nat) (xs0 : List (List CeT)) (hn0 : n0 ≤ c0) (hc0 : c0 ≤ maxLen) (hA0 : A0 = none → c0 = 0) (hl0 : LiesSlice w w.heap.size A0 n0 xs0) :
    Calls Try.prog 3 #[.slice A0 n0 c0] w fun e w' => e = .returned (.bool true) ∧ Below w.heap.size w w' := by
  obtain ⟨ls, hll, hr, hs⟩ := lists_of hl0
  have hmx := Nat.le_trans hn0 hc0
  refine enter Try.func3 rfl (by kernel_rfl) ?_
  refine J.seq ?_
  refine J.region ?_
  refine L.va rfl (X.assign (by conv => lhs; whnf)) ?_
  refine L.nil ?_
  refine J.seq ?_
  refine J.seq ?_
  refine J.region ?_
  refine L.va rfl (X.move (by conv => lhs; whnf)) ?_
  have K1 := rlight16 A0 n0 c0 ls hr (fun s h => (hs s h).1) hll (Nat.le_refl _) hmx
  refine L.call rfl en_5 rfl (K1) ?_
  rintro e w1 ⟨he1, z1, rfl, hz1⟩
  refine ⟨_, rfl, ?_⟩
  have he1 : Ext w w1 := he1
  refine L.va rfl (X.not rfl) ?_
  refine L.nil ?_
  by_cases k1 : z1 = true
  · subst k1
    obtain ⟨hn8, hL⟩ := hz1 rfl
    have q1 := he1.le
    refine J.iteF rfl ?_
    refine J.skip ?_
    refine J.seq ?_
    refine J.region ?_
    refine L.va rfl (X.move (by conv => lhs; whnf)) ?_
    have K2 := tmerge A0 n0 c0 ls w1 ((hr.ext he1).more q1) (fun s h => ⟨((hs s h).1.ext he1).more q1, (hs s h).2, by have := (hL s h).1; omega, fun x hx => ((hL s h).2 x hx).q⟩) hll hn8
    refine L.call rfl en_7 rfl (K2) ?_
    rintro e w2 ⟨t, zt, rfl, ht0, ht1, htA, htn, he2⟩
    refine ⟨_, rfl, ?_⟩
    have he2 : Ext w1 w2 := he2
    have he02 := he1.trans he2
    have q2 := he02.le
    have K3 := rmerge16 A0 n0 c0 ls w2 ((hr.ext he02).more q2) (fun s h => ⟨((hs s h).1.ext he02).more q2, (hs s h).2, by have := (hL s h).1; omega, fun x hx => ((hL s h).2 x hx).q⟩) hll hn8
    refine L.va rfl (X.move (by conv => lhs; whnf)) ?_
    refine L.va rfl (X.extract rfl rfl) ?_
    refine L.va rfl (X.extract rfl rfl) ?_
    refine L.va rfl (X.assign (by conv => lhs; whnf)) ?_
    refine L.va rfl (X.assign (by conv => lhs; whnf)) ?_
    refine L.nil ?_
    refine J.seq ?_
    refine J.region ?_
    refine L.va rfl (X.move (by conv => lhs; whnf)) ?_
    refine L.call rfl en_8 rfl (K3) ?_
    rintro e w3 ⟨a, za, rfl, ha0, ha1, haA, han, haL, he3⟩
    refine ⟨_, rfl, ?_⟩
    have he3 : Ext w2 w3 := he3
    have he03 := he02.trans he3
    have hsame : t.con = a.con ∧ zt = za := by
      cases hra : riseAll ls with
      | false =>
        have h1 := ht0 hra
        have h2 := ha0 hra
        exact ⟨h1.2.trans h2.2.symm, h1.1.trans h2.1.symm⟩
      | true =>
        have h := (ht1 hra).trans (ha1 hra).symm
        injection h with h1 h2
        exact ⟨h1, h2⟩
    obtain ⟨hcon, rfl⟩ := hsame
    have ht3 := (htA.ext he3).more he3.le
    have K := rsame15 (a := t) (b := a) (w := w3) ht3 haA (Nat.le_refl _) (by omega) (fun x hx => by
      have hxc : x.con ∈ a.con := by rw [← hcon]; exact List.mem_map_of_mem hx
      obtain ⟨y, hy, e⟩ := List.mem_map.1 hxc
      have e1 : y.is.length = x.is.length := by
        have h := congrArg (fun c : Con => c.is.length) e
        simpa using h
      have e2 : y.rs.length = x.rs.length := by
        have h := congrArg (fun c : Con => c.rs.length) e
        simpa using h
      have b1 := (haL y hy).i
      have b2 := (haL y hy).r
      have b3 := (haA.h y hy).li
      have b4 := (haA.h y hy).lr
      have b5 := (ht3.h x hx).li
      have b6 := (ht3.h x hx).lr
      omega)
    rw [hcon, sameL_refl] at K
    refine L.va rfl (X.move (by conv => lhs; whnf)) ?_
    refine L.va rfl (X.extract rfl rfl) ?_
    refine L.va rfl (X.extract rfl rfl) ?_
    refine L.va rfl (X.assign (by conv => lhs; whnf)) ?_
    refine L.va rfl (X.assign (by conv => lhs; whnf)) ?_
    refine L.nil ?_
    refine J.seq ?_
    refine J.region ?_
    refine L.va rfl (X.move (by conv => lhs; whnf)) ?_
    refine L.va rfl (X.move (by conv => lhs; whnf)) ?_
    refine L.va rfl (X.eql rfl rfl) ?_
    refine L.va rfl (X.move (by conv => lhs; whnf)) ?_
    refine L.caseDecT (k := 24) rfl (by rfl) ?_
    refine L.va rfl (X.move (by conv => lhs; whnf)) ?_
    refine L.va rfl (X.move (by conv => lhs; whnf)) ?_
    refine L.call rfl en_9 rfl (K) ?_
    rintro e w4 ⟨rfl, he4⟩
    refine ⟨_, rfl, ?_⟩
    have he4 : Ext w3 w4 := he4
    refine L.va rfl (X.pickT rfl (by conv => lhs; whnf)) ?_
    refine L.va rfl (X.move (by conv => lhs; whnf)) ?_
    refine L.caseBT (k := 29) rfl (by rfl) ?_
    refine L.call rfl en_6 rfl (awake16 w4) ?_
    rintro e w5 ⟨rfl, he5⟩
    refine ⟨_, rfl, ?_⟩
    refine L.va rfl (X.pickT rfl (by conv => lhs; whnf)) ?_
    refine L.va rfl (X.assign (by conv => lhs; whnf)) ?_
    refine L.nil ?_
    refine J.ret ?_
    refine fin1 ?_
    exact ⟨rfl, (he03.trans he4).trans he5⟩
  · have k1 : z1 = false := by simpa using k1
    subst k1
    refine J.iteT rfl ?_
    refine J.seq ?_
    refine J.region ?_
    refine L.call rfl en_6 rfl (awake16 w1) ?_
    rintro e w2 ⟨rfl, he2⟩
    refine ⟨_, rfl, ?_⟩
    refine L.va rfl (X.assign (by conv => lhs; whnf)) ?_
    refine L.nil ?_
    refine J.ret ?_
    refine thn_ret <| ?_
    refine fin1 ?_
    exact ⟨rfl, he1.trans he2⟩
end Go.Proofs.Ytnndkepnabddgaa
