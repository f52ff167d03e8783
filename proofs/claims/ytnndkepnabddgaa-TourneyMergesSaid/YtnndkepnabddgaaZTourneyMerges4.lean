import Derived.Test.YtnndkepnabddgaaZTourneyMerges3
/-
  What the law leans on, part 4: WHeapK, WTouA, WHeapL, WTouE, TouPlainC, WTouF, DifPlain, WTouG, RowSet, WTouH, TmgPlain, TouPlainD, WTouI, CelIn, WTouJ, NumPlainB, WRefA, WRefB, WRefC.
-/
namespace Go.Proofs.Ytnndkepnabddgaa
set_option maxRecDepth 100000
open Go.RowKit H HeapK
set_option linter.unusedVariables false
structure HeapM (t : TypeId) (v : Value) (κ : Int → Int) (S : Nat → Prop) (h : World → List Int → Prop) : Prop where
  ext : ∀ {w w' : World} {l : List Int}, h w l → Ext w w' → h w' l
  big : ∀ {w : World} {l : List Int}, h w l → l.length ≤ 900000
  len : ∀ {w : World} {l : List Int}, h w l → ∃ rv c, Mtd Try.prog t v rv "Len" c w ∧ Calls Try.prog c #[rv] w fun e w' => e = .returned (.int .i64 (l.length : Int)) ∧ w = w'
  less : ∀ {w : World} {l : List Int} {i k : Nat}, h w l → i < l.length → k < l.length → ∃ rv c, Mtd Try.prog t v rv "Less" c w ∧ Calls Try.prog c #[rv, .int .i64 (i : Int), .int .i64 (k : Int)] w fun e w' => e = .returned (.bool (decide (κ (l.getD i 0) < κ (l.getD k 0)))) ∧ Ext w w'
  swap : ∀ {w : World} {l : List Int} {i k : Nat}, h w l → i < l.length → k < l.length → ∃ rv c, Mtd Try.prog t v rv "Swap" c w ∧ Calls Try.prog c #[rv, .int .i64 (i : Int), .int .i64 (k : Int)] w fun e w' => e = .returned (.tuple #[]) ∧ h w' (swp l i k) ∧ Chg S w w'
  pop : ∀ {w : World} {l : List Int}, h w l → 0 < l.length → ∃ rv c, Mtd Try.prog t v rv "Pop" c w ∧ Calls Try.prog c #[rv] w fun e w' => e = .returned (.iface 3 (.int .i64 (l.getD (l.length - 1) 0))) ∧ h w' (l.take (l.length - 1)) ∧ Chg S w w'
namespace HeapM
variable {t : TypeId} {v : Value} {κ : Int → Int} {S : Nat → Prop} {h : World → List Int → Prop}
theorem tr {a b c : World} (x : Chg S a b) (y : Chg S b c) : Chg S a c := x.trans y (fun _ _ hh => hh)
theorem down_ (K : HeapM t v κ S h) {w : World} {l : List Int} (h0 : h w l) (i n : Nat) (hn : n ≤ l.length) (hi : i ≤ l.length) : Calls Try.prog 31 #[.iface t v, .int .i64 (i : Int), .int .i64 (n : Int)] w fun e w' =>
    (∃ b, e = .returned (.bool b)) ∧ h w' (siftDk κ l.length l i n) ∧ Chg S w w' := by
  have hm := K.big h0
  refine enter Try.func31 rfl (by kernel_rfl) ?_
  refine J.seq ?_
  refine J.region ?_
  refine L.va rfl (X.assign (by conv => lhs; whnf)) ?_
  refine L.nil ?_
  refine J.seq ?_
  refine J.region ?_
  refine L.va rfl (X.move (by conv => lhs; whnf)) ?_
  refine L.va rfl (X.assign (by conv => lhs; whnf)) ?_
  refine L.nil ?_
  refine J.seq ?_
  refine J.block ?_
  refine J.loop (X := Nat × Nat × List Int) [7, 8, 9, 10, 12, 13, 14, 15, 16, 17, 18, 19, 20, 21, 22, 23, 24, 25, 26, 27, 28, 29, 30, 31, 32, 33, 34, 35, 36, 37, 38, 39, 40, 41, 42, 43, 44] (fun x => [(7, .int .i64 (x.1 : Int))]) (fun x w' => x.2.2.length = l.length ∧ x.1 ≤ l.length ∧ l.length ≤ x.1 + x.2.1 ∧ h w' x.2.2 ∧ Chg S w w' ∧ siftDk κ x.2.1 x.2.2 x.1 n = siftDk κ l.length l i n) (fun x => x.2.1) ((i, l.length, l)) (At1 (by first | rfl | exact at_int rfl (by omega) | exact at_slice rfl (by omega) | exact at_int rfl (by simp))) ?_ ?_
  · exact ⟨rfl, hi, by dsimp only; omega, h0, .of_ext (Ext.refl _), rfl⟩
  · rintro ⟨a, f, m⟩ g w2 ⟨hl, ha, hf, H, hG, hS⟩
    dsimp only at hl ha hf H hS
    have q1 : ((a, f, m) : Nat × Nat × List Int).1 = a := rfl
    refine J.block ?_
    refine J.seq ?_
    refine J.region ?_
    refine L.va rfl (X.move (by conv => lhs; whnf)) ?_
    refine L.va rfl (X.mul rfl rfl (by omega)) ?_
    refine L.va rfl (X.add rfl rfl (by omega)) ?_
    refine L.va rfl (X.assign (by conv => lhs; whnf)) ?_
    refine L.nil ?_
    refine J.seq ?_
    refine J.seq ?_
    refine J.region ?_
    refine L.va rfl (X.move (by conv => lhs; whnf)) ?_
    refine L.va rfl (X.move (by conv => lhs; whnf)) ?_
    refine L.va rfl (X.geq rfl rfl) ?_
    refine L.va rfl (X.move (by conv => lhs; whnf)) ?_
    refine L.caseDec (k := 18) rfl (fun h1 => ?_) (fun h1 => ?_)
    · have e : siftDk κ f m a n = m := by
        cases f with
        | zero => rfl
        | succ f => unfold siftDk; rw [if_pos (by omega)]
      rw [e] at hS
      rw [hS] at H
      refine L.no rfl ?_
      refine L.no rfl ?_
      refine L.va rfl (X.pickT rfl (by conv => lhs; whnf)) ?_
      refine L.nil ?_
      refine J.iteT rfl ?_
      refine J.exit ?_
      refine J.seq ?_
      refine J.region ?_
      refine L.va rfl (X.move (by conv => lhs; whnf)) ?_
      refine L.va rfl (X.move (by conv => lhs; whnf)) ?_
      refine L.va rfl (X.gtr rfl rfl) ?_
      refine L.va rfl (X.assign (by conv => lhs; whnf)) ?_
      refine L.nil ?_
      refine J.ret ?_
      refine fin1 ?_
      exact ⟨⟨_, rfl⟩, H, hG⟩
    · have h1' : 2 * a + 1 < n := by omega
      obtain ⟨f', rfl⟩ : ∃ f', f = f' + 1 := ⟨f - 1, by omega⟩
      obtain ⟨p1, p2, p3⟩ := pickCk_lt (κ := κ) (l := m) h1'
      have eS : siftDk κ (f' + 1) m a n = if κ (m.getD (pickCk κ m a n) 0) < κ (m.getD a 0) then siftDk κ f' (swp m a (pickCk κ m a n)) (pickCk κ m a n) n else m := by
        rw [siftDk, if_neg (by omega)]
      rw [eS] at hS
      refine L.va rfl (X.move (by conv => lhs; whnf)) ?_
      refine L.va rfl (X.lss rfl rfl) ?_
      refine L.va rfl (X.pickF rfl (by conv => lhs; whnf)) ?_
      refine L.nil ?_
      refine J.decF rfl (by omega) ?_
      refine J.skip ?_
      refine J.seq ?_
      refine J.region ?_
      refine L.va rfl (X.move (by conv => lhs; whnf)) ?_
      refine L.va rfl (X.assign (by conv => lhs; whnf)) ?_
      refine L.nil ?_
      refine J.cut (X := Unit) [9, 10, 23, 24, 25, 26, 27, 28, 29, 30, 31, 32, 33, 34] (fun _ => [(9, .int .i64 ((pickCk κ m a n : Nat) : Int))]) (fun _ w' => Ext w2 w') ?_ ?_
      · refine J.seq ?_
        refine J.region ?_
        refine L.va rfl (X.move (by conv => lhs; whnf)) ?_
        refine L.va rfl (X.add rfl rfl (by omega)) ?_
        refine L.va rfl (X.assign (by conv => lhs; whnf)) ?_
        refine L.nil ?_
        refine J.seq ?_
        refine J.region ?_
        refine L.va rfl (X.move (by conv => lhs; whnf)) ?_
        refine L.va rfl (X.move (by conv => lhs; whnf)) ?_
        refine L.va rfl (X.lss rfl rfl) ?_
        refine L.va rfl (X.move (by conv => lhs; whnf)) ?_
        refine L.caseDec (k := 28) rfl (fun h2 => ?_) (fun h2 => ?_)
        · have h2' : 2 * a + 2 < n := by omega
          obtain ⟨rv, c, hM, hC⟩ := K.less (i := 2 * a + 2) (k := 2 * a + 1) H (by omega) (by omega)
          refine L.va rfl (X.move (by conv => lhs; whnf)) ?_
          refine L.va rfl (X.move (by conv => lhs; whnf)) ?_
          refine L.va rfl (X.move (by conv => lhs; whnf)) ?_
          refine L.invoke rfl rfl (hM) rfl (hC) ?_
          rintro e w3 ⟨rfl, he3⟩
          refine ⟨_, rfl, ?_⟩
          have he3 : Ext w2 w3 := he3
          refine L.va rfl (X.pickT rfl (by conv => lhs; whnf)) ?_
          refine L.nil ?_
          by_cases h3 : κ (m.getD (2 * a + 2) 0) < κ (m.getD (2 * a + 1) 0)
          · rw [decide_eq_true h3]
            refine J.iteT rfl ?_
            refine J.region ?_
            refine L.va rfl (X.move (by conv => lhs; whnf)) ?_
            refine L.va rfl (X.assign (by conv => lhs; whnf)) ?_
            refine L.nil ?_
            refine ⟨(), At1 (at_int rfl (by rw [pickCk, if_pos ⟨h2', h3⟩]; omega)), (by (iterate 15 refine Agr.lk rfl ?_); exact Agr.rfl'), ?_⟩
            exact he3
          · rw [decide_eq_false h3]
            refine J.iteF rfl ?_
            refine J.skip ?_
            refine ⟨(), At1 (at_int rfl (by rw [pickCk, if_neg (fun hh => h3 hh.2)]; omega)), (by (iterate 13 refine Agr.lk rfl ?_); exact Agr.rfl'), ?_⟩
            exact he3
        · refine L.no rfl ?_
          refine L.no rfl ?_
          refine L.no rfl ?_
          refine L.no rfl ?_
          refine L.va rfl (X.pickF rfl (by conv => lhs; whnf)) ?_
          refine L.nil ?_
          refine J.iteF rfl ?_
          refine J.skip ?_
          refine ⟨(), At1 (at_int rfl (by rw [pickCk, if_neg (fun hh => by omega)]; omega)), (by (iterate 13 refine Agr.lk rfl ?_); exact Agr.rfl'), ?_⟩
          exact Ext.refl _
      · rintro ⟨⟩ g w3 he3
        have H3 := K.ext H he3
        generalize pickCk κ m a n = j at *
        obtain ⟨rv, c, hM, hC⟩ := K.less (i := j) (k := a) H3 (by omega) (by omega)
        refine J.seq ?_
        refine J.seq ?_
        refine J.region ?_
        refine L.va rfl (X.move (by conv => lhs; whnf)) ?_
        refine L.va rfl (X.move (by conv => lhs; whnf)) ?_
        refine L.va rfl (X.move (by conv => lhs; whnf)) ?_
        refine L.invoke rfl rfl (hM) rfl (hC) ?_
        rintro e w4 ⟨rfl, he4⟩
        refine ⟨_, rfl, ?_⟩
        have he4 : Ext w3 w4 := he4
        have H4 := K.ext H3 he4
        refine L.va rfl (X.not rfl) ?_
        refine L.nil ?_
        by_cases h3 : κ (m.getD j 0) < κ (m.getD a 0)
        · rw [decide_eq_true h3]
          rw [if_pos h3] at hS
          obtain ⟨rv, c, hM, hC⟩ := K.swap (i := a) (k := j) H4 (by omega) (by omega)
          refine J.iteF rfl ?_
          refine J.skip ?_
          refine J.seq ?_
          refine J.region ?_
          refine L.va rfl (X.move (by conv => lhs; whnf)) ?_
          refine L.va rfl (X.move (by conv => lhs; whnf)) ?_
          refine L.va rfl (X.move (by conv => lhs; whnf)) ?_
          refine L.invoke rfl rfl (hM) rfl (hC) ?_
          rintro e w5 ⟨rfl, H5, hg5⟩
          refine ⟨_, rfl, ?_⟩
          refine L.nil ?_
          refine J.region ?_
          refine L.va rfl (X.move (by conv => lhs; whnf)) ?_
          refine L.va rfl (X.assign (by conv => lhs; whnf)) ?_
          refine L.nil ?_
          refine ⟨(j, f', swp m a j), At1 (by first | rfl | exact at_int rfl (by omega) | exact at_slice rfl (by omega) | exact at_int rfl (by simp)), (by (iterate 11 refine Agr.lk rfl ?_); refine Agr.lk rfl ?_; refine Agr.hav rfl ?_; (iterate 14 refine Agr.lk rfl ?_); exact Agr.lk rfl (Agr.hav rfl Agr.rfl')), ?_⟩
          exact ⟨⟨by dsimp only; rw [swp_length]; exact hl, by dsimp only; omega, by dsimp only; omega, H5, tr hG (tr (.of_ext (he3.trans he4)) hg5), hS⟩, by dsimp only; omega⟩
        · rw [decide_eq_false h3]
          rw [if_neg h3] at hS
          rw [hS] at H4
          refine J.iteT rfl ?_
          refine J.exit ?_
          refine J.seq ?_
          refine J.region ?_
          refine L.va rfl (X.move (by conv => lhs; whnf)) ?_
          refine L.va rfl (X.move (by conv => lhs; whnf)) ?_
          refine L.va rfl (X.gtr rfl rfl) ?_
          refine L.va rfl (X.assign (by conv => lhs; whnf)) ?_
          refine L.nil ?_
          refine J.ret ?_
          refine fin1 ?_
          exact ⟨⟨_, rfl⟩, H4, tr hG (.of_ext (he3.trans he4))⟩
theorem up_ (K : HeapM t v κ S h) {w : World} {l : List Int} (h0 : h w l) (j : Nat) (hj : j < l.length) : Calls Try.prog 50 #[.iface t v, .int .i64 (j : Int)] w fun e w' =>
    e = .returned (.tuple #[]) ∧ h w' (siftUk κ (j + 1) l j) ∧ Chg S w w' := by
  have hm := K.big h0
  refine enter Try.func50 rfl (by kernel_rfl) ?_
  refine J.block ?_
  refine J.loop (X := Nat × Nat × List Int) [1, 4, 5, 6, 7, 8, 9, 10, 11, 12, 13, 14, 15, 16, 17, 18, 19, 20, 21, 22] (fun x => [(1, .int .i64 (x.1 : Int))]) (fun x w' => x.2.2.length = l.length ∧ x.1 < l.length ∧ x.1 < x.2.1 ∧ h w' x.2.2 ∧ Chg S w w' ∧ siftUk κ x.2.1 x.2.2 x.1 = siftUk κ (j + 1) l j) (fun x => x.2.1) ((j, j + 1, l)) (At1 (by first | rfl | exact at_int rfl (by omega) | exact at_slice rfl (by omega) | exact at_int rfl (by simp))) ?_ ?_
  · exact ⟨rfl, hj, by dsimp only; omega, h0, .of_ext (Ext.refl _), rfl⟩
  · rintro ⟨a, f, m⟩ g w2 ⟨hl, ha, hf, H, hG, hS⟩
    dsimp only at hl ha hf H hS
    have q1 : ((a, f, m) : Nat × Nat × List Int).1 = a := rfl
    obtain ⟨f', rfl⟩ : ∃ f', f = f' + 1 := ⟨f - 1, by omega⟩
    have eS : siftUk κ (f' + 1) m a = if a = 0 ∨ ¬ κ (m.getD a 0) < κ (m.getD ((a - 1) / 2) 0) then m else siftUk κ f' (swp m ((a - 1) / 2) a) ((a - 1) / 2) := by rw [siftUk]
    rw [eS] at hS
    have hdiv : ((a : Int) - 1).tdiv 2 = (((a - 1) / 2 : Nat) : Int) := by
      rcases Nat.eq_zero_or_pos a with h0 | h0
      · subst h0; rfl
      · rw [Int.tdiv_eq_ediv_of_nonneg (by omega)]; omega
    have hwr : IntKind.i64.wrap (((a - 1) / 2 : Nat) : Int) = (((a - 1) / 2 : Nat) : Int) := w64 (by omega)
    refine J.block ?_
    refine J.seq ?_
    refine J.region ?_
    refine L.va rfl (X.move (by conv => lhs; whnf)) ?_
    refine L.va rfl (X.sub rfl rfl (by omega)) ?_
    refine L.va rfl (X.quow rfl rfl (by decide)) ?_
    refine L.va rfl (X.assign (by conv => lhs; whnf)) ?_
    refine L.nil ?_
    rw [hdiv, hwr]
    refine J.seq ?_
    refine J.seq ?_
    refine J.region ?_
    refine L.va rfl (X.move (by conv => lhs; whnf)) ?_
    refine L.va rfl (X.move (by conv => lhs; whnf)) ?_
    refine L.va rfl (X.eql rfl rfl) ?_
    refine L.va rfl (X.move (by conv => lhs; whnf)) ?_
    by_cases h0 : a = 0
    · rw [if_pos (.inl h0)] at hS
      rw [hS] at H
      refine L.caseDecT (k := 11) rfl (by omega) ?_
      refine L.no rfl ?_
      refine L.no rfl ?_
      refine L.no rfl ?_
      refine L.no rfl ?_
      refine L.no rfl ?_
      refine L.va rfl (X.pickT rfl (by conv => lhs; whnf)) ?_
      refine L.nil ?_
      refine J.iteT rfl ?_
      refine J.exit ?_
      refine thn_exit <| inB_ne rfl <| thn_exit <| inB_eq ?_
      refine fin0 (.inr rfl) ?_
      exact ⟨rfl, H, hG⟩
    · obtain ⟨rv, c, hM, hC⟩ := K.less (i := a) (k := (a - 1) / 2) H (by omega) (by omega)
      refine L.caseDecF (k := 11) rfl (by omega) ?_
      refine L.va rfl (X.move (by conv => lhs; whnf)) ?_
      refine L.va rfl (X.move (by conv => lhs; whnf)) ?_
      refine L.va rfl (X.move (by conv => lhs; whnf)) ?_
      refine L.invoke rfl rfl (hM) rfl (hC) ?_
      rintro e w4 ⟨rfl, he4⟩
      refine ⟨_, rfl, ?_⟩
      have he4 : Ext w2 w4 := he4
      have H4 := K.ext H he4
      refine L.va rfl (X.not rfl) ?_
      refine L.va rfl (X.pickF rfl (by conv => lhs; whnf)) ?_
      refine L.nil ?_
      by_cases h3 : κ (m.getD a 0) < κ (m.getD ((a - 1) / 2) 0)
      · rw [decide_eq_true h3]
        rw [if_neg (by rintro (h | h) <;> contradiction)] at hS
        obtain ⟨rv, c, hM, hC⟩ := K.swap (i := (a - 1) / 2) (k := a) H4 (by omega) (by omega)
        refine J.iteF rfl ?_
        refine J.skip ?_
        refine J.seq ?_
        refine J.region ?_
        refine L.va rfl (X.move (by conv => lhs; whnf)) ?_
        refine L.va rfl (X.move (by conv => lhs; whnf)) ?_
        refine L.va rfl (X.move (by conv => lhs; whnf)) ?_
        refine L.invoke rfl rfl (hM) rfl (hC) ?_
        rintro e w5 ⟨rfl, H5, hg5⟩
        refine ⟨_, rfl, ?_⟩
        refine L.nil ?_
        refine J.region ?_
        refine L.va rfl (X.move (by conv => lhs; whnf)) ?_
        refine L.va rfl (X.assign (by conv => lhs; whnf)) ?_
        refine L.nil ?_
        refine ⟨((a - 1) / 2, f', swp m ((a - 1) / 2) a), At1 (by first | rfl | exact at_int rfl (by omega) | exact at_slice rfl (by omega) | exact at_int rfl (by simp)), (by (iterate 21 refine Agr.lk rfl ?_); exact Agr.lk rfl (Agr.hav rfl Agr.rfl')), ?_⟩
        exact ⟨⟨by dsimp only; rw [swp_length]; exact hl, by dsimp only; omega, by dsimp only; omega, H5, tr hG (tr (.of_ext he4) hg5), hS⟩, by dsimp only; omega⟩
      · rw [decide_eq_false h3]
        rw [if_pos (.inr h3)] at hS
        rw [hS] at H4
        refine J.iteT rfl ?_
        refine J.exit ?_
        refine thn_exit <| inB_ne rfl <| thn_exit <| inB_eq ?_
        refine fin0 (.inr rfl) ?_
        exact ⟨rfl, H4, tr hG (.of_ext he4)⟩
theorem init_ (K : HeapM t v κ S h) {w : World} {l : List Int} (h0 : h w l) : Calls Try.prog 15 #[.iface t v] w fun e w' =>
    e = .returned (.tuple #[]) ∧ h w' (initHk κ l (l.length / 2)) ∧ Chg S w w' := by
  have hm := K.big h0
  have e0 : ((l.length : Nat) : Int) / 2 = ((l.length / 2 : Nat) : Int) := by omega
  obtain ⟨rv, c, hM, hC⟩ := K.len h0
  refine enter Try.func15 rfl (by kernel_rfl) ?_
  refine J.seq ?_
  refine J.region ?_
  refine L.va rfl (X.move (by conv => lhs; whnf)) ?_
  refine L.invoke rfl rfl (hM) rfl (hC) ?_
  rintro e _ ⟨rfl, rfl⟩
  refine ⟨_, rfl, ?_⟩
  refine L.va rfl (X.assign (by conv => lhs; whnf)) ?_
  refine L.nil ?_
  refine J.seq ?_
  refine J.region ?_
  refine L.va rfl (X.move (by conv => lhs; whnf)) ?_
  refine L.va rfl (X.quo rfl rfl (by omega)) ?_
  refine L.va rfl (X.sub rfl rfl (by omega)) ?_
  refine L.va rfl (X.assign (by conv => lhs; whnf)) ?_
  refine L.nil ?_
  refine J.block ?_
  refine J.loop (X := Nat × List Int) [3, 9, 10, 11, 12, 13, 14, 15, 16] (fun x => [(3, .int .i64 ((x.1 : Int) - 1))]) (fun x w' => x.1 ≤ l.length ∧ x.2.length = l.length ∧ h w' x.2 ∧ Chg S w w' ∧ initHk κ x.2 x.1 = initHk κ l (l.length / 2)) (fun x => x.1) ((l.length / 2, l)) (At1 (by first | rfl | exact at_int rfl (by omega) | exact at_slice rfl (by omega) | exact at_int rfl (by simp))) ?_ ?_
  · exact ⟨by dsimp only; omega, rfl, h0, .of_ext (Ext.refl _), rfl⟩
  · rintro ⟨k, m⟩ g w2 ⟨hk, hl, H, hG, hS⟩
    dsimp only at hk hl H hS
    have q1 : ((k, m) : Nat × List Int).1 = k := rfl
    refine J.seq ?_
    refine J.seq ?_
    refine J.region ?_
    refine L.va rfl (X.move (by conv => lhs; whnf)) ?_
    refine L.va rfl (X.geq rfl rfl) ?_
    refine L.nil ?_
    refine J.dec rfl (fun hge => ?_) (fun hge => ?_)
    · obtain ⟨k', rfl⟩ : ∃ k', k = k' + 1 := ⟨k - 1, by dsimp only at hge; omega⟩
      have ek : ((k' + 1 : Nat) : Int) - 1 = (k' : Int) := by omega
      have cD := K.down_ H k' l.length (by omega) (by omega)
      rw [← ek] at cD
      refine J.skip ?_
      refine J.seq ?_
      refine J.block ?_
      refine J.region ?_
      refine L.va rfl (X.move (by conv => lhs; whnf)) ?_
      refine L.va rfl (X.move (by conv => lhs; whnf)) ?_
      refine L.va rfl (X.move (by conv => lhs; whnf)) ?_
      refine L.call rfl en_31 rfl (cD) ?_
      rintro e w3 ⟨⟨b, rfl⟩, H3, hg3⟩
      refine ⟨_, rfl, ?_⟩
      refine L.nil ?_
      refine J.region ?_
      refine L.va rfl (X.move (by conv => lhs; whnf)) ?_
      refine L.va rfl (X.sub rfl rfl (by omega)) ?_
      refine L.va rfl (X.assign (by conv => lhs; whnf)) ?_
      refine L.nil ?_
      refine ⟨(k', siftDk κ m.length m k' l.length), At1 (by first | rfl | exact at_int rfl (by omega) | exact at_slice rfl (by omega) | exact at_int rfl (by simp)), (by (iterate 9 refine Agr.lk rfl ?_); exact Agr.lk rfl (Agr.hav rfl Agr.rfl')), ?_⟩
      refine ⟨⟨by dsimp only; omega, by dsimp only; rw [siftDk_length]; exact hl, H3, tr hG hg3, ?_⟩, by dsimp only; omega⟩
      rw [← hS]
      show initHk κ (siftDk κ m.length m k' l.length) k' = initHk κ (siftDk κ m.length m k' m.length) k'
      rw [hl]
    · obtain rfl : k = 0 := by dsimp only at hge; omega
      have e : m = initHk κ l (l.length / 2) := hS
      rw [e] at H
      refine J.exit ?_
      refine thn_exit <| thn_exit <| inB_eq ?_
      refine fin0 (.inr rfl) ?_
      exact ⟨rfl, H, hG⟩
theorem pop_ (K : HeapM t v κ S h) {w : World} {l : List Int} (h0 : h w l) (hpos : 0 < l.length) : Calls Try.prog 30 #[.iface t v] w fun e w' =>
    e = .returned (.iface 3 (.int .i64 (l.getD 0 0))) ∧ h w' ((siftDk κ l.length (swp l 0 (l.length - 1)) 0 (l.length - 1)).take (l.length - 1)) ∧ Chg S w w' := by
  have hm := K.big h0
  have hl1 : (swp l 0 (l.length - 1)).length = l.length := swp_length _ _ _
  have en : ((l.length : Nat) : Int) - 1 = ((l.length - 1 : Nat) : Int) := by omega
  obtain ⟨rv, c, hM, hC⟩ := K.len h0
  obtain ⟨rv1, d1, hM1, hC1⟩ := K.swap (i := 0) (k := l.length - 1) h0 (by omega) (by omega)
  rw [← en] at hC1
  refine enter Try.func30 rfl (by kernel_rfl) ?_
  refine J.seq ?_
  refine J.region ?_
  refine L.va rfl (X.assign (by conv => lhs; whnf)) ?_
  refine L.nil ?_
  refine J.seq ?_
  refine J.region ?_
  refine L.va rfl (X.move (by conv => lhs; whnf)) ?_
  refine L.invoke rfl rfl (hM) rfl (hC) ?_
  rintro e _ ⟨rfl, rfl⟩
  refine ⟨_, rfl, ?_⟩
  refine L.va rfl (X.sub rfl rfl (by omega)) ?_
  refine L.va rfl (X.assign (by conv => lhs; whnf)) ?_
  refine L.nil ?_
  refine J.seq ?_
  refine J.region ?_
  refine L.va rfl (X.move (by conv => lhs; whnf)) ?_
  refine L.va rfl (X.move (by conv => lhs; whnf)) ?_
  refine L.invoke rfl rfl (hM1) rfl (hC1) ?_
  rintro e w1 ⟨rfl, H1, hg1⟩
  refine ⟨_, rfl, ?_⟩
  have c2 := K.down_ H1 0 (l.length - 1) (by omega) (by omega)
  rw [← en] at c2
  refine L.nil ?_
  refine J.seq ?_
  refine J.region ?_
  refine L.va rfl (X.move (by conv => lhs; whnf)) ?_
  refine L.va rfl (X.move (by conv => lhs; whnf)) ?_
  refine L.call rfl en_31 rfl (c2) ?_
  rintro e w2 ⟨⟨b, rfl⟩, H2, hg2⟩
  refine ⟨_, rfl, ?_⟩
  rw [hl1] at H2
  have hl2 : (siftDk κ l.length (swp l 0 (l.length - 1)) 0 (l.length - 1)).length = l.length := by rw [siftDk_length, swp_length]
  obtain ⟨rv3, d3, hM3, c3⟩ := K.pop H2 (by omega)
  rw [hl2, siftDk_past _ _ _ _ (by omega) _ (Nat.le_refl _), swp_at l (by omega) (by omega), if_pos rfl] at c3
  refine L.nil ?_
  refine J.seq ?_
  refine J.region ?_
  refine L.va rfl (X.move (by conv => lhs; whnf)) ?_
  refine L.invoke rfl rfl (hM3) rfl (c3) ?_
  rintro e w3 ⟨rfl, H3, hg3⟩
  refine ⟨_, rfl, ?_⟩
  refine L.va rfl (X.assign (by conv => lhs; whnf)) ?_
  refine L.nil ?_
  refine J.ret ?_
  refine fin1 ?_
  exact ⟨rfl, H3, tr (tr hg1 hg2) hg3⟩
theorem fix_ (K : HeapM t v κ S h) {w : World} {l : List Int} (h0 : h w l) (hpos : 0 < l.length) : Calls Try.prog 29 #[.iface t v, .int .i64 0] w fun e w' =>
    e = .returned (.tuple #[]) ∧ h w' (siftDk κ l.length l 0 l.length) ∧ Chg S w w' := by
  have hm := K.big h0
  obtain ⟨rv, c, hM, hC⟩ := K.len h0
  have c2 := K.down_ h0 0 l.length (Nat.le_refl _) (by omega)
  refine enter Try.func29 rfl (by kernel_rfl) ?_
  refine J.seq ?_
  refine J.region ?_
  refine L.va rfl (X.move (by conv => lhs; whnf)) ?_
  refine L.va rfl (X.move (by conv => lhs; whnf)) ?_
  refine L.va rfl (X.move (by conv => lhs; whnf)) ?_
  refine L.invoke rfl rfl (hM) rfl (hC) ?_
  rintro e _ ⟨rfl, rfl⟩
  refine ⟨_, rfl, ?_⟩
  refine L.call rfl en_31 rfl (c2) ?_
  rintro e w2 ⟨⟨b, rfl⟩, H2, hg2⟩
  refine ⟨_, rfl, ?_⟩
  have c3 := K.up_ H2 0 (by rw [siftDk_length]; exact hpos)
  rw [show siftUk κ (0 + 1) (siftDk κ l.length l 0 l.length) 0 = siftDk κ l.length l 0 l.length from by rw [siftUk, if_pos (.inl rfl)]] at c3
  refine L.va rfl (X.not rfl) ?_
  refine L.nil ?_
  cases b
  · refine J.iteT rfl ?_
    refine J.region ?_
    refine L.va rfl (X.move (by conv => lhs; whnf)) ?_
    refine L.va rfl (X.move (by conv => lhs; whnf)) ?_
    refine L.call rfl en_50 rfl (c3) ?_
    rintro e w3 ⟨rfl, H3, hg3⟩
    refine ⟨_, rfl, ?_⟩
    refine L.nil ?_
    refine fin0 (.inr rfl) ?_
    exact ⟨rfl, H3, tr hg2 hg3⟩
  · refine J.iteF rfl ?_
    refine J.skip ?_
    refine fin0 (.inr rfl) ?_
    exact ⟨rfl, H2, hg2⟩
theorem push_ {ι : Type} {h : ι → World → List Int → Prop} {S : ι → Nat → Prop} (K : ∀ a, HeapM t v κ (S a) (h a)) {a : ι} {w : World} {l : List Int} {x : Int} (h0 : h a w l)
    (hP : ∃ rv c, Mtd Try.prog t v rv "Push" c w ∧ Calls Try.prog c #[rv, .iface 3 (.int .i64 x)] w fun e w' => e = .returned (.tuple #[]) ∧ ∃ a', h a' w' (l ++ [x]) ∧ Chg (S a) w w' ∧ ∀ g, g < w.heap.size → S a' g → S a g) :
    Calls Try.prog 27 #[.iface t v, .iface 3 (.int .i64 x)] w fun e w' =>
    e = .returned (.tuple #[]) ∧ ∃ a', h a' w' (siftUk κ (l.length + 1) (l ++ [x]) l.length) ∧ Chg (S a) w w' ∧ ∀ g, g < w.heap.size → S a' g → S a g := by
  have hl : (l ++ [x]).length = l.length + 1 := by simp
  obtain ⟨rv, c, hM, hC⟩ := hP
  refine enter Try.func27 rfl (by kernel_rfl) ?_
  refine J.seq ?_
  refine J.region ?_
  refine L.va rfl (X.move (by conv => lhs; whnf)) ?_
  refine L.va rfl (X.move (by conv => lhs; whnf)) ?_
  refine L.invoke rfl rfl (hM) rfl (hC) ?_
  rintro e w1 ⟨rfl, a', H1, K1, hA1⟩
  refine ⟨_, rfl, ?_⟩
  obtain ⟨rv2, c2, hM2, hC2⟩ := (K a').len H1
  have hb := (K a').big H1
  refine L.nil ?_
  refine J.region ?_
  refine L.va rfl (X.move (by conv => lhs; whnf)) ?_
  refine L.va rfl (X.move (by conv => lhs; whnf)) ?_
  refine L.invoke rfl rfl (hM2) rfl (hC2) ?_
  rintro e _ ⟨rfl, rfl⟩
  refine ⟨_, rfl, ?_⟩
  have cU := (K a').up_ H1 l.length (by omega)
  rw [show ((l.length : Nat) : Int) = (((l ++ [x]).length : Nat) : Int) - 1 by omega] at cU
  refine L.va rfl (X.sub rfl rfl (by omega)) ?_
  refine L.call rfl en_50 rfl (cU) ?_
  rintro e w2 ⟨rfl, H2, hg2⟩
  refine ⟨_, rfl, ?_⟩
  refine L.nil ?_
  refine fin0 (.inr rfl) ?_
  exact ⟨rfl, a', H2, K1.trans hg2 hA1, hA1⟩
end HeapM
end Go.Proofs.Ytnndkepnabddgaa
namespace Go.Proofs.Ytnndkepnabddgaa
set_option maxRecDepth 100000
open Go.RowKit H
open Odr Tou HeapK
set_option linter.unusedVariables false
namespace Bys
def ks (s : Bys) : List (List Int) := s.l.map By.l
theorem ks_at (s : Bys) (i : Nat) : s.ks.getD i [] = (s.l.getD i by0).l := by
  unfold ks
  rw [List.getD, List.getD, List.getElem?_map]
  cases s.l[i]? <;> rfl
theorem ahead_eq (s : Bys) (a b : Nat) : s.ahead a b = ahL s.ks a b := by unfold Bys.ahead ahL; rw [ks_at, ks_at]
end Bys
theorem taheadI (s : Bys) (x y : Int) (w : World) (h : s.At w.heap.size w) (hx : 0 ≤ x ∧ x < (s.n : Int)) (hy : 0 ≤ y ∧ y < (s.n : Int)) : Calls Try.prog 28 #[s.val, .int .i64 x, .int .i64 y] w fun e w' => e = .returned (.bool (ahL s.ks x.toNat y.toNat)) ∧ Ext w w' := by
  obtain ⟨a, rfl⟩ := Int.eq_ofNat_of_zero_le hx.1
  obtain ⟨b, rfl⟩ := Int.eq_ofNat_of_zero_le hy.1
  have := tahead s a b w h (by omega) (by omega)
  rw [Bys.ahead_eq] at this
  exact this
def Tch (d : Nat) (a : Option Addr × Nat) (g : Nat) : Prop := g = d ∨ Value.ownBlock (.slice a.1 0 a.2) = some g
theorem own_n (A : Option Addr) (n m c : Nat) : Value.ownBlock (.slice A n c) = Value.ownBlock (.slice A m c) := by cases A <;> rfl
theorem tch_own {d n : Nat} {a : Option Addr × Nat} {g : Nat} (h : Value.ownBlock (.slice a.1 n a.2) = some g) : Tch d a g := .inr ((own_n _ _ _ _).trans h)
structure Bq (s : Bys) (N d : Nat) (a : Option Addr × Nat) (w : World) (l : List Int) : Prop where
  hb : Blk w d 59 #[s.val, .slice a.1 l.length a.2]
  hf : w.ownsRow N 3 1 (.slice a.1 l.length a.2) l.length (nums .i64 l)
  hs : s.At N w
  hd : N ≤ d
  el : ∀ x ∈ l, 0 ≤ x ∧ x < (s.n : Int)
  bn : s.n ≤ 900000
  bl : l.length ≤ s.n
namespace Bq
variable {s : Bys} {N d : Nat} {a : Option Addr × Nat} {w w' : World} {l : List Int}
theorem ext (h : Bq s N d a w l) (he : Ext w w') : Bq s N d a w' l := ⟨h.hb.ext he, h.hf.ext he, h.hs.ext he, h.hd, h.el, h.bn, h.bl⟩
theorem lo (h : Bq s N d a w l) : N ≤ w.heap.size := Nat.le_trans h.hd (Nat.le_of_lt h.hb.lt)
theorem at_ (h : Bq s N d a w l) {i : Nat} (hi : i < l.length) : 0 ≤ l.getD i 0 ∧ l.getD i 0 < (s.n : Int) := h.el _ (getD_mem hi)
theorem tch_ge (h : Bq s N d a w l) : ∀ g, Tch d a g → N ≤ g := by
  rintro g (rfl | hg)
  · exact h.hd
  · exact (h.hf.lt g ((own_n _ _ _ _).trans hg)).1
theorem chg {S : Nat → Prop} (h : Bq s N d a w l) (hC : Chg S w w') (h1 : ∀ g, Tch d a g → ¬ S g) (h2 : ∀ g, S g → N ≤ g) : Bq s N d a w' l :=
  ⟨hC.blk h.hb (h1 d (.inl rfl)), hC.own h.hf (fun g hg => h1 g (tch_own hg)), h.hs.below (hC.below h.lo h2), h.hd, h.el, h.bn, h.bl⟩
theorem len_ (h : Bq s N d a w l) : Calls Try.prog 26 #[.pointer (some ⟨d, 0, none⟩)] w fun e w' => e = .returned (.int .i64 (l.length : Int)) ∧ w = w' := by
  have hb := h.hb
  refine enter Try.func26 rfl (by kernel_rfl) ?_
  refine J.seq ?_
  refine J.region ?_
  refine L.va rfl (X.assign (by conv => lhs; whnf)) ?_
  refine L.nil ?_
  refine J.seq ?_
  refine J.region ?_
  refine L.va rfl (X.move (by conv => lhs; whnf)) ?_
  refine L.va rfl (X.nilCheck rfl) ?_
  refine L.va rfl (X.fieldAddr rfl Try.underlying59 rfl sz_35 (by decide)) ?_
  refine L.va rfl (X.load rfl sc_35 (by first | exact Ld.blk hb rfl)) ?_
  refine L.va rfl (X.len rfl Try.underlying35) ?_
  refine L.va rfl (X.assign (by conv => lhs; whnf)) ?_
  refine L.nil ?_
  refine J.ret ?_
  refine fin1 ?_
  exact ⟨rfl, rfl⟩
theorem less_ (h : Bq s N d a w l) {i k : Nat} (hi : i < l.length) (hk : k < l.length) : Calls Try.prog 108 #[.pointer (some ⟨d, 0, none⟩), .int .i64 (i : Int), .int .i64 (k : Int)] w fun e w' => e = .returned (.bool (ahL s.ks (l.getD k 0).toNat (l.getD i 0).toNat)) ∧ Ext w w' := by
  have hb := h.hb
  have hr := Reads.of_own h.hf
  have hA := hr.some_ (by omega)
  have c1 := fun (w' : World) (hw : Ext w w') => taheadI s (l.getD k 0) (l.getD i 0) w' ((h.hs.ext hw).more (Nat.le_trans h.lo hw.le)) (h.at_ hk) (h.at_ hi)
  refine enter Try.func108 rfl (by kernel_rfl) ?_
  refine J.seq ?_
  refine J.region ?_
  refine L.va rfl (X.assign (by conv => lhs; whnf)) ?_
  refine L.nil ?_
  refine J.seq ?_
  refine J.quiet mixed (by kernel_rfl) ?_
  refine Qt.va rfl (fun w' hw => X.move (by conv => lhs; whnf)) ?_
  refine Qt.va rfl (fun w' hw => X.nilCheck rfl) ?_
  refine Qt.va rfl (fun w' hw => X.fieldAddr rfl Try.underlying59 rfl sz_38 (by decide)) ?_
  refine Qt.va rfl (fun w' hw => X.load rfl sc_38 (by first | exact Ld.blk (hb.ext hw) rfl | exact Ld.num (hr.ext hw) (by omega) | exact hA)) ?_
  refine Qt.va rfl (fun w' hw => X.move (by conv => lhs; whnf)) ?_
  refine Qt.va rfl (fun w' hw => X.nilCheck rfl) ?_
  refine Qt.va rfl (fun w' hw => X.fieldAddr rfl Try.underlying59 rfl sz_35 (by decide)) ?_
  refine Qt.va rfl (fun w' hw => X.load rfl sc_35 (by first | exact Ld.blk (hb.ext hw) rfl | exact Ld.num (hr.ext hw) (by omega) | exact hA)) ?_
  refine Qt.va rfl (fun w' hw => X.move (by conv => lhs; whnf)) ?_
  refine Qt.va rfl (fun w' hw => (by first | exact X.index1n rfl rfl Try.underlying35 sz_3 (by first | exact Option.some_ne_none _ | exact hr.some_ (by omega) | exact hA) (by omega) | exact X.index1 rfl rfl Try.underlying35 sz_3 (by first | exact Option.some_ne_none _ | exact hr.some_ (by omega) | exact hA) (by omega))) ?_
  refine Qt.va rfl (fun w' hw => X.load rfl sc_3 (by first | exact Ld.blk (hb.ext hw) rfl | exact Ld.num (hr.ext hw) (by omega) | exact hA)) ?_
  refine Qt.va rfl (fun w' hw => X.move (by conv => lhs; whnf)) ?_
  refine Qt.va rfl (fun w' hw => X.nilCheck rfl) ?_
  refine Qt.va rfl (fun w' hw => X.fieldAddr rfl Try.underlying59 rfl sz_35 (by decide)) ?_
  refine Qt.va rfl (fun w' hw => X.load rfl sc_35 (by first | exact Ld.blk (hb.ext hw) rfl | exact Ld.num (hr.ext hw) (by omega) | exact hA)) ?_
  refine Qt.va rfl (fun w' hw => X.move (by conv => lhs; whnf)) ?_
  refine Qt.va rfl (fun w' hw => (by first | exact X.index1n rfl rfl Try.underlying35 sz_3 (by first | exact Option.some_ne_none _ | exact hr.some_ (by omega) | exact hA) (by omega) | exact X.index1 rfl rfl Try.underlying35 sz_3 (by first | exact Option.some_ne_none _ | exact hr.some_ (by omega) | exact hA) (by omega))) ?_
  refine Qt.va rfl (fun w' hw => X.load rfl sc_3 (by first | exact Ld.blk (hb.ext hw) rfl | exact Ld.num (hr.ext hw) (by omega) | exact hA)) ?_
  refine Qt.call rfl en_28 rfl (fun w' hw => calls_ext hw (c1 w' hw)) ?_
  refine Qt.va rfl (fun w' hw => X.assign (by conv => lhs; whnf)) ?_
  refine Qt.nil (fun w1 hq => ?_)
  replace hb := hb.ext hq
  replace hr := hr.ext hq
  refine J.ret ?_
  refine fin1 ?_
  exact ⟨rfl, hq⟩
theorem swap_ (h : Bq s N d a w l) {i k : Nat} (hi : i < l.length) (hk : k < l.length) : Calls Try.prog 111 #[.pointer (some ⟨d, 0, none⟩), .int .i64 (i : Int), .int .i64 (k : Int)] w fun e w' => e = .returned (.tuple #[]) ∧ Bq s N d a w' (swp l i k) ∧ Chg (Tch d a) w w' := by
  have hb := h.hb
  have hr := Reads.of_own h.hf
  have hA := hr.some_ (by omega)
  refine enter Try.func111 rfl (by kernel_rfl) ?_
  refine J.draw (ℓ := 1000000) (S := (fun w' => Blk w' d 59 #[s.val, .slice a.1 l.length a.2])) mixed (fun w1 hSE hS_h => ?_)
  have hS : ((fun w' => Blk w' d 59 #[s.val, .slice a.1 l.length a.2])) w1 := hb.ext hSE
  have hr1 := hr.ext hSE
  have hoX := h.hf.ext hSE
  have hG : w.grownBy w1 (Value.ownBlock (.slice a.1 l.length a.2)) := grown_ext hSE
  refine D.va 0 rfl (by kernel_rfl) (fun _ _ _ h => h) rfl (fun w' hw => X.move (by conv => lhs; whnf)) hS ?_
  refine D.va 1 rfl (by kernel_rfl) (fun _ _ _ h => h) rfl (fun w' hw => X.nilCheck rfl) hS ?_
  refine D.va 2 rfl (by kernel_rfl) (fun _ _ _ h => h) rfl (fun w' hw => X.fieldAddr rfl Try.underlying59 rfl sz_35 (by decide)) hS ?_
  refine D.va 3 rfl (by kernel_rfl) (fun _ _ _ h => h) rfl (fun w' hw => X.load rfl sc_35 (by first | exact hA | exact Ld.blk hw rfl)) hS ?_
  refine D.va 4 rfl (by kernel_rfl) (fun _ _ _ h => h) rfl (fun w' hw => X.move (by conv => lhs; whnf)) hS ?_
  refine D.va 5 rfl (by kernel_rfl) (fun _ _ _ h => h) rfl (fun w' hw => X.move (by conv => lhs; whnf)) hS ?_
  refine D.va 6 rfl (by kernel_rfl) (fun _ _ _ h => h) rfl (fun w' hw => X.nilCheck rfl) hS ?_
  refine D.va 7 rfl (by kernel_rfl) (fun _ _ _ h => h) rfl (fun w' hw => X.fieldAddr rfl Try.underlying59 rfl sz_35 (by decide)) hS ?_
  refine D.va 8 rfl (by kernel_rfl) (fun _ _ _ h => h) rfl (fun w' hw => X.load rfl sc_35 (by first | exact hA | exact Ld.blk hw rfl)) hS ?_
  refine D.va 9 rfl (by kernel_rfl) (fun _ _ _ h => h) rfl (fun w' hw => X.move (by conv => lhs; whnf)) hS ?_
  refine D.va 10 rfl (by kernel_rfl) (fun _ _ _ h => h) rfl (fun w' hw => X.move (by conv => lhs; whnf)) hS ?_
  refine D.va 11 rfl (by kernel_rfl) (fun _ _ _ h => h) rfl (fun w' hw => X.nilCheck rfl) hS ?_
  refine D.va 12 rfl (by kernel_rfl) (fun _ _ _ h => h) rfl (fun w' hw => X.fieldAddr rfl Try.underlying59 rfl sz_35 (by decide)) hS ?_
  refine D.va 13 rfl (by kernel_rfl) (fun _ _ _ h => h) rfl (fun w' hw => X.load rfl sc_35 (by first | exact hA | exact Ld.blk hw rfl)) hS ?_
  refine D.va 14 rfl (by kernel_rfl) (fun _ _ _ h => h) rfl (fun w' hw => X.move (by conv => lhs; whnf)) hS ?_
  refine D.va 15 rfl (by kernel_rfl) (fun _ _ _ h => h) rfl (fun w' hw => (by first | exact X.index1n rfl rfl Try.underlying35 sz_3 (by first | exact Option.some_ne_none _ | exact hA) (by omega) | exact X.index1 rfl rfl Try.underlying35 sz_3 (by first | exact Option.some_ne_none _ | exact hA) (by omega))) hS ?_
  refine D.va 17 rfl (by kernel_rfl) (fun _ _ _ h => h) rfl (fun w' hw => X.move (by conv => lhs; whnf)) hS ?_
  refine D.va 18 rfl (by kernel_rfl) (fun _ _ _ h => h) rfl (fun w' hw => X.nilCheck rfl) hS ?_
  refine D.va 19 rfl (by kernel_rfl) (fun _ _ _ h => h) rfl (fun w' hw => X.fieldAddr rfl Try.underlying59 rfl sz_35 (by decide)) hS ?_
  refine D.va 20 rfl (by kernel_rfl) (fun _ _ _ h => h) rfl (fun w' hw => X.load rfl sc_35 (by first | exact hA | exact Ld.blk hw rfl)) hS ?_
  refine D.va 21 rfl (by kernel_rfl) (fun _ _ _ h => h) rfl (fun w' hw => X.move (by conv => lhs; whnf)) hS ?_
  refine D.va 22 rfl (by kernel_rfl) (fun _ _ _ h => h) rfl (fun w' hw => (by first | exact X.index1n rfl rfl Try.underlying35 sz_3 (by first | exact Option.some_ne_none _ | exact hA) (by omega) | exact X.index1 rfl rfl Try.underlying35 sz_3 (by first | exact Option.some_ne_none _ | exact hA) (by omega))) hS ?_
  refine D.two 16 23 (by kernel_rfl) rfl rfl ?_ ?_
  · refine L.va rfl (X.load rfl sc_3 (Ld.num hr1 hk)) ?_
    refine L.nil ?_
    refine ⟨fun _ => hS, ?_⟩
    refine D.one 23 (by kernel_rfl) rfl ?_
    refine L.va rfl (X.load rfl sc_3 (Ld.num hr1 hi)) ?_
    refine L.nil ?_
    refine ⟨fun _ => hS, ?_⟩
    refine D.va 24 rfl (by kernel_rfl) (fun _ _ _ h => h) rfl (fun w' hw => (by first | exact X.index1n rfl rfl Try.underlying35 sz_3 (by first | exact Option.some_ne_none _ | exact hA) (by omega) | exact X.index1 rfl rfl Try.underlying35 sz_3 (by first | exact Option.some_ne_none _ | exact hA) (by omega))) hS ?_
    refine D.one 25 (by kernel_rfl) rfl ?_
    refine L.storeON rfl rfl (by conv => lhs; whnf) sz_3 (hoX) (by omega) ?_
    intro w2 hoY hg2 hb2 hs2
    have hS1 := hS.grown hg2 (fun e ↦ own_blk_ne hoX hS (by decide) e.symm)
    refine L.nil ?_
    refine ⟨fun _ => hS1, ?_⟩
    replace hG := grb_trans hG hg2
    replace hoX := hoY
    refine D.va 26 rfl (by kernel_rfl) (fun _ _ _ h => h) rfl (fun w' hw => (by first | exact X.index1n rfl rfl Try.underlying35 sz_3 (by first | exact Option.some_ne_none _ | exact hA) (by omega) | exact X.index1 rfl rfl Try.underlying35 sz_3 (by first | exact Option.some_ne_none _ | exact hA) (by omega))) hS1 ?_
    refine D.one 27 (by kernel_rfl) rfl ?_
    refine L.storeON rfl rfl (by conv => lhs; whnf) sz_3 (hoX) (by omega) ?_
    intro w2 hoY hg2 hb2 hs2
    have hS2 := hS1.grown hg2 (fun e ↦ own_blk_ne hoX hS1 (by decide) e.symm)
    refine L.nil ?_
    refine ⟨fun _ => hS2, ?_⟩
    replace hG := grb_trans hG hg2
    replace hoX := hoY
    refine D.done (by kernel_rfl) ?_
    refine fin0 (.inr rfl) ?_
    have hC : Chg (Tch d a) w _ := .of_grown hG (fun g hg => tch_own hg)
    have hz := h.hs
    have hln : (swp l i k).length = l.length := swp_length _ _ _
    have hw : (l.set i (l.getD k 0)).set k (l.getD i 0) = swp l i k := rfl
    refine ⟨rfl, ⟨by rw [hln]; exact hS2, by rw [hln]; exact hoX, h.hs.below (hC.below h.lo h.tch_ge), h.hd, fun x hx ↦ h.el x ((swp_perm l hi hk).mem_iff.1 hx), h.bn, by rw [hln]; exact h.bl⟩, hC⟩
  · refine L.va rfl (X.load rfl sc_3 (Ld.num hr1 hi)) ?_
    refine L.nil ?_
    refine ⟨fun _ => hS, ?_⟩
    refine D.one 16 (by kernel_rfl) rfl ?_
    refine L.va rfl (X.load rfl sc_3 (Ld.num hr1 hk)) ?_
    refine L.nil ?_
    refine ⟨fun _ => hS, ?_⟩
    refine D.va 24 rfl (by kernel_rfl) (fun _ _ _ h => h) rfl (fun w' hw => (by first | exact X.index1n rfl rfl Try.underlying35 sz_3 (by first | exact Option.some_ne_none _ | exact hA) (by omega) | exact X.index1 rfl rfl Try.underlying35 sz_3 (by first | exact Option.some_ne_none _ | exact hA) (by omega))) hS ?_
    refine D.one 25 (by kernel_rfl) rfl ?_
    refine L.storeON rfl rfl (by conv => lhs; whnf) sz_3 (hoX) (by omega) ?_
    intro w2 hoY hg2 hb2 hs2
    have hS1 := hS.grown hg2 (fun e ↦ own_blk_ne hoX hS (by decide) e.symm)
    refine L.nil ?_
    refine ⟨fun _ => hS1, ?_⟩
    replace hG := grb_trans hG hg2
    replace hoX := hoY
    refine D.va 26 rfl (by kernel_rfl) (fun _ _ _ h => h) rfl (fun w' hw => (by first | exact X.index1n rfl rfl Try.underlying35 sz_3 (by first | exact Option.some_ne_none _ | exact hA) (by omega) | exact X.index1 rfl rfl Try.underlying35 sz_3 (by first | exact Option.some_ne_none _ | exact hA) (by omega))) hS1 ?_
    refine D.one 27 (by kernel_rfl) rfl ?_
    refine L.storeON rfl rfl (by conv => lhs; whnf) sz_3 (hoX) (by omega) ?_
    intro w2 hoY hg2 hb2 hs2
    have hS2 := hS1.grown hg2 (fun e ↦ own_blk_ne hoX hS1 (by decide) e.symm)
    refine L.nil ?_
    refine ⟨fun _ => hS2, ?_⟩
    replace hG := grb_trans hG hg2
    replace hoX := hoY
    refine D.done (by kernel_rfl) ?_
    refine fin0 (.inr rfl) ?_
    have hC : Chg (Tch d a) w _ := .of_grown hG (fun g hg => tch_own hg)
    have hz := h.hs
    have hln : (swp l i k).length = l.length := swp_length _ _ _
    have hw : (l.set i (l.getD k 0)).set k (l.getD i 0) = swp l i k := rfl
    refine ⟨rfl, ⟨by rw [hln]; exact hS2, by rw [hln]; exact hoX, h.hs.below (hC.below h.lo h.tch_ge), h.hd, fun x hx ↦ h.el x ((swp_perm l hi hk).mem_iff.1 hx), h.bn, by rw [hln]; exact h.bl⟩, hC⟩
theorem push_ (h : Bq s N d a w l) (hlt : l.length < s.n) {x : Int} (hx : 0 ≤ x ∧ x < (s.n : Int)) : Calls Try.prog 110 #[.pointer (some ⟨d, 0, none⟩), .iface 3 (.int .i64 x)] w fun e w' =>
    e = .returned (.tuple #[]) ∧ ∃ a', Bq s N d a' w' (l ++ [x]) ∧ Chg (Tch d a) w w' ∧ ∀ g, g < w.heap.size → Tch d a' g → Tch d a g := by
  have hb := h.hb
  have hbn := h.bn
  have hlo := h.lo
  refine enter Try.func110 rfl (by kernel_rfl) ?_
  refine J.draw (ℓ := 11) (S := (fun w' => Blk w' d 59 #[s.val, .slice a.1 l.length a.2])) mixed (fun w1 hSE hS_h => ?_)
  have hS : ((fun w' => Blk w' d 59 #[s.val, .slice a.1 l.length a.2])) w1 := hb.ext hSE
  refine D.va 0 rfl (by kernel_rfl) (fun _ _ _ h => h) rfl (fun w' hw => X.move (by conv => lhs; whnf)) hS ?_
  refine D.va 1 rfl (by kernel_rfl) (fun _ _ _ h => h) rfl (fun w' hw => X.move (by conv => lhs; whnf)) hS ?_
  refine D.va 2 rfl (by kernel_rfl) (fun _ _ _ h => h) rfl (fun w' hw => X.nilCheck rfl) hS ?_
  refine D.va 3 rfl (by kernel_rfl) (fun _ _ _ h => h) rfl (fun w' hw => X.fieldAddr rfl Try.underlying59 rfl sz_35 (by decide)) hS ?_
  refine D.va 4 rfl (by kernel_rfl) (fun _ _ _ h => h) rfl (fun w' hw => X.load rfl sc_35 (Ld.blk hw rfl)) hS ?_
  refine D.va 5 rfl (by kernel_rfl) (fun _ _ _ h => h) rfl (fun w' hw => X.move (by conv => lhs; whnf)) hS ?_
  refine D.va 6 rfl (by kernel_rfl) (fun _ _ _ h => h) rfl (fun w' hw => X.assert rfl Try.underlying3 rfl) hS ?_
  refine D.one 7 (by kernel_rfl) rfl ?_
  refine L.bslice (vs := [_]) rfl (Evs.cons (by conv => lhs; whnf) Evs.nil) rfl rfl rfl rfl Try.underlying35 sz_3 zr_3 (by decide) ?_
  intro b2 w2 hb2 hs2 hk2 he2
  have hS1 := hS.ext he2
  refine L.nil ?_
  refine ⟨fun _ => hS1, ?_⟩
  have hf2 := (h.hf.ext hSE).ext he2
  have z2 := (hSE.trans he2).le
  refine D.one 8 (by kernel_rfl) rfl ?_
  refine L.appendQ (q := l.length + 1) (ys := l ++ [x]) rfl rfl rfl Try.underlying35 el_3 (hf2) (blk_readsN (sz := 1) (q := 1) (l := nums .i64 [x]) hk2 hk2.lt rfl) (by omega) (by simp) (by unfold maxLen; omega) (by omega) ?_
  intro A3 c3 w3 ho3 hg3 hb3 hor3
  have hS2 := hS1.grown hg3 (fun e ↦ own_blk_ne hf2 hS1 (by decide) e.symm)
  refine L.nil ?_
  refine ⟨fun _ => hS2, ?_⟩
  refine D.va 9 rfl (by kernel_rfl) (fun _ _ _ h => h) rfl (fun w' hw => X.nilCheck rfl) hS2 ?_
  refine D.va 10 rfl (by kernel_rfl) (fun _ _ _ h => h) rfl (fun w' hw => X.fieldAddr rfl Try.underlying59 rfl sz_35 (by decide)) hS2 ?_
  refine D.one 11 (by kernel_rfl) rfl ?_
  refine L.store rfl rfl (by conv => lhs; whnf) rfl sz_35 (hS2) (by first | decide | exact Nat.le_of_ble_eq_true rfl) ?_
  intro w4 hk4 hg4 hs4
  refine L.nil ?_
  refine ⟨fun h => absurd rfl h, ?_⟩
  refine D.done (by kernel_rfl) ?_
  refine fin0 (.inr rfl) ?_
  have hl : (l ++ [x]).length = l.length + 1 := by simp
  have k1 : Chg (Tch d a) w w2 := .of_ext (hSE.trans he2)
  have k2 : Chg (Tch d a) w2 w3 := .of_grown hg3 (fun g hg => tch_own hg)
  have k3 : Chg (Tch d a) w3 w4 := .of_grown hg4 (fun g hg => .inl (by injection hg with hg; exact hg.symm))
  have hC := (k1.trans k2 (fun _ _ hh => hh)).trans k3 (fun _ _ hh => hh)
  refine ⟨rfl, (A3, c3), ⟨by rw [hl]; exact hk4, by rw [hl]; exact ho3.kept hg4 (.inr (own_blk_ne ho3 hS2 (by decide))), h.hs.below (hC.below hlo h.tch_ge), h.hd, ?_, hbn, by rw [hl]; exact hlt⟩, hC, ?_⟩
  · intro y hy
    rcases List.mem_append.1 hy with hy | hy
    · exact h.el y hy
    · rw [List.mem_singleton] at hy
      rw [hy]; exact hx
  · intro g hgw hg
    rcases hg with hg | hg
    · exact .inl hg
    · replace hg := (own_n A3 (l.length + 1) 0 c3).trans hg
      rcases hor3 with e | e
      · rw [e] at hg; exact tch_own hg
      · rw [e] at hg
        injection hg with hg
        omega
theorem pop_ (h : Bq s N d a w l) (hpos : 0 < l.length) : Calls Try.prog 109 #[.pointer (some ⟨d, 0, none⟩)] w fun e w' =>
    e = .returned (.iface 3 (.int .i64 (l.getD (l.length - 1) 0))) ∧ Bq s N d a w' (l.take (l.length - 1)) ∧ Chg (Tch d a) w w' := by
  have hb := h.hb
  have hr := Reads.of_own h.hf
  have hc := own_le' h.hf
  have hbn := h.bn
  have hbl := h.bl
  refine enter Try.func109 rfl (by kernel_rfl) ?_
  refine J.seq ?_
  refine J.region ?_
  refine L.va rfl (X.assign (by conv => lhs; whnf)) ?_
  refine L.nil ?_
  refine J.seq ?_
  refine J.region ?_
  refine L.va rfl (X.move (by conv => lhs; whnf)) ?_
  refine L.va rfl (X.nilCheck rfl) ?_
  refine L.va rfl (X.fieldAddr rfl Try.underlying59 rfl sz_35 (by decide)) ?_
  refine L.va rfl (X.load rfl sc_35 (by first | exact Ld.num hr (by omega) | exact Ld.blk hb rfl)) ?_
  refine L.va rfl (X.len rfl Try.underlying35) ?_
  refine L.va rfl (X.sub rfl rfl (by omega)) ?_
  refine L.va rfl (X.assign (by conv => lhs; whnf)) ?_
  refine L.nil ?_
  refine J.seq ?_
  refine J.region ?_
  refine L.va rfl (X.move (by conv => lhs; whnf)) ?_
  refine L.va rfl (X.nilCheck rfl) ?_
  refine L.va rfl (X.fieldAddr rfl Try.underlying59 rfl sz_35 (by decide)) ?_
  refine L.va rfl (X.load rfl sc_35 (by first | exact Ld.num hr (by omega) | exact Ld.blk hb rfl)) ?_
  refine L.va rfl (X.move (by conv => lhs; whnf)) ?_
  refine L.va rfl (X.index1n (j := l.length - 1) rfl (show Value.int .i64 ((l.length : Int) - 1) = _ from by rw [show ((l.length : Int) - 1) = ((l.length - 1 : Nat) : Int) by omega]) Try.underlying35 sz_3 (hr.some_ (by omega)) (by omega)) ?_
  refine L.va rfl (X.load rfl sc_3 (Ld.num hr (j := l.length - 1) (by omega))) ?_
  refine L.va rfl (X.assign (by conv => lhs; whnf)) ?_
  refine L.nil ?_
  refine J.seq ?_
  refine J.region ?_
  refine L.va rfl (X.move (by conv => lhs; whnf)) ?_
  refine L.va rfl (X.move (by conv => lhs; whnf)) ?_
  refine L.va rfl (X.nilCheck rfl) ?_
  refine L.va rfl (X.fieldAddr rfl Try.underlying59 rfl sz_35 (by decide)) ?_
  refine L.va rfl (X.load rfl sc_35 (by first | exact Ld.num hr (by omega) | exact Ld.blk hb rfl)) ?_
  refine L.va rfl (X.move (by conv => lhs; whnf)) ?_
  refine L.va rfl (X.sliceTon (j := l.length - 1) rfl (show Value.int .i64 ((l.length : Int) - 1) = _ from by rw [show ((l.length : Int) - 1) = ((l.length - 1 : Nat) : Int) by omega]) Try.underlying35 sz_3 (by omega)) ?_
  refine L.va rfl (X.nilCheck rfl) ?_
  refine L.va rfl (X.fieldAddr rfl Try.underlying59 rfl sz_35 (by decide)) ?_
  refine L.store rfl rfl (by conv => lhs; whnf) rfl sz_35 (hb) (by first | decide | exact Nat.le_of_ble_eq_true rfl) ?_
  intro w1 hk1 hg1 hs1
  refine L.nil ?_
  refine J.seq ?_
  refine J.region ?_
  refine L.va rfl (X.move (by conv => lhs; whnf)) ?_
  refine L.va rfl (X.mkI rfl Try.underlying3 rfl) ?_
  refine L.va rfl (X.assign (by conv => lhs; whnf)) ?_
  refine L.nil ?_
  refine J.ret ?_
  refine fin1 ?_
  have hl : (l.take (l.length - 1)).length = l.length - 1 := by simp
  have hC : Chg (Tch d a) w w1 := .of_grown hg1 (fun g hg => .inl (by injection hg with hg; exact hg.symm))
  refine ⟨rfl, ⟨by rw [hl]; exact hk1, ?_, h.hs.below (hC.below h.lo h.tch_ge), h.hd, fun x hx => h.el x (List.mem_of_mem_take hx), hbn, by omega⟩, hC⟩
  rw [hl]
  exact (own_cutN h.hf (by omega)).kept hg1 (.inr (own_blk_ne (own_cutN h.hf (show l.length - 1 ≤ l.length by omega)) hb (by decide)))
theorem kit (s : Bys) (N d : Nat) (a : Option Addr × Nat) : HeapM 57 (.pointer (some ⟨d, 0, none⟩)) (kap (ahL s.ks) s.n) (Tch d a) (Bq s N d a) where
  ext := fun h he => h.ext he
  big := fun h => Nat.le_trans h.bl h.bn
  len := fun h => ⟨_, _, mtd_ptr (by unfold Has; kernel_rfl) Try.underlying57 en_26, h.len_⟩
  less := fun {w l i k} h hi hk => ⟨_, _, mtd_ptr (by unfold Has; kernel_rfl) Try.underlying57 en_108, by
    have e : decide (kap (ahL s.ks) s.n (l.getD i 0) < kap (ahL s.ks) s.n (l.getD k 0)) = ahL s.ks (l.getD k 0).toNat (l.getD i 0).toNat := by
      have h1 := h.at_ hi
      have h2 := h.at_ hk
      have := (ahL_ord s.ks).lt_iff (n := s.n) (a := (l.getD k 0).toNat) (b := (l.getD i 0).toNat) (by omega) (by omega)
      rw [← kap_lt] at this
      cases q : ahL s.ks (l.getD k 0).toNat (l.getD i 0).toNat with
      | true => rw [q] at this; exact decide_eq_true (this.2 rfl)
      | false => rw [q] at this; exact decide_eq_false (fun hh => by cases this.1 hh)
    rw [e]
    exact h.less_ hi hk⟩
  swap := fun h hi hk => ⟨_, _, mtd_ptr (by unfold Has; kernel_rfl) Try.underlying57 en_111, h.swap_ hi hk⟩
  pop := fun h hpos => ⟨_, _, mtd_ptr (by unfold Has; kernel_rfl) Try.underlying57 en_109, h.pop_ hpos⟩
theorem hpush (h : Bq s N d a w l) (hlt : l.length < s.n) {x : Int} (hx : 0 ≤ x ∧ x < (s.n : Int)) : Calls Try.prog 27 #[.iface 57 (.pointer (some ⟨d, 0, none⟩)), .iface 3 (.int .i64 x)] w fun e w' =>
    e = .returned (.tuple #[]) ∧ ∃ a', Bq s N d a' w' (siftUk (kap (ahL s.ks) s.n) (l.length + 1) (l ++ [x]) l.length) ∧ Chg (Tch d a) w w' ∧ ∀ g, g < w.heap.size → Tch d a' g → Tch d a g :=
  HeapM.push_ (kit s N d) h ⟨_, _, mtd_ptr (by unfold Has; kernel_rfl) Try.underlying57 en_110, h.push_ hlt hx⟩
end Bq
end Go.Proofs.Ytnndkepnabddgaa
namespace Go.Proofs.Ytnndkepnabddgaa
set_option maxRecDepth 100000
open Go.RowKit H HeapK
set_option linter.unusedVariables false
structure HeapP (t : TypeId) (v : Value) (κ : Int → Int) (P : Int → Prop) (S : Nat → Prop) (h : World → List Int → Prop) : Prop where
  ext : ∀ {w w' : World} {l : List Int}, h w l → Ext w w' → h w' l
  big : ∀ {w : World} {l : List Int}, h w l → l.length ≤ 900000
  len : ∀ {w : World} {l : List Int}, h w l → ∃ rv c, Mtd Try.prog t v rv "Len" c w ∧ Calls Try.prog c #[rv] w fun e w' => e = .returned (.int .i64 (l.length : Int)) ∧ w = w'
  less : ∀ {w : World} {l : List Int} {i k : Nat}, h w l → i < l.length → k < l.length → P (l.getD i 0) → P (l.getD k 0) → ∃ rv c, Mtd Try.prog t v rv "Less" c w ∧ Calls Try.prog c #[rv, .int .i64 (i : Int), .int .i64 (k : Int)] w fun e w' => e = .returned (.bool (decide (κ (l.getD i 0) < κ (l.getD k 0)))) ∧ Ext w w'
  swap : ∀ {w : World} {l : List Int} {i k : Nat}, h w l → i < l.length → k < l.length → ∃ rv c, Mtd Try.prog t v rv "Swap" c w ∧ Calls Try.prog c #[rv, .int .i64 (i : Int), .int .i64 (k : Int)] w fun e w' => e = .returned (.tuple #[]) ∧ h w' (swp l i k) ∧ Chg S w w'
  pop : ∀ {w : World} {l : List Int}, h w l → 0 < l.length → ∃ rv c, Mtd Try.prog t v rv "Pop" c w ∧ Calls Try.prog c #[rv] w fun e w' => e = .returned (.iface 3 (.int .i64 (l.getD (l.length - 1) 0))) ∧ h w' (l.take (l.length - 1)) ∧ Chg S w w'
namespace HeapP
variable {t : TypeId} {v : Value} {κ : Int → Int} {P : Int → Prop} {S : Nat → Prop} {h : World → List Int → Prop}
theorem tr {a b c : World} (x : Chg S a b) (y : Chg S b c) : Chg S a c := x.trans y (fun _ _ hh => hh)
theorem swp_P {l : List Int} {a j n : Nat} (ha : a < n) (hj : j < n) (hn : n ≤ l.length) (hP : ∀ q, q < n → P (l.getD q 0)) : ∀ q, q < n → P ((swp l a j).getD q 0) := fun q hq => by
  rw [swp_at l (by omega) (by omega)]
  split
  · exact hP _ ha
  · split
    · exact hP _ hj
    · exact hP _ hq
theorem perm_P {l m : List Int} (hp : m.Perm l) (hP : ∀ q, q < l.length → P (l.getD q 0)) : ∀ q, q < m.length → P (m.getD q 0) := fun q hq => by
  have hm : m.getD q 0 ∈ l := hp.mem_iff.1 (by rw [List.getD, List.getElem?_eq_getElem hq]; exact List.getElem_mem _)
  obtain ⟨k, hk, e⟩ := List.getElem_of_mem hm
  have := hP k hk
  rw [List.getD, List.getElem?_eq_getElem hk] at this
  rw [← e]
  exact this
theorem down_ (K : HeapP t v κ P S h) {w : World} {l : List Int} (h0 : h w l) (i n : Nat) (hn : n ≤ l.length) (hi : i ≤ l.length) (hP : ∀ q, q < n → P (l.getD q 0)) : Calls Try.prog 31 #[.iface t v, .int .i64 (i : Int), .int .i64 (n : Int)] w fun e w' =>
    (∃ b, e = .returned (.bool b)) ∧ h w' (siftDk κ l.length l i n) ∧ Chg S w w' := by
  have hm := K.big h0
  refine enter Try.func31 rfl (by kernel_rfl) ?_
  refine J.seq ?_
  refine J.region ?_
  refine L.va rfl (X.assign (by conv => lhs; whnf)) ?_
  refine L.nil ?_
  refine J.seq ?_
  refine J.region ?_
  refine L.va rfl (X.move (by conv => lhs; whnf)) ?_
  refine L.va rfl (X.assign (by conv => lhs; whnf)) ?_
  refine L.nil ?_
  refine J.seq ?_
  refine J.block ?_
  refine J.loop (X := Nat × Nat × List Int) [7, 8, 9, 10, 12, 13, 14, 15, 16, 17, 18, 19, 20, 21, 22, 23, 24, 25, 26, 27, 28, 29, 30, 31, 32, 33, 34, 35, 36, 37, 38, 39, 40, 41, 42, 43, 44] (fun x => [(7, .int .i64 (x.1 : Int))]) (fun x w' => x.2.2.length = l.length ∧ x.1 ≤ l.length ∧ l.length ≤ x.1 + x.2.1 ∧ h w' x.2.2 ∧ Chg S w w' ∧ siftDk κ x.2.1 x.2.2 x.1 n = siftDk κ l.length l i n ∧ ∀ q, q < n → P (x.2.2.getD q 0)) (fun x => x.2.1) ((i, l.length, l)) (At1 (by first | rfl | exact at_int rfl (by omega) | exact at_slice rfl (by omega) | exact at_int rfl (by simp))) ?_ ?_
  · exact ⟨rfl, hi, by dsimp only; omega, h0, .of_ext (Ext.refl _), rfl, hP⟩
  · rintro ⟨a, f, m⟩ g w2 ⟨hl, ha, hf, H, hG, hS, hPm⟩
    dsimp only at hl ha hf H hS hPm
    have q1 : ((a, f, m) : Nat × Nat × List Int).1 = a := rfl
    refine J.block ?_
    refine J.seq ?_
    refine J.region ?_
    refine L.va rfl (X.move (by conv => lhs; whnf)) ?_
    refine L.va rfl (X.mul rfl rfl (by omega)) ?_
    refine L.va rfl (X.add rfl rfl (by omega)) ?_
    refine L.va rfl (X.assign (by conv => lhs; whnf)) ?_
    refine L.nil ?_
    refine J.seq ?_
    refine J.seq ?_
    refine J.region ?_
    refine L.va rfl (X.move (by conv => lhs; whnf)) ?_
    refine L.va rfl (X.move (by conv => lhs; whnf)) ?_
    refine L.va rfl (X.geq rfl rfl) ?_
    refine L.va rfl (X.move (by conv => lhs; whnf)) ?_
    refine L.caseDec (k := 18) rfl (fun h1 => ?_) (fun h1 => ?_)
    · have e : siftDk κ f m a n = m := by
        cases f with
        | zero => rfl
        | succ f => unfold siftDk; rw [if_pos (by omega)]
      rw [e] at hS
      rw [hS] at H
      refine L.no rfl ?_
      refine L.no rfl ?_
      refine L.va rfl (X.pickT rfl (by conv => lhs; whnf)) ?_
      refine L.nil ?_
      refine J.iteT rfl ?_
      refine J.exit ?_
      refine J.seq ?_
      refine J.region ?_
      refine L.va rfl (X.move (by conv => lhs; whnf)) ?_
      refine L.va rfl (X.move (by conv => lhs; whnf)) ?_
      refine L.va rfl (X.gtr rfl rfl) ?_
      refine L.va rfl (X.assign (by conv => lhs; whnf)) ?_
      refine L.nil ?_
      refine J.ret ?_
      refine fin1 ?_
      exact ⟨⟨_, rfl⟩, H, hG⟩
    · have h1' : 2 * a + 1 < n := by omega
      obtain ⟨f', rfl⟩ : ∃ f', f = f' + 1 := ⟨f - 1, by omega⟩
      obtain ⟨p1, p2, p3⟩ := pickCk_lt (κ := κ) (l := m) h1'
      have eS : siftDk κ (f' + 1) m a n = if κ (m.getD (pickCk κ m a n) 0) < κ (m.getD a 0) then siftDk κ f' (swp m a (pickCk κ m a n)) (pickCk κ m a n) n else m := by
        rw [siftDk, if_neg (by omega)]
      rw [eS] at hS
      refine L.va rfl (X.move (by conv => lhs; whnf)) ?_
      refine L.va rfl (X.lss rfl rfl) ?_
      refine L.va rfl (X.pickF rfl (by conv => lhs; whnf)) ?_
      refine L.nil ?_
      refine J.decF rfl (by omega) ?_
      refine J.skip ?_
      refine J.seq ?_
      refine J.region ?_
      refine L.va rfl (X.move (by conv => lhs; whnf)) ?_
      refine L.va rfl (X.assign (by conv => lhs; whnf)) ?_
      refine L.nil ?_
      refine J.cut (X := Unit) [9, 10, 23, 24, 25, 26, 27, 28, 29, 30, 31, 32, 33, 34] (fun _ => [(9, .int .i64 ((pickCk κ m a n : Nat) : Int))]) (fun _ w' => Ext w2 w') ?_ ?_
      · refine J.seq ?_
        refine J.region ?_
        refine L.va rfl (X.move (by conv => lhs; whnf)) ?_
        refine L.va rfl (X.add rfl rfl (by omega)) ?_
        refine L.va rfl (X.assign (by conv => lhs; whnf)) ?_
        refine L.nil ?_
        refine J.seq ?_
        refine J.region ?_
        refine L.va rfl (X.move (by conv => lhs; whnf)) ?_
        refine L.va rfl (X.move (by conv => lhs; whnf)) ?_
        refine L.va rfl (X.lss rfl rfl) ?_
        refine L.va rfl (X.move (by conv => lhs; whnf)) ?_
        refine L.caseDec (k := 28) rfl (fun h2 => ?_) (fun h2 => ?_)
        · have h2' : 2 * a + 2 < n := by omega
          obtain ⟨rv, c, hM, hC⟩ := K.less (i := 2 * a + 2) (k := 2 * a + 1) H (by omega) (by omega) (hPm _ (by omega)) (hPm _ (by omega))
          refine L.va rfl (X.move (by conv => lhs; whnf)) ?_
          refine L.va rfl (X.move (by conv => lhs; whnf)) ?_
          refine L.va rfl (X.move (by conv => lhs; whnf)) ?_
          refine L.invoke rfl rfl (hM) rfl (hC) ?_
          rintro e w3 ⟨rfl, he3⟩
          refine ⟨_, rfl, ?_⟩
          have he3 : Ext w2 w3 := he3
          refine L.va rfl (X.pickT rfl (by conv => lhs; whnf)) ?_
          refine L.nil ?_
          by_cases h3 : κ (m.getD (2 * a + 2) 0) < κ (m.getD (2 * a + 1) 0)
          · rw [decide_eq_true h3]
            refine J.iteT rfl ?_
            refine J.region ?_
            refine L.va rfl (X.move (by conv => lhs; whnf)) ?_
            refine L.va rfl (X.assign (by conv => lhs; whnf)) ?_
            refine L.nil ?_
            refine ⟨(), At1 (at_int rfl (by rw [pickCk, if_pos ⟨h2', h3⟩]; omega)), (by (iterate 15 refine Agr.lk rfl ?_); exact Agr.rfl'), ?_⟩
            exact he3
          · rw [decide_eq_false h3]
            refine J.iteF rfl ?_
            refine J.skip ?_
            refine ⟨(), At1 (at_int rfl (by rw [pickCk, if_neg (fun hh => h3 hh.2)]; omega)), (by (iterate 13 refine Agr.lk rfl ?_); exact Agr.rfl'), ?_⟩
            exact he3
        · refine L.no rfl ?_
          refine L.no rfl ?_
          refine L.no rfl ?_
          refine L.no rfl ?_
          refine L.va rfl (X.pickF rfl (by conv => lhs; whnf)) ?_
          refine L.nil ?_
          refine J.iteF rfl ?_
          refine J.skip ?_
          refine ⟨(), At1 (at_int rfl (by rw [pickCk, if_neg (fun hh => by omega)]; omega)), (by (iterate 13 refine Agr.lk rfl ?_); exact Agr.rfl'), ?_⟩
          exact Ext.refl _
      · rintro ⟨⟩ g w3 he3
        have H3 := K.ext H he3
        generalize pickCk κ m a n = j at *
        obtain ⟨rv, c, hM, hC⟩ := K.less (i := j) (k := a) H3 (by omega) (by omega) (hPm _ (by omega)) (hPm _ (by omega))
        refine J.seq ?_
        refine J.seq ?_
        refine J.region ?_
        refine L.va rfl (X.move (by conv => lhs; whnf)) ?_
        refine L.va rfl (X.move (by conv => lhs; whnf)) ?_
        refine L.va rfl (X.move (by conv => lhs; whnf)) ?_
        refine L.invoke rfl rfl (hM) rfl (hC) ?_
        rintro e w4 ⟨rfl, he4⟩
        refine ⟨_, rfl, ?_⟩
        have he4 : Ext w3 w4 := he4
        have H4 := K.ext H3 he4
        refine L.va rfl (X.not rfl) ?_
        refine L.nil ?_
        by_cases h3 : κ (m.getD j 0) < κ (m.getD a 0)
        · rw [decide_eq_true h3]
          rw [if_pos h3] at hS
          obtain ⟨rv, c, hM, hC⟩ := K.swap (i := a) (k := j) H4 (by omega) (by omega)
          refine J.iteF rfl ?_
          refine J.skip ?_
          refine J.seq ?_
          refine J.region ?_
          refine L.va rfl (X.move (by conv => lhs; whnf)) ?_
          refine L.va rfl (X.move (by conv => lhs; whnf)) ?_
          refine L.va rfl (X.move (by conv => lhs; whnf)) ?_
          refine L.invoke rfl rfl (hM) rfl (hC) ?_
          rintro e w5 ⟨rfl, H5, hg5⟩
          refine ⟨_, rfl, ?_⟩
          refine L.nil ?_
          refine J.region ?_
          refine L.va rfl (X.move (by conv => lhs; whnf)) ?_
          refine L.va rfl (X.assign (by conv => lhs; whnf)) ?_
          refine L.nil ?_
          refine ⟨(j, f', swp m a j), At1 (by first | rfl | exact at_int rfl (by omega) | exact at_slice rfl (by omega) | exact at_int rfl (by simp)), (by (iterate 11 refine Agr.lk rfl ?_); refine Agr.lk rfl ?_; refine Agr.hav rfl ?_; (iterate 14 refine Agr.lk rfl ?_); exact Agr.lk rfl (Agr.hav rfl Agr.rfl')), ?_⟩
          exact ⟨⟨by dsimp only; rw [swp_length]; exact hl, by dsimp only; omega, by dsimp only; omega, H5, tr hG (tr (.of_ext (he3.trans he4)) hg5), hS, by dsimp only; exact swp_P (by omega) (by omega) (by omega) hPm⟩, by dsimp only; omega⟩
        · rw [decide_eq_false h3]
          rw [if_neg h3] at hS
          rw [hS] at H4
          refine J.iteT rfl ?_
          refine J.exit ?_
          refine J.seq ?_
          refine J.region ?_
          refine L.va rfl (X.move (by conv => lhs; whnf)) ?_
          refine L.va rfl (X.move (by conv => lhs; whnf)) ?_
          refine L.va rfl (X.gtr rfl rfl) ?_
          refine L.va rfl (X.assign (by conv => lhs; whnf)) ?_
          refine L.nil ?_
          refine J.ret ?_
          refine fin1 ?_
          exact ⟨⟨_, rfl⟩, H4, tr hG (.of_ext (he3.trans he4))⟩
theorem up0_ (t : TypeId) (v : Value) (w : World) : Calls Try.prog 50 #[.iface t v, .int .i64 0] w fun e w' => e = .returned (.tuple #[]) ∧ w = w' := by
  refine enter Try.func50 rfl (by kernel_rfl) ?_
  refine J.block ?_
  refine J.loop (X := Unit) [1, 4, 5, 6, 7, 8, 9, 10, 11, 12, 13, 14, 15, 16, 17, 18, 19, 20, 21, 22] (fun _ => [(1, .int .i64 0)]) (fun _ w' => w = w') (fun _ => 0) (()) (At1 (by first | rfl | exact at_int rfl (by omega) | exact at_slice rfl (by omega) | exact at_int rfl (by simp))) ?_ ?_
  · exact rfl
  · rintro ⟨⟩ g w2 rfl
    have hdiv : ((0 : Int) - 1).tdiv 2 = 0 := rfl
    have hwr : IntKind.i64.wrap 0 = 0 := rfl
    refine J.block ?_
    refine J.seq ?_
    refine J.region ?_
    refine L.va rfl (X.move (by conv => lhs; whnf)) ?_
    refine L.va rfl (X.sub rfl rfl (by omega)) ?_
    refine L.va rfl (X.quow rfl rfl (by decide)) ?_
    refine L.va rfl (X.assign (by conv => lhs; whnf)) ?_
    refine L.nil ?_
    rw [hdiv, hwr]
    refine J.seq ?_
    refine J.seq ?_
    refine J.region ?_
    refine L.va rfl (X.move (by conv => lhs; whnf)) ?_
    refine L.va rfl (X.move (by conv => lhs; whnf)) ?_
    refine L.va rfl (X.eql rfl rfl) ?_
    refine L.va rfl (X.move (by conv => lhs; whnf)) ?_
    refine L.caseDecT (k := 11) rfl (by rfl) ?_
    refine L.no rfl ?_
    refine L.no rfl ?_
    refine L.no rfl ?_
    refine L.no rfl ?_
    refine L.no rfl ?_
    refine L.va rfl (X.pickT rfl (by conv => lhs; whnf)) ?_
    refine L.nil ?_
    refine J.iteT rfl ?_
    refine J.exit ?_
    refine thn_exit <| inB_ne rfl <| thn_exit <| inB_eq ?_
    refine fin0 (.inr rfl) ?_
    exact ⟨rfl, rfl⟩
theorem init_ (K : HeapP t v κ P S h) {w : World} {l : List Int} (h0 : h w l) (hP : ∀ q, q < l.length → P (l.getD q 0)) : Calls Try.prog 15 #[.iface t v] w fun e w' =>
    e = .returned (.tuple #[]) ∧ h w' (initHk κ l (l.length / 2)) ∧ Chg S w w' := by
  have hm := K.big h0
  have e0 : ((l.length : Nat) : Int) / 2 = ((l.length / 2 : Nat) : Int) := by omega
  obtain ⟨rv, c, hM, hC⟩ := K.len h0
  refine enter Try.func15 rfl (by kernel_rfl) ?_
  refine J.seq ?_
  refine J.region ?_
  refine L.va rfl (X.move (by conv => lhs; whnf)) ?_
  refine L.invoke rfl rfl (hM) rfl (hC) ?_
  rintro e _ ⟨rfl, rfl⟩
  refine ⟨_, rfl, ?_⟩
  refine L.va rfl (X.assign (by conv => lhs; whnf)) ?_
  refine L.nil ?_
  refine J.seq ?_
  refine J.region ?_
  refine L.va rfl (X.move (by conv => lhs; whnf)) ?_
  refine L.va rfl (X.quo rfl rfl (by omega)) ?_
  refine L.va rfl (X.sub rfl rfl (by omega)) ?_
  refine L.va rfl (X.assign (by conv => lhs; whnf)) ?_
  refine L.nil ?_
  refine J.block ?_
  refine J.loop (X := Nat × List Int) [3, 9, 10, 11, 12, 13, 14, 15, 16] (fun x => [(3, .int .i64 ((x.1 : Int) - 1))]) (fun x w' => x.1 ≤ l.length ∧ x.2.length = l.length ∧ h w' x.2 ∧ Chg S w w' ∧ initHk κ x.2 x.1 = initHk κ l (l.length / 2) ∧ ∀ q, q < x.2.length → P (x.2.getD q 0)) (fun x => x.1) ((l.length / 2, l)) (At1 (by first | rfl | exact at_int rfl (by omega) | exact at_slice rfl (by omega) | exact at_int rfl (by simp))) ?_ ?_
  · exact ⟨by dsimp only; omega, rfl, h0, .of_ext (Ext.refl _), rfl, hP⟩
  · rintro ⟨k, m⟩ g w2 ⟨hk, hl, H, hG, hS, hPm⟩
    dsimp only at hk hl H hS hPm
    have q1 : ((k, m) : Nat × List Int).1 = k := rfl
    refine J.seq ?_
    refine J.seq ?_
    refine J.region ?_
    refine L.va rfl (X.move (by conv => lhs; whnf)) ?_
    refine L.va rfl (X.geq rfl rfl) ?_
    refine L.nil ?_
    refine J.dec rfl (fun hge => ?_) (fun hge => ?_)
    · obtain ⟨k', rfl⟩ : ∃ k', k = k' + 1 := ⟨k - 1, by dsimp only at hge; omega⟩
      have ek : ((k' + 1 : Nat) : Int) - 1 = (k' : Int) := by omega
      have cD := K.down_ H k' l.length (by omega) (by omega) (fun q hq => hPm q (by omega))
      rw [← ek] at cD
      refine J.skip ?_
      refine J.seq ?_
      refine J.block ?_
      refine J.region ?_
      refine L.va rfl (X.move (by conv => lhs; whnf)) ?_
      refine L.va rfl (X.move (by conv => lhs; whnf)) ?_
      refine L.va rfl (X.move (by conv => lhs; whnf)) ?_
      refine L.call rfl en_31 rfl (cD) ?_
      rintro e w3 ⟨⟨b, rfl⟩, H3, hg3⟩
      refine ⟨_, rfl, ?_⟩
      refine L.nil ?_
      refine J.region ?_
      refine L.va rfl (X.move (by conv => lhs; whnf)) ?_
      refine L.va rfl (X.sub rfl rfl (by omega)) ?_
      refine L.va rfl (X.assign (by conv => lhs; whnf)) ?_
      refine L.nil ?_
      refine ⟨(k', siftDk κ m.length m k' l.length), At1 (by first | rfl | exact at_int rfl (by omega) | exact at_slice rfl (by omega) | exact at_int rfl (by simp)), (by (iterate 9 refine Agr.lk rfl ?_); exact Agr.lk rfl (Agr.hav rfl Agr.rfl')), ?_⟩
      refine ⟨⟨by dsimp only; omega, by dsimp only; rw [siftDk_length]; exact hl, H3, tr hG hg3, ?_, by dsimp only; exact perm_P (siftDk_perm _ _ _ _ (by omega)) hPm⟩, by dsimp only; omega⟩
      rw [← hS]
      show initHk κ (siftDk κ m.length m k' l.length) k' = initHk κ (siftDk κ m.length m k' m.length) k'
      rw [hl]
    · obtain rfl : k = 0 := by dsimp only at hge; omega
      have e : m = initHk κ l (l.length / 2) := hS
      rw [e] at H
      refine J.exit ?_
      refine thn_exit <| thn_exit <| inB_eq ?_
      refine fin0 (.inr rfl) ?_
      exact ⟨rfl, H, hG⟩
theorem pop_ (K : HeapP t v κ P S h) {w : World} {l : List Int} (h0 : h w l) (hpos : 0 < l.length) (hP : ∀ q, 0 < q → q < l.length → P (l.getD q 0)) : Calls Try.prog 30 #[.iface t v] w fun e w' =>
    e = .returned (.iface 3 (.int .i64 (l.getD 0 0))) ∧ h w' ((siftDk κ l.length (swp l 0 (l.length - 1)) 0 (l.length - 1)).take (l.length - 1)) ∧ Chg S w w' := by
  have hm := K.big h0
  have hl1 : (swp l 0 (l.length - 1)).length = l.length := swp_length _ _ _
  have en : ((l.length : Nat) : Int) - 1 = ((l.length - 1 : Nat) : Int) := by omega
  obtain ⟨rv, c, hM, hC⟩ := K.len h0
  obtain ⟨rv1, d1, hM1, hC1⟩ := K.swap (i := 0) (k := l.length - 1) h0 (by omega) (by omega)
  rw [← en] at hC1
  refine enter Try.func30 rfl (by kernel_rfl) ?_
  refine J.seq ?_
  refine J.region ?_
  refine L.va rfl (X.assign (by conv => lhs; whnf)) ?_
  refine L.nil ?_
  refine J.seq ?_
  refine J.region ?_
  refine L.va rfl (X.move (by conv => lhs; whnf)) ?_
  refine L.invoke rfl rfl (hM) rfl (hC) ?_
  rintro e _ ⟨rfl, rfl⟩
  refine ⟨_, rfl, ?_⟩
  refine L.va rfl (X.sub rfl rfl (by omega)) ?_
  refine L.va rfl (X.assign (by conv => lhs; whnf)) ?_
  refine L.nil ?_
  refine J.seq ?_
  refine J.region ?_
  refine L.va rfl (X.move (by conv => lhs; whnf)) ?_
  refine L.va rfl (X.move (by conv => lhs; whnf)) ?_
  refine L.invoke rfl rfl (hM1) rfl (hC1) ?_
  rintro e w1 ⟨rfl, H1, hg1⟩
  refine ⟨_, rfl, ?_⟩
  have c2 := K.down_ H1 0 (l.length - 1) (by omega) (by omega) (fun q hq => by
    rw [swp_at l (by omega) (by omega), if_neg (by omega)]
    split
    · exact hP _ (by omega) (by omega)
    · exact hP _ (by omega) (by omega))
  rw [← en] at c2
  refine L.nil ?_
  refine J.seq ?_
  refine J.region ?_
  refine L.va rfl (X.move (by conv => lhs; whnf)) ?_
  refine L.va rfl (X.move (by conv => lhs; whnf)) ?_
  refine L.call rfl en_31 rfl (c2) ?_
  rintro e w2 ⟨⟨b, rfl⟩, H2, hg2⟩
  refine ⟨_, rfl, ?_⟩
  rw [hl1] at H2
  have hl2 : (siftDk κ l.length (swp l 0 (l.length - 1)) 0 (l.length - 1)).length = l.length := by rw [siftDk_length, swp_length]
  obtain ⟨rv3, d3, hM3, c3⟩ := K.pop H2 (by omega)
  rw [hl2, siftDk_past _ _ _ _ (by omega) _ (Nat.le_refl _), swp_at l (by omega) (by omega), if_pos rfl] at c3
  refine L.nil ?_
  refine J.seq ?_
  refine J.region ?_
  refine L.va rfl (X.move (by conv => lhs; whnf)) ?_
  refine L.invoke rfl rfl (hM3) rfl (c3) ?_
  rintro e w3 ⟨rfl, H3, hg3⟩
  refine ⟨_, rfl, ?_⟩
  refine L.va rfl (X.assign (by conv => lhs; whnf)) ?_
  refine L.nil ?_
  refine J.ret ?_
  refine fin1 ?_
  exact ⟨rfl, H3, tr (tr hg1 hg2) hg3⟩
theorem fix_ (K : HeapP t v κ P S h) {w : World} {l : List Int} (h0 : h w l) (hpos : 0 < l.length) (hP : ∀ q, q < l.length → P (l.getD q 0)) : Calls Try.prog 29 #[.iface t v, .int .i64 0] w fun e w' =>
    e = .returned (.tuple #[]) ∧ h w' (siftDk κ l.length l 0 l.length) ∧ Chg S w w' := by
  have hm := K.big h0
  obtain ⟨rv, c, hM, hC⟩ := K.len h0
  have c2 := K.down_ h0 0 l.length (Nat.le_refl _) (by omega) hP
  refine enter Try.func29 rfl (by kernel_rfl) ?_
  refine J.seq ?_
  refine J.region ?_
  refine L.va rfl (X.move (by conv => lhs; whnf)) ?_
  refine L.va rfl (X.move (by conv => lhs; whnf)) ?_
  refine L.va rfl (X.move (by conv => lhs; whnf)) ?_
  refine L.invoke rfl rfl (hM) rfl (hC) ?_
  rintro e _ ⟨rfl, rfl⟩
  refine ⟨_, rfl, ?_⟩
  refine L.call rfl en_31 rfl (c2) ?_
  rintro e w2 ⟨⟨b, rfl⟩, H2, hg2⟩
  refine ⟨_, rfl, ?_⟩
  have c3 := up0_ t v w2
  refine L.va rfl (X.not rfl) ?_
  refine L.nil ?_
  cases b
  · refine J.iteT rfl ?_
    refine J.region ?_
    refine L.va rfl (X.move (by conv => lhs; whnf)) ?_
    refine L.va rfl (X.move (by conv => lhs; whnf)) ?_
    refine L.call rfl en_50 rfl (c3) ?_
    rintro e _ ⟨rfl, rfl⟩
    refine ⟨_, rfl, ?_⟩
    refine L.nil ?_
    refine fin0 (.inr rfl) ?_
    exact ⟨rfl, H2, hg2⟩
  · refine J.iteF rfl ?_
    refine J.skip ?_
    refine fin0 (.inr rfl) ?_
    exact ⟨rfl, H2, hg2⟩
end HeapP
end Go.Proofs.Ytnndkepnabddgaa
namespace Go.Proofs.Ytnndkepnabddgaa
set_option maxRecDepth 100000
open Go.RowKit H
open Odr Tou HeapK
set_option linter.unusedVariables false
abbrev Ces.vs (s : Ces) : List Value := [.slice s.A s.n s.c]
def ces0 : Ces := ⟨none, 0, 0, []⟩
theorem cs_len (s : Ces) : s.vs.length = 1 := rfl
theorem gtS {l : List Ces} {i : Nat} (h : i < l.length) : l[i]? = some (l.getD i ces0) := by rw [List.getD, List.getElem?_eq_getElem h]; rfl
abbrev hkey (s : Ces) : Nat := (s.l.getD 0 ce0).k
def kapH (ls : List Ces) (x : Int) : Int := (hkey (ls.getD x.toNat ces0) : Int) * 1000000 + x
abbrev Full (ls : List Ces) (x : Int) : Prop := 0 < (ls.getD x.toNat ces0).n
structure Hq (ls : List Ces) (N d : Nat) (B a : Option Addr × Nat) (w : World) (l : List Int) : Prop where
  hb : Blk w d 41 #[.slice B.1 ls.length B.2, .slice a.1 l.length a.2]
  hf : w.ownsRow N 3 1 (.slice a.1 l.length a.2) l.length (nums .i64 l)
  hl : w.ownsRow N 25 1 (.slice B.1 ls.length B.2) ls.length (ls.flatMap Ces.vs)
  hs : ∀ s ∈ ls, s.At N w
  hd : N ≤ d
  el : ∀ x ∈ l, 0 ≤ x ∧ x < (ls.length : Int)
  bn : ls.length ≤ 900000
  bl : l.length ≤ ls.length
namespace Hq
variable {ls : List Ces} {N d : Nat} {B a : Option Addr × Nat} {w w' : World} {l : List Int}
theorem ext (h : Hq ls N d B a w l) (he : Ext w w') : Hq ls N d B a w' l := ⟨h.hb.ext he, h.hf.ext he, h.hl.ext he, fun s hs => (h.hs s hs).ext he, h.hd, h.el, h.bn, h.bl⟩
theorem lo (h : Hq ls N d B a w l) : N ≤ w.heap.size := Nat.le_trans h.hd (Nat.le_of_lt h.hb.lt)
theorem at_ (h : Hq ls N d B a w l) {i : Nat} (hi : i < l.length) : 0 ≤ l.getD i 0 ∧ l.getD i 0 < (ls.length : Int) := h.el _ (getD_mem hi)
theorem tch_ge (h : Hq ls N d B a w l) : ∀ g, Tch d a g → N ≤ g := by
  rintro g (rfl | hg)
  · exact h.hd
  · exact (h.hf.lt g ((own_n _ _ _ _).trans hg)).1
theorem tch_ne (h : Hq ls N d B a w l) : ∀ g, Value.ownBlock (.slice B.1 ls.length B.2) = some g → ¬ Tch d a g := by
  rintro g hg (rfl | hg')
  · exact absurd ((own_ofT h.hl hg).1.one h.hb.ofT) (by decide)
  · exact absurd ((own_ofT h.hl hg).1.one (own_ofT h.hf ((own_n _ _ _ _).trans hg')).1) (by decide)
theorem len_ (h : Hq ls N d B a w l) : Calls Try.prog 16 #[.pointer (some ⟨d, 0, none⟩)] w fun e w' => e = .returned (.int .i64 (l.length : Int)) ∧ w = w' := by
  have hb := h.hb
  refine enter Try.func16 rfl (by kernel_rfl) ?_
  refine J.seq ?_
  refine J.region ?_
  refine L.va rfl (X.assign (by conv => lhs; whnf)) ?_
  refine L.nil ?_
  refine J.seq ?_
  refine J.region ?_
  refine L.va rfl (X.move (by conv => lhs; whnf)) ?_
  refine L.va rfl (X.nilCheck rfl) ?_
  refine L.va rfl (X.fieldAddr rfl Try.underlying41 rfl sz_35 (by decide)) ?_
  refine L.va rfl (X.load rfl sc_35 (by first | exact Ld.blk hb rfl)) ?_
  refine L.va rfl (X.len rfl Try.underlying35) ?_
  refine L.va rfl (X.assign (by conv => lhs; whnf)) ?_
  refine L.nil ?_
  refine J.ret ?_
  refine fin1 ?_
  exact ⟨rfl, rfl⟩
theorem less_ (h : Hq ls N d B a w l) {i k : Nat} (hi : i < l.length) (hk : k < l.length) (f1 : Full ls (l.getD i 0)) (f2 : Full ls (l.getD k 0)) : Calls Try.prog 104 #[.pointer (some ⟨d, 0, none⟩), .int .i64 (i : Int), .int .i64 (k : Int)] w fun e w' => e = .returned (.bool (decide (kapH ls (l.getD i 0) < kapH ls (l.getD k 0)))) ∧ Ext w w' := by
  have hb := h.hb
  have hr := Reads.of_own h.hf
  have hA := hr.some_ (by omega)
  have q1 := h.at_ hi
  have q2 := h.at_ hk
  have hbn := h.bn
  obtain ⟨x, hx⟩ : ∃ x, x = l.getD i 0 := ⟨_, rfl⟩
  obtain ⟨y, hy⟩ : ∃ y, y = l.getD k 0 := ⟨_, rfl⟩
  rw [← hx] at q1 f1 ⊢
  rw [← hy] at q2 f2 ⊢
  unfold Full at f1 f2
  have hrl := Reads.of_own h.hl
  have hB := hrl.some_ (by omega)
  obtain ⟨s, hs⟩ : ∃ s, s = ls.getD x.toNat ces0 := ⟨_, rfl⟩
  obtain ⟨t, ht⟩ : ∃ t, t = ls.getD y.toNat ces0 := ⟨_, rfl⟩
  have gs := gtS (l := ls) (i := x.toNat) (by omega)
  have gt := gtS (l := ls) (i := y.toNat) (by omega)
  have ms := h.hs _ (memD (l := ls) (i := x.toNat) (d := ces0) (by omega))
  have mt := h.hs _ (memD (l := ls) (i := y.toNat) (d := ces0) (by omega))
  rw [← hs] at gs ms f1
  rw [← ht] at gt mt f2
  have ls1 := ms.l
  have lt1 := mt.l
  have g1 := gtX (l := s.l) (i := 0) (by omega)
  have g2 := gtX (l := t.l) (i := 0) (by omega)
  have hsA := ms.r.some_ (by omega)
  have htA := mt.r.some_ (by omega)
  have lx : ∀ (w' : World), Ext w w' → Ld w' (pA B.1 x.toNat) (.slice s.A s.n s.c) := fun w' hw => by have h := Ld.flat2 cs_len (hrl.ext hw) gs (r := 0) rfl; rwa [Nat.mul_one] at h
  have ly : ∀ (w' : World), Ext w w' → Ld w' (pA B.1 y.toNat) (.slice t.A t.n t.c) := fun w' hw => by have h := Ld.flat2 cs_len (hrl.ext hw) gt (r := 0) rfl; rwa [Nat.mul_one] at h
  have kx : ∀ (w' : World), Ext w w' → Ld w' (pA s.A (0 * 4 + 0)) (.int .u64 (hkey s : Int)) := fun w' hw => Ld.flat2 ce_len (ms.r.ext hw) g1 (r := 0) rfl
  have ky : ∀ (w' : World), Ext w w' → Ld w' (pA t.A (0 * 4 + 0)) (.int .u64 (hkey t : Int)) := fun w' hw => Ld.flat2 ce_len (mt.r.ext hw) g2 (r := 0) rfl
  have e1 : kapH ls x = (hkey s : Int) * 1000000 + x := by unfold kapH; rw [← hs]
  have e2 : kapH ls y = (hkey t : Int) * 1000000 + y := by unfold kapH; rw [← ht]
  rw [e1, e2]
  refine enter Try.func104 rfl (by kernel_rfl) ?_
  refine J.seq ?_
  refine J.region ?_
  refine L.va rfl (X.assign (by conv => lhs; whnf)) ?_
  refine L.nil ?_
  refine J.seq ?_
  refine J.quiet mixed (by kernel_rfl) ?_
  refine Qt.va rfl (fun w' hw => X.move (by conv => lhs; whnf)) ?_
  refine Qt.va rfl (fun w' hw => X.nilCheck rfl) ?_
  refine Qt.va rfl (fun w' hw => X.fieldAddr rfl Try.underlying41 rfl sz_35 (by decide)) ?_
  refine Qt.va rfl (fun w' hw => X.load rfl sc_35 (by first | exact Ld.blk (hb.ext hw) rfl | exact Ld.num (hr.ext hw) (by omega) | exact hA)) ?_
  refine Qt.va rfl (fun w' hw => X.move (by conv => lhs; whnf)) ?_
  refine Qt.va rfl (fun w' hw => (by first | exact X.index1n rfl rfl Try.underlying35 sz_3 (by first | exact Option.some_ne_none _ | exact hr.some_ (by omega) | exact hA) (by omega) | exact X.index1 rfl rfl Try.underlying35 sz_3 (by first | exact Option.some_ne_none _ | exact hr.some_ (by omega) | exact hA) (by omega))) ?_
  refine Qt.va rfl (fun w' hw => X.load rfl sc_3 (by first | exact Ld.blk (hb.ext hw) rfl | exact Ld.num (hr.ext hw) (by omega) | exact hA)) ?_
  refine Qt.va rfl (fun w' hw => X.move (by conv => lhs; whnf)) ?_
  refine Qt.va rfl (fun w' hw => X.nilCheck rfl) ?_
  refine Qt.va rfl (fun w' hw => X.fieldAddr rfl Try.underlying41 rfl sz_35 (by decide)) ?_
  refine Qt.va rfl (fun w' hw => X.load rfl sc_35 (by first | exact Ld.blk (hb.ext hw) rfl | exact Ld.num (hr.ext hw) (by omega) | exact hA)) ?_
  refine Qt.va rfl (fun w' hw => X.move (by conv => lhs; whnf)) ?_
  refine Qt.va rfl (fun w' hw => (by first | exact X.index1n rfl rfl Try.underlying35 sz_3 (by first | exact Option.some_ne_none _ | exact hr.some_ (by omega) | exact hA) (by omega) | exact X.index1 rfl rfl Try.underlying35 sz_3 (by first | exact Option.some_ne_none _ | exact hr.some_ (by omega) | exact hA) (by omega))) ?_
  refine Qt.va rfl (fun w' hw => X.load rfl sc_3 (by first | exact Ld.blk (hb.ext hw) rfl | exact Ld.num (hr.ext hw) (by omega) | exact hA)) ?_
  refine Qt.va rfl (fun w' hw => X.assign (by conv => lhs; whnf)) ?_
  refine Qt.va rfl (fun w' hw => X.assign (by conv => lhs; whnf)) ?_
  refine Qt.nil (fun w1 hq => ?_)
  replace hb := hb.ext hq
  replace hr := hr.ext hq
  refine J.seq ?_
  rw [← hx, ← hy]
  refine J.quiet mixed (by kernel_rfl) ?_
  refine Qt.va rfl (fun w' hw => X.move (by conv => lhs; whnf)) ?_
  refine Qt.va rfl (fun w' hw => X.nilCheck rfl) ?_
  refine Qt.va rfl (fun w' hw => X.fieldAddr rfl Try.underlying41 rfl sz_22 (by decide)) ?_
  refine Qt.va rfl (fun w' hw => X.load rfl sc_22 (by first | exact Ld.blk (hb.ext hw) rfl | exact hB | exact hsA | exact htA | exact lx _ (hq.trans hw) | exact ly _ (hq.trans hw) | exact kx _ (hq.trans hw) | exact ky _ (hq.trans hw))) ?_
  refine Qt.va rfl (fun w' hw => X.move (by conv => lhs; whnf)) ?_
  refine Qt.va rfl (fun w' hw => X.index1e (j := x.toNat) rfl rfl (by omega) Try.underlying22 sz_25 hB (by omega)) ?_
  refine Qt.va rfl (fun w' hw => X.load rfl sc_25 (by first | exact Ld.blk (hb.ext hw) rfl | exact hB | exact hsA | exact htA | exact lx _ (hq.trans hw) | exact ly _ (hq.trans hw) | exact kx _ (hq.trans hw) | exact ky _ (hq.trans hw))) ?_
  refine Qt.va rfl (fun w' hw => X.indexAddrn (j := 0) rfl rfl Try.underlying25 sz_48 (by first | exact Option.some_ne_none _ | exact hB | exact hsA | exact htA | exact lx _ (hq.trans hw) | exact ly _ (hq.trans hw) | exact kx _ (hq.trans hw) | exact ky _ (hq.trans hw)) (by omega)) ?_
  refine Qt.va rfl (fun w' hw => X.fieldP rfl Try.underlying48 rfl sz_44 (by decide) (by first | exact Option.some_ne_none _ | exact hB | exact hsA | exact htA | exact lx _ (hq.trans hw) | exact ly _ (hq.trans hw) | exact kx _ (hq.trans hw) | exact ky _ (hq.trans hw))) ?_
  refine Qt.va rfl (fun w' hw => X.load rfl sc_44 (by first | exact Ld.blk (hb.ext hw) rfl | exact hB | exact hsA | exact htA | exact lx _ (hq.trans hw) | exact ly _ (hq.trans hw) | exact kx _ (hq.trans hw) | exact ky _ (hq.trans hw))) ?_
  refine Qt.va rfl (fun w' hw => X.move (by conv => lhs; whnf)) ?_
  refine Qt.va rfl (fun w' hw => X.nilCheck rfl) ?_
  refine Qt.va rfl (fun w' hw => X.fieldAddr rfl Try.underlying41 rfl sz_22 (by decide)) ?_
  refine Qt.va rfl (fun w' hw => X.load rfl sc_22 (by first | exact Ld.blk (hb.ext hw) rfl | exact hB | exact hsA | exact htA | exact lx _ (hq.trans hw) | exact ly _ (hq.trans hw) | exact kx _ (hq.trans hw) | exact ky _ (hq.trans hw))) ?_
  refine Qt.va rfl (fun w' hw => X.move (by conv => lhs; whnf)) ?_
  refine Qt.va rfl (fun w' hw => X.index1e (j := y.toNat) rfl rfl (by omega) Try.underlying22 sz_25 hB (by omega)) ?_
  refine Qt.va rfl (fun w' hw => X.load rfl sc_25 (by first | exact Ld.blk (hb.ext hw) rfl | exact hB | exact hsA | exact htA | exact lx _ (hq.trans hw) | exact ly _ (hq.trans hw) | exact kx _ (hq.trans hw) | exact ky _ (hq.trans hw))) ?_
  refine Qt.va rfl (fun w' hw => X.indexAddrn (j := 0) rfl rfl Try.underlying25 sz_48 (by first | exact Option.some_ne_none _ | exact hB | exact hsA | exact htA | exact lx _ (hq.trans hw) | exact ly _ (hq.trans hw) | exact kx _ (hq.trans hw) | exact ky _ (hq.trans hw)) (by omega)) ?_
  refine Qt.va rfl (fun w' hw => X.fieldP rfl Try.underlying48 rfl sz_44 (by decide) (by first | exact Option.some_ne_none _ | exact hB | exact hsA | exact htA | exact lx _ (hq.trans hw) | exact ly _ (hq.trans hw) | exact kx _ (hq.trans hw) | exact ky _ (hq.trans hw))) ?_
  refine Qt.va rfl (fun w' hw => X.load rfl sc_44 (by first | exact Ld.blk (hb.ext hw) rfl | exact hB | exact hsA | exact htA | exact lx _ (hq.trans hw) | exact ly _ (hq.trans hw) | exact kx _ (hq.trans hw) | exact ky _ (hq.trans hw))) ?_
  refine Qt.va rfl (fun w' hw => X.assign (by conv => lhs; whnf)) ?_
  refine Qt.va rfl (fun w' hw => X.assign (by conv => lhs; whnf)) ?_
  refine Qt.nil (fun w2 hq2 => ?_)
  replace hb := hb.ext hq2
  refine J.seq ?_
  refine J.region ?_
  refine L.va rfl (X.move (by conv => lhs; whnf)) ?_
  refine L.va rfl (X.move (by conv => lhs; whnf)) ?_
  refine L.va rfl (X.lss rfl rfl) ?_
  refine L.va rfl (X.move (by conv => lhs; whnf)) ?_
  refine L.caseDec (k := 48) rfl (fun h1 => ?_) (fun h1 => ?_)
  · refine L.no rfl ?_
    refine L.no rfl ?_
    refine L.no rfl ?_
    refine L.no rfl ?_
    refine L.no rfl ?_
    refine L.no rfl ?_
    refine L.no rfl ?_
    refine L.no rfl ?_
    refine L.va rfl (X.pickT rfl (by conv => lhs; whnf)) ?_
    refine L.va rfl (X.assign (by conv => lhs; whnf)) ?_
    refine L.nil ?_
    refine J.ret ?_
    refine fin1 ?_
    rw [decide_eq_true (show (hkey s : Int) * 1000000 + x < (hkey t : Int) * 1000000 + y by omega)]
    exact ⟨rfl, hq.trans hq2⟩
  · refine L.va rfl (X.move (by conv => lhs; whnf)) ?_
    refine L.va rfl (X.move (by conv => lhs; whnf)) ?_
    refine L.va rfl (X.eql rfl rfl) ?_
    refine L.va rfl (X.move (by conv => lhs; whnf)) ?_
    refine L.caseDec (k := 52) rfl (fun h2 => ?_) (fun h2 => ?_)
    · refine L.va rfl (X.move (by conv => lhs; whnf)) ?_
      refine L.va rfl (X.move (by conv => lhs; whnf)) ?_
      refine L.va rfl (X.lss rfl rfl) ?_
      refine L.va rfl (X.pickT rfl (by conv => lhs; whnf)) ?_
      refine L.va rfl (X.pickF rfl (by conv => lhs; whnf)) ?_
      refine L.va rfl (X.assign (by conv => lhs; whnf)) ?_
      refine L.nil ?_
      refine J.ret ?_
      refine fin1 ?_
      rw [show decide ((hkey s : Int) * 1000000 + x < (hkey t : Int) * 1000000 + y) = decide (x < y) from decide_eq_decide.2 (by omega)]
      exact ⟨rfl, hq.trans hq2⟩
    · refine L.no rfl ?_
      refine L.no rfl ?_
      refine L.no rfl ?_
      refine L.va rfl (X.pickF rfl (by conv => lhs; whnf)) ?_
      refine L.va rfl (X.pickF rfl (by conv => lhs; whnf)) ?_
      refine L.va rfl (X.assign (by conv => lhs; whnf)) ?_
      refine L.nil ?_
      refine J.ret ?_
      refine fin1 ?_
      rw [decide_eq_false (show ¬ (hkey s : Int) * 1000000 + x < (hkey t : Int) * 1000000 + y by omega)]
      exact ⟨rfl, hq.trans hq2⟩
theorem chgS (h : Hq ls N d B a w l) (hC : Chg (Tch d a) w w') : w'.ownsRow N 25 1 (.slice B.1 ls.length B.2) ls.length (ls.flatMap Ces.vs) ∧ ∀ s ∈ ls, s.At N w' :=
  ⟨hC.own h.hl h.tch_ne, fun s hs => (h.hs s hs).low (hC.below h.lo h.tch_ge) (Nat.le_refl _)⟩
theorem swap_ (h : Hq ls N d B a w l) {i k : Nat} (hi : i < l.length) (hk : k < l.length) : Calls Try.prog 107 #[.pointer (some ⟨d, 0, none⟩), .int .i64 (i : Int), .int .i64 (k : Int)] w fun e w' => e = .returned (.tuple #[]) ∧ Hq ls N d B a w' (swp l i k) ∧ Chg (Tch d a) w w' := by
  have hb := h.hb
  have hr := Reads.of_own h.hf
  have hA := hr.some_ (by omega)
  refine enter Try.func107 rfl (by kernel_rfl) ?_
  refine J.draw (ℓ := 1000000) (S := (fun w' => Blk w' d 41 #[.slice B.1 ls.length B.2, .slice a.1 l.length a.2])) mixed (fun w1 hSE hS_h => ?_)
  have hS : ((fun w' => Blk w' d 41 #[.slice B.1 ls.length B.2, .slice a.1 l.length a.2])) w1 := hb.ext hSE
  have hr1 := hr.ext hSE
  have hoX := h.hf.ext hSE
  have hG : w.grownBy w1 (Value.ownBlock (.slice a.1 l.length a.2)) := grown_ext hSE
  refine D.va 0 rfl (by kernel_rfl) (fun _ _ _ h => h) rfl (fun w' hw => X.move (by conv => lhs; whnf)) hS ?_
  refine D.va 1 rfl (by kernel_rfl) (fun _ _ _ h => h) rfl (fun w' hw => X.nilCheck rfl) hS ?_
  refine D.va 2 rfl (by kernel_rfl) (fun _ _ _ h => h) rfl (fun w' hw => X.fieldAddr rfl Try.underlying41 rfl sz_35 (by decide)) hS ?_
  refine D.va 3 rfl (by kernel_rfl) (fun _ _ _ h => h) rfl (fun w' hw => X.load rfl sc_35 (by first | exact hA | exact Ld.blk hw rfl)) hS ?_
  refine D.va 4 rfl (by kernel_rfl) (fun _ _ _ h => h) rfl (fun w' hw => X.move (by conv => lhs; whnf)) hS ?_
  refine D.va 5 rfl (by kernel_rfl) (fun _ _ _ h => h) rfl (fun w' hw => X.move (by conv => lhs; whnf)) hS ?_
  refine D.va 6 rfl (by kernel_rfl) (fun _ _ _ h => h) rfl (fun w' hw => X.nilCheck rfl) hS ?_
  refine D.va 7 rfl (by kernel_rfl) (fun _ _ _ h => h) rfl (fun w' hw => X.fieldAddr rfl Try.underlying41 rfl sz_35 (by decide)) hS ?_
  refine D.va 8 rfl (by kernel_rfl) (fun _ _ _ h => h) rfl (fun w' hw => X.load rfl sc_35 (by first | exact hA | exact Ld.blk hw rfl)) hS ?_
  refine D.va 9 rfl (by kernel_rfl) (fun _ _ _ h => h) rfl (fun w' hw => X.move (by conv => lhs; whnf)) hS ?_
  refine D.va 10 rfl (by kernel_rfl) (fun _ _ _ h => h) rfl (fun w' hw => X.move (by conv => lhs; whnf)) hS ?_
  refine D.va 11 rfl (by kernel_rfl) (fun _ _ _ h => h) rfl (fun w' hw => X.nilCheck rfl) hS ?_
  refine D.va 12 rfl (by kernel_rfl) (fun _ _ _ h => h) rfl (fun w' hw => X.fieldAddr rfl Try.underlying41 rfl sz_35 (by decide)) hS ?_
  refine D.va 13 rfl (by kernel_rfl) (fun _ _ _ h => h) rfl (fun w' hw => X.load rfl sc_35 (by first | exact hA | exact Ld.blk hw rfl)) hS ?_
  refine D.va 14 rfl (by kernel_rfl) (fun _ _ _ h => h) rfl (fun w' hw => X.move (by conv => lhs; whnf)) hS ?_
  refine D.va 15 rfl (by kernel_rfl) (fun _ _ _ h => h) rfl (fun w' hw => (by first | exact X.index1n rfl rfl Try.underlying35 sz_3 (by first | exact Option.some_ne_none _ | exact hA) (by omega) | exact X.index1 rfl rfl Try.underlying35 sz_3 (by first | exact Option.some_ne_none _ | exact hA) (by omega))) hS ?_
  refine D.va 17 rfl (by kernel_rfl) (fun _ _ _ h => h) rfl (fun w' hw => X.move (by conv => lhs; whnf)) hS ?_
  refine D.va 18 rfl (by kernel_rfl) (fun _ _ _ h => h) rfl (fun w' hw => X.nilCheck rfl) hS ?_
  refine D.va 19 rfl (by kernel_rfl) (fun _ _ _ h => h) rfl (fun w' hw => X.fieldAddr rfl Try.underlying41 rfl sz_35 (by decide)) hS ?_
  refine D.va 20 rfl (by kernel_rfl) (fun _ _ _ h => h) rfl (fun w' hw => X.load rfl sc_35 (by first | exact hA | exact Ld.blk hw rfl)) hS ?_
  refine D.va 21 rfl (by kernel_rfl) (fun _ _ _ h => h) rfl (fun w' hw => X.move (by conv => lhs; whnf)) hS ?_
  refine D.va 22 rfl (by kernel_rfl) (fun _ _ _ h => h) rfl (fun w' hw => (by first | exact X.index1n rfl rfl Try.underlying35 sz_3 (by first | exact Option.some_ne_none _ | exact hA) (by omega) | exact X.index1 rfl rfl Try.underlying35 sz_3 (by first | exact Option.some_ne_none _ | exact hA) (by omega))) hS ?_
  refine D.two 16 23 (by kernel_rfl) rfl rfl ?_ ?_
  · refine L.va rfl (X.load rfl sc_3 (Ld.num hr1 hk)) ?_
    refine L.nil ?_
    refine ⟨fun _ => hS, ?_⟩
    refine D.one 23 (by kernel_rfl) rfl ?_
    refine L.va rfl (X.load rfl sc_3 (Ld.num hr1 hi)) ?_
    refine L.nil ?_
    refine ⟨fun _ => hS, ?_⟩
    refine D.va 24 rfl (by kernel_rfl) (fun _ _ _ h => h) rfl (fun w' hw => (by first | exact X.index1n rfl rfl Try.underlying35 sz_3 (by first | exact Option.some_ne_none _ | exact hA) (by omega) | exact X.index1 rfl rfl Try.underlying35 sz_3 (by first | exact Option.some_ne_none _ | exact hA) (by omega))) hS ?_
    refine D.one 25 (by kernel_rfl) rfl ?_
    refine L.storeON rfl rfl (by conv => lhs; whnf) sz_3 (hoX) (by omega) ?_
    intro w2 hoY hg2 hb2 hs2
    have hS1 := hS.grown hg2 (fun e ↦ own_blk_ne hoX hS (by decide) e.symm)
    refine L.nil ?_
    refine ⟨fun _ => hS1, ?_⟩
    replace hG := grb_trans hG hg2
    replace hoX := hoY
    refine D.va 26 rfl (by kernel_rfl) (fun _ _ _ h => h) rfl (fun w' hw => (by first | exact X.index1n rfl rfl Try.underlying35 sz_3 (by first | exact Option.some_ne_none _ | exact hA) (by omega) | exact X.index1 rfl rfl Try.underlying35 sz_3 (by first | exact Option.some_ne_none _ | exact hA) (by omega))) hS1 ?_
    refine D.one 27 (by kernel_rfl) rfl ?_
    refine L.storeON rfl rfl (by conv => lhs; whnf) sz_3 (hoX) (by omega) ?_
    intro w2 hoY hg2 hb2 hs2
    have hS2 := hS1.grown hg2 (fun e ↦ own_blk_ne hoX hS1 (by decide) e.symm)
    refine L.nil ?_
    refine ⟨fun _ => hS2, ?_⟩
    replace hG := grb_trans hG hg2
    replace hoX := hoY
    refine D.done (by kernel_rfl) ?_
    refine fin0 (.inr rfl) ?_
    have hC : Chg (Tch d a) w _ := .of_grown hG (fun g hg => tch_own hg)
    have hz := h.hs
    have hln : (swp l i k).length = l.length := swp_length _ _ _
    have hw : (l.set i (l.getD k 0)).set k (l.getD i 0) = swp l i k := rfl
    refine ⟨rfl, ⟨by rw [hln]; exact hS2, by rw [hln]; exact hoX, (h.chgS hC).1, (h.chgS hC).2, h.hd, fun x hx ↦ h.el x ((swp_perm l hi hk).mem_iff.1 hx), h.bn, by rw [hln]; exact h.bl⟩, hC⟩
  · refine L.va rfl (X.load rfl sc_3 (Ld.num hr1 hi)) ?_
    refine L.nil ?_
    refine ⟨fun _ => hS, ?_⟩
    refine D.one 16 (by kernel_rfl) rfl ?_
    refine L.va rfl (X.load rfl sc_3 (Ld.num hr1 hk)) ?_
    refine L.nil ?_
    refine ⟨fun _ => hS, ?_⟩
    refine D.va 24 rfl (by kernel_rfl) (fun _ _ _ h => h) rfl (fun w' hw => (by first | exact X.index1n rfl rfl Try.underlying35 sz_3 (by first | exact Option.some_ne_none _ | exact hA) (by omega) | exact X.index1 rfl rfl Try.underlying35 sz_3 (by first | exact Option.some_ne_none _ | exact hA) (by omega))) hS ?_
    refine D.one 25 (by kernel_rfl) rfl ?_
    refine L.storeON rfl rfl (by conv => lhs; whnf) sz_3 (hoX) (by omega) ?_
    intro w2 hoY hg2 hb2 hs2
    have hS1 := hS.grown hg2 (fun e ↦ own_blk_ne hoX hS (by decide) e.symm)
    refine L.nil ?_
    refine ⟨fun _ => hS1, ?_⟩
    replace hG := grb_trans hG hg2
    replace hoX := hoY
    refine D.va 26 rfl (by kernel_rfl) (fun _ _ _ h => h) rfl (fun w' hw => (by first | exact X.index1n rfl rfl Try.underlying35 sz_3 (by first | exact Option.some_ne_none _ | exact hA) (by omega) | exact X.index1 rfl rfl Try.underlying35 sz_3 (by first | exact Option.some_ne_none _ | exact hA) (by omega))) hS1 ?_
    refine D.one 27 (by kernel_rfl) rfl ?_
    refine L.storeON rfl rfl (by conv => lhs; whnf) sz_3 (hoX) (by omega) ?_
    intro w2 hoY hg2 hb2 hs2
    have hS2 := hS1.grown hg2 (fun e ↦ own_blk_ne hoX hS1 (by decide) e.symm)
    refine L.nil ?_
    refine ⟨fun _ => hS2, ?_⟩
    replace hG := grb_trans hG hg2
    replace hoX := hoY
    refine D.done (by kernel_rfl) ?_
    refine fin0 (.inr rfl) ?_
    have hC : Chg (Tch d a) w _ := .of_grown hG (fun g hg => tch_own hg)
    have hz := h.hs
    have hln : (swp l i k).length = l.length := swp_length _ _ _
    have hw : (l.set i (l.getD k 0)).set k (l.getD i 0) = swp l i k := rfl
    refine ⟨rfl, ⟨by rw [hln]; exact hS2, by rw [hln]; exact hoX, (h.chgS hC).1, (h.chgS hC).2, h.hd, fun x hx ↦ h.el x ((swp_perm l hi hk).mem_iff.1 hx), h.bn, by rw [hln]; exact h.bl⟩, hC⟩
theorem pop_ (h : Hq ls N d B a w l) (hpos : 0 < l.length) : Calls Try.prog 105 #[.pointer (some ⟨d, 0, none⟩)] w fun e w' =>
    e = .returned (.iface 3 (.int .i64 (l.getD (l.length - 1) 0))) ∧ Hq ls N d B a w' (l.take (l.length - 1)) ∧ Chg (Tch d a) w w' := by
  have hb := h.hb
  have hr := Reads.of_own h.hf
  have hc := own_le' h.hf
  have hbn := h.bn
  have hbl := h.bl
  refine enter Try.func105 rfl (by kernel_rfl) ?_
  refine J.seq ?_
  refine J.region ?_
  refine L.va rfl (X.assign (by conv => lhs; whnf)) ?_
  refine L.nil ?_
  refine J.seq ?_
  refine J.region ?_
  refine L.va rfl (X.move (by conv => lhs; whnf)) ?_
  refine L.va rfl (X.nilCheck rfl) ?_
  refine L.va rfl (X.fieldAddr rfl Try.underlying41 rfl sz_35 (by decide)) ?_
  refine L.va rfl (X.load rfl sc_35 (by first | exact Ld.num hr (by omega) | exact Ld.blk hb rfl)) ?_
  refine L.va rfl (X.len rfl Try.underlying35) ?_
  refine L.va rfl (X.sub rfl rfl (by omega)) ?_
  refine L.va rfl (X.assign (by conv => lhs; whnf)) ?_
  refine L.nil ?_
  refine J.seq ?_
  refine J.region ?_
  refine L.va rfl (X.move (by conv => lhs; whnf)) ?_
  refine L.va rfl (X.nilCheck rfl) ?_
  refine L.va rfl (X.fieldAddr rfl Try.underlying41 rfl sz_35 (by decide)) ?_
  refine L.va rfl (X.load rfl sc_35 (by first | exact Ld.num hr (by omega) | exact Ld.blk hb rfl)) ?_
  refine L.va rfl (X.move (by conv => lhs; whnf)) ?_
  refine L.va rfl (X.index1n (j := l.length - 1) rfl (show Value.int .i64 ((l.length : Int) - 1) = _ from by rw [show ((l.length : Int) - 1) = ((l.length - 1 : Nat) : Int) by omega]) Try.underlying35 sz_3 (hr.some_ (by omega)) (by omega)) ?_
  refine L.va rfl (X.load rfl sc_3 (Ld.num hr (j := l.length - 1) (by omega))) ?_
  refine L.va rfl (X.assign (by conv => lhs; whnf)) ?_
  refine L.nil ?_
  refine J.seq ?_
  refine J.region ?_
  refine L.va rfl (X.move (by conv => lhs; whnf)) ?_
  refine L.va rfl (X.move (by conv => lhs; whnf)) ?_
  refine L.va rfl (X.nilCheck rfl) ?_
  refine L.va rfl (X.fieldAddr rfl Try.underlying41 rfl sz_35 (by decide)) ?_
  refine L.va rfl (X.load rfl sc_35 (by first | exact Ld.num hr (by omega) | exact Ld.blk hb rfl)) ?_
  refine L.va rfl (X.move (by conv => lhs; whnf)) ?_
  refine L.va rfl (X.sliceTon (j := l.length - 1) rfl (show Value.int .i64 ((l.length : Int) - 1) = _ from by rw [show ((l.length : Int) - 1) = ((l.length - 1 : Nat) : Int) by omega]) Try.underlying35 sz_3 (by omega)) ?_
  refine L.va rfl (X.nilCheck rfl) ?_
  refine L.va rfl (X.fieldAddr rfl Try.underlying41 rfl sz_35 (by decide)) ?_
  refine L.store rfl rfl (by conv => lhs; whnf) rfl sz_35 (hb) (by first | decide | exact Nat.le_of_ble_eq_true rfl) ?_
  intro w1 hk1 hg1 hs1
  refine L.nil ?_
  refine J.seq ?_
  refine J.region ?_
  refine L.va rfl (X.move (by conv => lhs; whnf)) ?_
  refine L.va rfl (X.mkI rfl Try.underlying3 rfl) ?_
  refine L.va rfl (X.assign (by conv => lhs; whnf)) ?_
  refine L.nil ?_
  refine J.ret ?_
  refine fin1 ?_
  have hl : (l.take (l.length - 1)).length = l.length - 1 := by simp
  have hC : Chg (Tch d a) w w1 := .of_grown hg1 (fun g hg => .inl (by injection hg with hg; exact hg.symm))
  refine ⟨rfl, ⟨by rw [hl]; exact hk1, ?_, (h.chgS hC).1, (h.chgS hC).2, h.hd, fun x hx => h.el x (List.mem_of_mem_take hx), hbn, by omega⟩, hC⟩
  rw [hl]
  exact (own_cutN h.hf (by omega)).kept hg1 (.inr (own_blk_ne (own_cutN h.hf (show l.length - 1 ≤ l.length by omega)) hb (by decide)))
theorem kit (ls : List Ces) (N d : Nat) (B a : Option Addr × Nat) : HeapP 39 (.pointer (some ⟨d, 0, none⟩)) (kapH ls) (Full ls) (Tch d a) (Hq ls N d B a) where
  ext := fun h he => h.ext he
  big := fun h => Nat.le_trans h.bl h.bn
  len := fun h => ⟨_, _, mtd_ptr (by unfold Has; kernel_rfl) Try.underlying39 en_16, h.len_⟩
  less := fun h hi hk f1 f2 => ⟨_, _, mtd_ptr (by unfold Has; kernel_rfl) Try.underlying39 en_104, h.less_ hi hk f1 f2⟩
  swap := fun h hi hk => ⟨_, _, mtd_ptr (by unfold Has; kernel_rfl) Try.underlying39 en_107, h.swap_ hi hk⟩
  pop := fun h hpos => ⟨_, _, mtd_ptr (by unfold Has; kernel_rfl) Try.underlying39 en_105, h.pop_ hpos⟩
end Hq
end Go.Proofs.Ytnndkepnabddgaa
namespace Go.Proofs.Ytnndkepnabddgaa
set_option maxRecDepth 100000
open Go.RowKit H
open HeapK
set_option linter.unusedVariables false
def tailC (s : Ces) : Ces := ⟨if s.c = 1 then s.A else s.A.map (·.add (1 * 4)), s.n - 1, s.c - 1, s.l.drop 1⟩
theorem tailC_at {s : Ces} {N : Nat} {w : World} (h : s.At N w) (hn : 0 < s.n) (hc : s.n ≤ s.c) : (tailC s).At N w := by
  have := h.r.cut (k := 1) (cap := s.c) (by omega) hc
  rw [flat_drop1] at this
  exact ⟨this, fun x hx => h.h x (List.mem_of_mem_drop hx), by show (s.l.drop 1).length = s.n - 1; rw [List.length_drop, h.l], by show s.n - 1 ≤ _; have := h.m; omega⟩
where
  flat_drop1 {l : List Ce} : (l.flatMap Ce.vs).drop (1 * 4) = (l.drop 1).flatMap Ce.vs := by
    cases l with
    | nil => rfl
    | cons x t => rfl
structure Hs (ls : List Ces) (l : List Int) : Prop where
  nd : l.Nodup
  hp : Heapk (kapH ls) 0 l.length l
  mem : ∀ x : Int, x ∈ l ↔ 0 ≤ x ∧ x < (ls.length : Int) ∧ Full ls x
theorem set_ne {ls : List Ces} {p q : Nat} {t : Ces} (h : p ≠ q) : (ls.set p t).getD q ces0 = ls.getD q ces0 := by
  rw [List.getD, List.getElem?_set_ne h, List.getD]
theorem set_eq {ls : List Ces} {p : Nat} {t : Ces} (h : p < ls.length) : (ls.set p t).getD p ces0 = t := by
  rw [List.getD, List.getElem?_set, if_pos rfl, if_pos h]
  rfl
theorem kap_set {ls : List Ces} {p : Nat} {t : Ces} {x : Int} (h : p ≠ x.toNat) : kapH (ls.set p t) x = kapH ls x := by
  unfold kapH
  rw [set_ne h]
theorem nodup_at {l : List Int} (h : l.Nodup) {i j : Nat} (hi : i < l.length) (hj : j < l.length) (e : l.getD i 0 = l.getD j 0) : i = j := by
  rw [List.getD, List.getElem?_eq_getElem hi, List.getD, List.getElem?_eq_getElem hj] at e
  have e : l[i] = l[j] := e
  rcases Nat.lt_trichotomy i j with g | g | g
  · exact absurd e (List.pairwise_iff_getElem.1 h i j hi hj g)
  · exact g
  · exact absurd e.symm (List.pairwise_iff_getElem.1 h j i hj hi g)
theorem mem_at {l : List Int} {i : Nat} (hi : i < l.length) : l.getD i 0 ∈ l := by rw [List.getD, List.getElem?_eq_getElem hi]; exact List.getElem_mem _
section
variable {ls : List Ces} {l : List Int} {p : Nat} {t : Ces}
theorem Hs.ne (h : Hs ls l) (hp : (p : Int) = l.getD 0 0) {i : Nat} (h0 : 0 < i) (hi : i < l.length) : p ≠ (l.getD i 0).toNat := by
  intro e
  have h1 := (h.mem _).1 (mem_at hi)
  have := nodup_at h.nd (i := 0) (j := i) (by omega) hi (by omega)
  omega
theorem Hs.fix (h : Hs ls l) (h0 : 0 < l.length) (hp : (p : Int) = l.getD 0 0) (ht : 0 < t.n) : Hs (ls.set p t) (siftDk (kapH (ls.set p t)) l.length l 0 l.length) := by
  have hpm := siftDk_perm (κ := kapH (ls.set p t)) l.length l 0 l.length (Nat.le_refl _)
  have pm := (h.mem _).1 (mem_at (i := 0) h0)
  refine ⟨hpm.symm.nodup h.nd, ?_, fun x => ?_⟩
  · rw [siftDk_length]
    refine siftDk_heap _ _ _ _ _ (Nat.le_refl _) (by omega) (fun k hk0 hkn _ hne => ?_) (fun h' => absurd h' (by omega))
    rw [kap_set (h.ne hp (by omega) (by omega)), kap_set (h.ne hp hk0 hkn)]
    exact h.hp k hk0 hkn (Nat.zero_le _)
  · rw [hpm.mem_iff, h.mem, List.length_set]
    unfold Full
    by_cases e : p = x.toNat
    · subst e
      rw [set_eq (by omega)]
      constructor
      · exact fun k => ⟨k.1, k.2.1, ht⟩
      · rintro ⟨k1, k2, _⟩
        have : x = l.getD 0 0 := by omega
        rw [this]
        exact pm
    · rw [set_ne e]
theorem Hs.pop (h : Hs ls l) (h0 : 0 < l.length) (hp : (p : Int) = l.getD 0 0) (ht : t.n = 0) : Hs (ls.set p t) ((siftDk (kapH (ls.set p t)) l.length (swp l 0 (l.length - 1)) 0 (l.length - 1)).take (l.length - 1)) := by
  have pm := (h.mem _).1 (mem_at (i := 0) h0)
  obtain ⟨m, hm⟩ : ∃ m, m = siftDk (kapH (ls.set p t)) l.length (swp l 0 (l.length - 1)) 0 (l.length - 1) := ⟨_, rfl⟩
  have lm : m.length = l.length := by rw [hm, siftDk_length, swp_length]
  have hpm : m.Perm l := by
    rw [hm]
    exact (siftDk_perm _ _ _ _ (by rw [swp_length]; omega)).trans (swp_perm l (by omega) (by omega))
  have hlast : m.getD (l.length - 1) 0 = l.getD 0 0 := by
    rw [hm, siftDk_past _ _ _ _ (by rw [swp_length]; omega) _ (Nat.le_refl _), swp_at l (by omega) (by omega), if_pos rfl]
  have hheap : Heapk (kapH (ls.set p t)) 0 (l.length - 1) m := by
    rw [hm]
    refine siftDk_heap _ _ _ _ _ (by rw [swp_length]; omega) (by omega) (fun k hk0 hkn _ hne => ?_) (fun h' => absurd h' (by omega))
    rw [swp_at l (by omega) (by omega), swp_at l (by omega) (by omega), if_neg (by omega), if_neg (by omega), if_neg (by omega), if_neg (by omega)]
    rw [kap_set (h.ne hp (by omega) (by omega)), kap_set (h.ne hp hk0 (by omega))]
    exact h.hp k hk0 (by omega) (Nat.zero_le _)
  rw [← hm]
  have em : m = m.take (l.length - 1) ++ [l.getD 0 0] := by
    have : m.take (l.length - 1 + 1) = m.take (l.length - 1) ++ [m.getD (l.length - 1) 0] := by
      rw [List.take_succ_eq_append_getElem (by omega), List.getD, List.getElem?_eq_getElem (by omega)]
      rfl
    rw [List.take_of_length_le (by omega), hlast] at this
    exact this
  have hnm : (m.take (l.length - 1) ++ [l.getD 0 0]).Nodup := by rw [← em]; exact hpm.symm.nodup h.nd
  have hn1 : (m.take (l.length - 1)).Nodup := List.Nodup.sublist (List.sublist_append_left ..) hnm
  refine ⟨hn1, ?_, fun x => ?_⟩
  · intro k hk0 hkn hlo
    rw [List.length_take] at hkn
    have e : ∀ i, i < l.length - 1 → (m.take (l.length - 1)).getD i 0 = m.getD i 0 := fun i hi => by
      rw [List.getD, List.getElem?_take_of_lt hi, List.getD]
    rw [e _ (by omega), e _ (by omega)]
    exact hheap k hk0 (by omega) hlo
  · rw [List.length_set]
    have hmx : x ∈ l ↔ x ∈ m.take (l.length - 1) ∨ x = l.getD 0 0 := by
      rw [← hpm.mem_iff]
      conv => lhs; rw [em]
      rw [List.mem_append, List.mem_singleton]
    have hno : l.getD 0 0 ∉ m.take (l.length - 1) := fun hh => by
      rw [List.nodup_append] at hnm
      exact hnm.2.2 _ hh _ (List.mem_singleton.2 rfl) rfl
    unfold Full
    by_cases e : p = x.toNat
    · subst e
      constructor
      · intro hx
        have h1 := (h.mem x).1 (hmx.2 (.inl hx))
        have : x = l.getD 0 0 := by omega
        rw [this] at hx
        exact absurd hx hno
      · rintro ⟨k1, k2, k3⟩
        rw [set_eq (by omega), ht] at k3
        exact absurd k3 (by omega)
    · rw [set_ne e]
      have hx0 : x ≠ l.getD 0 0 := fun hh => by rw [hh] at e; omega
      constructor
      · intro hx
        exact (h.mem x).1 (hmx.2 (.inl hx))
      · intro hx
        rcases hmx.1 ((h.mem x).2 hx) with k | k
        · exact k
        · exact absurd k hx0
end
end Go.Proofs.Ytnndkepnabddgaa
namespace Go.Proofs.Ytnndkepnabddgaa
set_option maxRecDepth 100000
open Go.RowKit H
open HeapK
set_option linter.unusedVariables false
namespace Hq
variable {ls : List Ces} {N d : Nat} {B a : Option Addr × Nat} {w w' : World} {l : List Int}
theorem put (h : Hq ls N d B a w l) (hb : Below N w w') (hC : TCh 48 w w') : Hq ls N d B a w' l := ⟨hC.blk h.hb (by decide), hC.own h.hf (by decide), hC.own h.hl (by decide), fun s hs => (h.hs s hs).low hb (Nat.le_refl _), h.hd, h.el, h.bn, h.bl⟩
def Nch (d : Nat) (B a : Option Addr × Nat) (g : Nat) : Prop := Tch d a g ∨ Value.ownBlock (.slice B.1 0 B.2) = some g
theorem next_ (h : Hq ls N d B a w l) (H : Hs ls l) (h0 : 0 < l.length) (hcp : ∀ s ∈ ls, s.n ≤ s.c) {p : Nat} (hp : (p : Int) = l.getD 0 0) : Calls Try.prog 17 #[.pointer (some ⟨d, 0, none⟩)] w fun e w' =>
    e = .returned ((ls.getD p ces0).l.getD 0 ce0).val ∧ (∃ l', Hq (ls.set p (tailC (ls.getD p ces0))) N d B a w' l' ∧ Hs (ls.set p (tailC (ls.getD p ces0))) l') ∧ Chg (Nch d B a) w w' := by
  have hb := h.hb
  have hr := Reads.of_own h.hf
  have hA := hr.some_ (by omega)
  have hrl := Reads.of_own h.hl
  have pm := (H.mem _).1 (mem_at (i := 0) h0)
  rw [← hp] at pm
  have hpl : p < ls.length := by omega
  have hB := hrl.some_ (by omega)
  obtain ⟨s, hs⟩ : ∃ s, s = ls.getD p ces0 := ⟨_, rfl⟩
  have gs := gtS (l := ls) (i := p) hpl
  have mem := memD (l := ls) (i := p) (d := ces0) hpl
  have ms := h.hs _ mem
  have mc := hcp _ mem
  have sn : 0 < (ls.getD p ces0).n := pm.2.2
  rw [← hs] at gs ms mc sn ⊢
  have ls1 := ms.l
  have g1 := gtX (l := s.l) (i := 0) (by omega)
  have hsA := ms.r.some_ (by omega)
  have lx : ∀ (w' : World), Ext w w' → Ld w' (pA B.1 p) (.slice s.A s.n s.c) := fun w' hw => by have h := Ld.flat2 cs_len (hrl.ext hw) gs (r := 0) rfl; rwa [Nat.mul_one] at h
  have eo : ∀ (w' : World), Ext w w' → Ld w' (pA a.1 0) (.int .i64 (p : Int)) := fun w' hw => by have h := Ld.num (hr.ext hw) (j := 0) h0; rwa [← hp] at h
  refine enter Try.func17 rfl (by kernel_rfl) ?_
  refine J.seq ?_
  refine J.region ?_
  refine L.alloc rfl zr_48 ?_
  intro b1 w1 hb1 hs1 hk1 he1
  have hb1' := hb.ext he1
  refine L.nil ?_
  refine J.seq ?_
  refine J.region ?_
  refine L.va rfl (X.move (by conv => lhs; whnf)) ?_
  refine L.va rfl (X.nilCheck rfl) ?_
  refine L.va rfl (X.fieldAddr rfl Try.underlying41 rfl sz_35 (by decide)) ?_
  refine L.va rfl (X.load rfl sc_35 (by first | exact Ld.blk hb1' rfl | exact hA | exact eo _ he1)) ?_
  refine L.va rfl (X.index1n (j := 0) rfl rfl Try.underlying35 sz_3 (by first | exact Option.some_ne_none _ | exact hA | exact eo _ he1) (by omega)) ?_
  refine L.va rfl (X.load rfl sc_3 (by first | exact Ld.blk hb1' rfl | exact hA | exact eo _ he1)) ?_
  refine L.va rfl (X.assign (by conv => lhs; whnf)) ?_
  refine L.nil ?_
  refine J.seq ?_
  refine J.region ?_
  refine L.va rfl (X.move (by conv => lhs; whnf)) ?_
  refine L.va rfl (X.nilCheck rfl) ?_
  refine L.va rfl (X.fieldAddr rfl Try.underlying41 rfl sz_22 (by decide)) ?_
  refine L.va rfl (X.load rfl sc_22 (by first | exact Ld.blk hb1' rfl | exact hB | exact hsA | exact lx _ he1)) ?_
  refine L.va rfl (X.move (by conv => lhs; whnf)) ?_
  refine L.va rfl ((by first | exact X.index1n rfl rfl Try.underlying22 sz_25 (by first | exact Option.some_ne_none _ | exact hB | exact hsA | exact lx _ he1) (by omega) | exact X.index1 rfl rfl Try.underlying22 sz_25 (by first | exact Option.some_ne_none _ | exact hB | exact hsA | exact lx _ he1) (by omega))) ?_
  refine L.va rfl (X.load rfl sc_25 (by first | exact Ld.blk hb1' rfl | exact hB | exact hsA | exact lx _ he1)) ?_
  refine L.va rfl (X.indexAddrn (j := 0) rfl rfl Try.underlying25 sz_48 (by first | exact Option.some_ne_none _ | exact hB | exact hsA | exact lx _ he1) (by omega)) ?_
  refine L.va rfl (X.loadRow (cs := (s.l.getD 0 ce0).vs) rfl (ms.r.ext he1) (fun r u hu => flat_row ce_len g1 r u hu) (Nat.zero_lt_succ _) Try.underlying48 rfl (by kernel_rfl)) ?_
  refine L.alloc rfl zr_48 ?_
  intro b4 w4 hb4 hs4 hk4 he4
  have he04 := he1.trans he4
  have hk1 := hk1.ext he4
  refine L.storeAgg (vs := [_, _, _, _]) rfl rfl rfl rfl sz_48 (hk4) rfl ?_
  intro w5 hk5 hg5 hs5
  have he5 : Ext w w5 := he04.grw hg5 (by intro g hg; injection hg with hg; omega)
  have hk15 := hk1.grown hg5 (fun e => by injection e with e; omega)
  have hb5 := hb.ext he5
  have hl5 := h.hl.ext he5
  refine L.nil ?_
  refine J.seq ?_
  refine J.draw (ℓ := 14) (S := Ext w5) mixed (fun w6 hS hS_h => ?_)
  refine D.va 0 rfl (by kernel_rfl) (fun _ _ _ h => h) rfl (fun w' hw => X.move (by conv => lhs; whnf)) hS ?_
  refine D.va 1 rfl (by kernel_rfl) (fun _ _ _ h => h) rfl (fun w' hw => X.nilCheck rfl) hS ?_
  refine D.va 2 rfl (by kernel_rfl) (fun _ _ _ h => h) rfl (fun w' hw => X.fieldAddr rfl Try.underlying41 rfl sz_22 (by decide)) hS ?_
  refine D.va 3 rfl (by kernel_rfl) (fun _ _ _ h => h) rfl (fun w' hw => X.load rfl sc_22 (by first | exact Ld.blk (hb5.ext hw) rfl | exact hB | exact lx _ (he5.trans hw))) hS ?_
  refine D.va 4 rfl (by kernel_rfl) (fun _ _ _ h => h) rfl (fun w' hw => X.move (by conv => lhs; whnf)) hS ?_
  refine D.va 5 rfl (by kernel_rfl) (fun _ _ _ h => h) rfl (fun w' hw => X.move (by conv => lhs; whnf)) hS ?_
  refine D.va 6 rfl (by kernel_rfl) (fun _ _ _ h => h) rfl (fun w' hw => X.nilCheck rfl) hS ?_
  refine D.va 7 rfl (by kernel_rfl) (fun _ _ _ h => h) rfl (fun w' hw => X.fieldAddr rfl Try.underlying41 rfl sz_22 (by decide)) hS ?_
  refine D.va 8 rfl (by kernel_rfl) (fun _ _ _ h => h) rfl (fun w' hw => X.load rfl sc_22 (by first | exact Ld.blk (hb5.ext hw) rfl | exact hB | exact lx _ (he5.trans hw))) hS ?_
  refine D.va 9 rfl (by kernel_rfl) (fun _ _ _ h => h) rfl (fun w' hw => X.move (by conv => lhs; whnf)) hS ?_
  refine D.va 10 rfl (by kernel_rfl) (fun _ _ _ h => h) rfl (fun w' hw => (by first | exact X.index1n rfl rfl Try.underlying22 sz_25 (by first | exact Option.some_ne_none _ | exact hB | exact lx _ (he5.trans hw)) (by omega) | exact X.index1 rfl rfl Try.underlying22 sz_25 (by first | exact Option.some_ne_none _ | exact hB | exact lx _ (he5.trans hw)) (by omega))) hS ?_
  refine D.va 11 rfl (by kernel_rfl) (fun _ _ _ h => h) rfl (fun w' hw => X.load rfl sc_25 (by first | exact Ld.blk (hb5.ext hw) rfl | exact hB | exact lx _ (he5.trans hw))) hS ?_
  refine D.va 12 rfl (by kernel_rfl) (fun _ _ _ h => h) rfl (fun w' hw => X.sliceFromn (i := 1) rfl rfl Try.underlying25 sz_48 (by omega)) hS ?_
  refine D.va 13 rfl (by kernel_rfl) (fun _ _ _ h => h) rfl (fun w' hw => (by first | exact X.index1n rfl rfl Try.underlying22 sz_25 (by first | exact Option.some_ne_none _ | exact hB | exact lx _ (he5.trans hw)) (by omega) | exact X.index1 rfl rfl Try.underlying22 sz_25 (by first | exact Option.some_ne_none _ | exact hB | exact lx _ (he5.trans hw)) (by omega))) hS ?_
  have hl6 := hl5.ext hS
  have z6 := h.lo
  refine D.one 14 (by kernel_rfl) rfl ?_
  refine L.storeO rfl rfl (by conv => lhs; whnf) rfl sz_25 (hl6) (by first | omega | (simp; omega)) ?_
  intro w7 hl7 hg7 hb7 hs7
  refine L.nil ?_
  refine ⟨fun h => absurd rfl h, ?_⟩
  have he6 := he5.trans hS
  have hC7 : TCh 25 w6 w7 := TCh.row hl6 hg7
  have hB7 : Below N w6 w7 := hb7
  have hset := flat_set (f := Ces.vs) (r := 0) (v := .slice (tailC s).A (tailC s).n (tailC s).c) (y := tailC s) cs_len ls p hpl (by omega) (by rfl)
  have hl7 : w7.ownsRow N 25 1 (.slice B.1 ls.length B.2) ls.length ((ls.set p (tailC s)).flatMap Ces.vs) := by
    rw [← hset, Nat.mul_one, Nat.add_zero]
    exact hl7
  have hb7' := hC7.blk (hb5.ext hS) (by decide)
  have hk17 := hC7.blk (hk15.ext hS) (by decide)
  have hk57 := hC7.blk (hk5.ext hS) (by decide)
  have hn' : (ls.set p (tailC s)).length = ls.length := List.length_set
  have hQ : Hq (ls.set p (tailC s)) N d B a w7 l := by
    refine ⟨by rw [hn']; exact hb7', hC7.own (h.hf.ext he6) (by decide), by rw [hn']; exact hl7, fun t ht => ?_, h.hd, by rw [hn']; exact h.el, by rw [hn']; exact h.bn, by rw [hn']; exact h.bl⟩
    rcases List.mem_or_eq_of_mem_set ht with ht | rfl
    · exact ((h.hs t ht).ext he6).low hB7 (Nat.le_refl _)
    · exact (tailC_at (ms.ext he6) sn mc).low hB7 (Nat.le_refl _)
  have g7 : (ls.set p (tailC s))[p]? = some (tailC s) := by rw [List.getElem?_set, if_pos rfl, if_pos hpl]
  have lx7 : Ld w7 (pA B.1 p) (.slice (tailC s).A (tailC s).n (tailC s).c) := by have h := Ld.flat2 cs_len (Reads.of_own hl7) g7 (r := 0) rfl; rwa [Nat.mul_one] at h
  have hG7 : Chg (Nch d B a) w w7 := (Chg.of_ext he6).trans (Chg.of_grown hg7 (S := Nch d B a) fun g hg => .inr ((own_n _ _ _ _).trans hg)) fun _ _ hh => hh
  refine D.done (by kernel_rfl) ?_
  replace hb5 := hb5.ext hS
  refine J.seq ?_
  refine J.seq ?_
  refine J.region ?_
  refine L.va rfl (X.move (by conv => lhs; whnf)) ?_
  refine L.va rfl (X.nilCheck rfl) ?_
  refine L.va rfl (X.fieldAddr rfl Try.underlying41 rfl sz_22 (by decide)) ?_
  refine L.va rfl (X.load rfl sc_22 (by first | exact Ld.blk hb7' rfl | exact hB | exact lx7)) ?_
  refine L.va rfl (X.move (by conv => lhs; whnf)) ?_
  refine L.va rfl ((by first | exact X.index1n rfl rfl Try.underlying22 sz_25 (by first | exact Option.some_ne_none _ | exact hB | exact lx7) (by omega) | exact X.index1 rfl rfl Try.underlying22 sz_25 (by first | exact Option.some_ne_none _ | exact hB | exact lx7) (by omega))) ?_
  refine L.va rfl (X.load rfl sc_25 (by first | exact Ld.blk hb7' rfl | exact hB | exact lx7)) ?_
  refine L.va rfl (X.len rfl Try.underlying25) ?_
  refine L.va rfl (X.eql rfl rfl) ?_
  refine L.nil ?_
  have hl0 : (ls.set p (tailC s)).getD p ces0 = tailC s := set_eq hpl
  have hfull : ∀ q, 0 < q → q < l.length → Full (ls.set p (tailC s)) (l.getD q 0) := fun q hq0 hq => by
    unfold Full
    rw [set_ne (H.ne hp hq0 hq)]
    exact ((H.mem _).1 (mem_at hq)).2.2
  have hnc : ∀ g, w.heap.size ≤ g → ¬ Tch d a g := fun g hg hT => by
    rcases hT with rfl | hT
    · have := hb.lt; omega
    · have := (h.hf.lt g ((own_n _ _ _ _).trans hT)).2; omega
  refine J.dec rfl (fun hz => ?_) (fun hz => ?_)
  · have hz : (tailC s).n = 0 := by omega
    have c1 := (kit (ls.set p (tailC s)) N d B a).pop_ hQ h0 hfull
    refine J.region ?_
    refine L.va rfl (X.move (by conv => lhs; whnf)) ?_
    refine L.va rfl (X.mkI rfl Try.underlying39 rfl) ?_
    refine L.call rfl en_30 rfl (c1) ?_
    rintro e w8 ⟨rfl, hQ8, hC8⟩
    refine ⟨_, rfl, ?_⟩
    have hk18 := hC8.blk hk17 (hnc _ (by omega))
    have hk58 := hC8.blk hk57 (hnc _ (by omega))
    refine L.nil ?_
    refine J.seq ?_
    refine J.region ?_
    refine L.va rfl (X.loadAgg rfl (range_l hk58) Try.underlying48 rfl (by kernel_rfl)) ?_
    refine L.storeAgg (vs := [_, _, _, _]) rfl rfl rfl rfl sz_48 (hk18) rfl ?_
    intro w9 hk9 hg9 hs9
    have hC9 : TCh 48 w8 w9 := TCh.put hk18 hg9
    have hB9 : Below N w8 w9 := Chg.below (.of_grown hg9 (S := fun g => g = b1) (fun g hg => by injection hg with hg; exact hg.symm)) hQ8.lo (fun g hg => by omega)
    have hQ9 := hQ8.put hB9 hC9
    refine L.nil ?_
    refine J.ret ?_
    refine finC rfl (run_cell hk9 Try.underlying48 rfl (by kernel_rfl)) ?_
    exact ⟨rfl, ⟨_, hQ9, H.pop h0 hp hz⟩, (hG7.trans hC8 fun _ _ hh => .inl hh).trans (Chg.of_grown hg9 (S := (· = b1)) fun g hg => by injection hg with hg; exact hg.symm) fun g hg e => by omega⟩
  · have hz : 0 < (tailC s).n := by omega
    have hfull0 : ∀ q, q < l.length → Full (ls.set p (tailC s)) (l.getD q 0) := fun q hq => by
      rcases Nat.eq_zero_or_pos q with rfl | hq0
      · unfold Full
        rw [← hp, Int.toNat_natCast, hl0]
        exact hz
      · exact hfull q hq0 hq
    have c1 := (kit (ls.set p (tailC s)) N d B a).fix_ hQ h0 hfull0
    refine J.region ?_
    refine L.va rfl (X.move (by conv => lhs; whnf)) ?_
    refine L.va rfl (X.mkI rfl Try.underlying39 rfl) ?_
    refine L.call rfl en_29 rfl (c1) ?_
    rintro e w8 ⟨rfl, hQ8, hC8⟩
    refine ⟨_, rfl, ?_⟩
    have hk18 := hC8.blk hk17 (hnc _ (by omega))
    have hk58 := hC8.blk hk57 (hnc _ (by omega))
    refine L.nil ?_
    refine J.seq ?_
    refine J.region ?_
    refine L.va rfl (X.loadAgg rfl (range_l hk58) Try.underlying48 rfl (by kernel_rfl)) ?_
    refine L.storeAgg (vs := [_, _, _, _]) rfl rfl rfl rfl sz_48 (hk18) rfl ?_
    intro w9 hk9 hg9 hs9
    have hC9 : TCh 48 w8 w9 := TCh.put hk18 hg9
    have hB9 : Below N w8 w9 := Chg.below (.of_grown hg9 (S := fun g => g = b1) (fun g hg => by injection hg with hg; exact hg.symm)) hQ8.lo (fun g hg => by omega)
    have hQ9 := hQ8.put hB9 hC9
    refine L.nil ?_
    refine J.ret ?_
    refine finC rfl (run_cell hk9 Try.underlying48 rfl (by kernel_rfl)) ?_
    exact ⟨rfl, ⟨_, hQ9, H.fix h0 hp hz⟩, (hG7.trans hC8 fun _ _ hh => .inl hh).trans (Chg.of_grown hg9 (S := (· = b1)) fun g hg => by injection hg with hg; exact hg.symm) fun g hg e => by omega⟩
end Hq
end Go.Proofs.Ytnndkepnabddgaa
namespace Go.Proofs.Ytnndkepnabddgaa
open Go.RowKit
set_option linter.unusedVariables false
namespace Dfp
abbrev Ris (l : List (Int × Int)) : Prop := l.Pairwise fun p q => p.1 < q.1
abbrev RisC (l : List Ce) : Prop := l.Pairwise fun x y => x.key < y.key
theorem ris_eq : ∀ {l m : List (Int × Int)}, Ris l → Ris m → (∀ x, x ∈ l ↔ x ∈ m) → l = m
  | [], [], _, _, _ => rfl
  | [], b :: t, _, _, h => absurd ((h b).2 (by simp)) (by simp)
  | a :: s, [], _, _, h => absurd ((h a).1 (by simp)) (by simp)
  | a :: s, b :: t, hl, hm, h => by
    have hl' := List.pairwise_cons.1 hl
    have hm' := List.pairwise_cons.1 hm
    have hab : a = b := by
      rcases List.mem_cons.1 ((h a).1 (by simp)) with h1 | h1
      · exact h1
      · rcases List.mem_cons.1 ((h b).2 (by simp)) with h2 | h2
        · exact h2.symm
        · have := hm'.1 a h1
          have := hl'.1 b h2
          omega
    subst hab
    rw [ris_eq hl'.2 hm'.2 fun x => ?_]
    constructor
    · intro hx
      rcases List.mem_cons.1 ((h x).1 (by simp [hx])) with h1 | h1
      · subst h1
        have := hl'.1 x hx
        omega
      · exact h1
    · intro hx
      rcases List.mem_cons.1 ((h x).2 (by simp [hx])) with h1 | h1
      · subst h1
        have := hm'.1 x hx
        omega
      · exact h1
def Becomes (sm : Ce → Ce → Bool) (a b : List Ce) (p : Int × Int) : Prop :=
  (p.2 = 1 ∧ (∃ x ∈ a, x.key = p.1) ∧ ∀ y ∈ b, y.key ≠ p.1) ∨ (p.2 = 2 ∧ (∃ y ∈ b, y.key = p.1) ∧ ∀ x ∈ a, x.key ≠ p.1) ∨ (p.2 = 3 ∧ ∃ x ∈ a, ∃ y ∈ b, x.key = p.1 ∧ y.key = p.1 ∧ sm x y = false)
theorem becomes_key {sm : Ce → Ce → Bool} {a b : List Ce} {p : Int × Int} (h : Becomes sm a b p) : (∃ x ∈ a, x.key = p.1) ∨ ∃ y ∈ b, y.key = p.1 := by
  rcases h with ⟨_, h, _⟩ | ⟨_, h, _⟩ | ⟨_, x, hx, y, hy, h1, h2, _⟩
  · exact .inl h
  · exact .inr h
  · exact .inl ⟨x, hx, h1⟩
theorem merge_ok (sm : Ce → Ce → Bool) (a b : List Ce) (ha : RisC a) (hb : RisC b) : Ris (mergeD sm a b) ∧ ∀ p, p ∈ mergeD sm a b ↔ Becomes sm a b p := by
  induction a, b using mergeD.induct with
  | case1 =>
    rw [mergeD]
    refine ⟨List.Pairwise.nil, fun p => ?_⟩
    unfold Becomes
    simp
  | case2 x a ih =>
    rw [mergeD]
    obtain ⟨hx, ha'⟩ := List.pairwise_cons.1 ha
    obtain ⟨i1, i2⟩ := ih ha' hb
    refine ⟨List.pairwise_cons.2 ⟨fun q hq => ?_, i1⟩, fun p => ?_⟩
    · rcases becomes_key ((i2 q).1 hq) with ⟨z, hz, e⟩ | ⟨z, hz, e⟩
      · have := hx z hz
        show x.key < q.1
        omega
      · cases hz
    · rw [List.mem_cons, i2]
      unfold Becomes
      obtain ⟨p1, p2⟩ := p
      simp only [Prod.mk.injEq]
      grind
  | case3 y b ih =>
    rw [mergeD]
    obtain ⟨hy, hb'⟩ := List.pairwise_cons.1 hb
    obtain ⟨i1, i2⟩ := ih ha hb'
    refine ⟨List.pairwise_cons.2 ⟨fun q hq => ?_, i1⟩, fun p => ?_⟩
    · rcases becomes_key ((i2 q).1 hq) with ⟨z, hz, e⟩ | ⟨z, hz, e⟩
      · cases hz
      · have := hy z hz
        show y.key < q.1
        omega
    · rw [List.mem_cons, i2]
      unfold Becomes
      obtain ⟨p1, p2⟩ := p
      simp only [Prod.mk.injEq]
      grind
  | case4 x a y b h ih =>
    rw [mergeD, if_pos h]
    obtain ⟨hx, ha'⟩ := List.pairwise_cons.1 ha
    obtain ⟨hy, hb'⟩ := List.pairwise_cons.1 hb
    obtain ⟨i1, i2⟩ := ih ha' hb
    refine ⟨List.pairwise_cons.2 ⟨fun q hq => ?_, i1⟩, fun p => ?_⟩
    · show x.key < q.1
      rcases becomes_key ((i2 q).1 hq) with ⟨z, hz, e⟩ | ⟨z, hz, e⟩
      · have := hx z hz
        omega
      · rcases List.mem_cons.1 hz with rfl | hz
        · omega
        · have := hy z hz
          omega
    · rw [List.mem_cons, i2]
      unfold Becomes
      obtain ⟨p1, p2⟩ := p
      simp only [Prod.mk.injEq]
      grind
  | case5 x a y b h1 h2 ih =>
    rw [mergeD, if_neg h1, if_pos h2]
    obtain ⟨hx, ha'⟩ := List.pairwise_cons.1 ha
    obtain ⟨hy, hb'⟩ := List.pairwise_cons.1 hb
    obtain ⟨i1, i2⟩ := ih ha hb'
    refine ⟨List.pairwise_cons.2 ⟨fun q hq => ?_, i1⟩, fun p => ?_⟩
    · show y.key < q.1
      rcases becomes_key ((i2 q).1 hq) with ⟨z, hz, e⟩ | ⟨z, hz, e⟩
      · rcases List.mem_cons.1 hz with rfl | hz
        · omega
        · have := hx z hz
          omega
      · have := hy z hz
        omega
    · rw [List.mem_cons, i2]
      unfold Becomes
      obtain ⟨p1, p2⟩ := p
      simp only [Prod.mk.injEq]
      grind
  | case6 x a y b h1 h2 ih =>
    rw [mergeD, if_neg h1, if_neg h2]
    obtain ⟨hx, ha'⟩ := List.pairwise_cons.1 ha
    obtain ⟨hy, hb'⟩ := List.pairwise_cons.1 hb
    obtain ⟨i1, i2⟩ := ih ha' hb'
    have hk : x.key = y.key := by omega
    refine ⟨?_, fun p => ?_⟩
    · rw [Ris, List.pairwise_append]
      refine ⟨by split <;> simp, i1, fun q hq r hr => ?_⟩
      have e : q = (x.key, 3) := by
        split at hq
        · cases hq
        · simpa using hq
      rw [e]
      show x.key < r.1
      rcases becomes_key ((i2 r).1 hr) with ⟨z, hz, e⟩ | ⟨z, hz, e⟩
      · have := hx z hz
        omega
      · have := hy z hz
        omega
    · rw [List.mem_append, i2]
      unfold Becomes
      obtain ⟨p1, p2⟩ := p
      cases hs : sm x y <;> grind
def Part (sm : Ce → Ce → Bool) (a b : List Ce) (i j : Nat) (p : Int × Int) : Prop :=
  (p.2 = 1 ∧ (∃ x ∈ a.take i, x.key = p.1) ∧ ∀ y ∈ b, y.key ≠ p.1) ∨ (p.2 = 2 ∧ (∃ y ∈ b.take j, y.key = p.1) ∧ ∀ x ∈ a, x.key ≠ p.1) ∨ (p.2 = 3 ∧ ∃ x ∈ a.take i, ∃ y ∈ b, x.key = p.1 ∧ y.key = p.1 ∧ sm x y = false)
structure PartL (sm : Ce → Ce → Bool) (a b : List Ce) (i j : Nat) (o : List (Int × Int)) : Prop where
  up : Ris o
  mem : ∀ p, p ∈ o ↔ Part sm a b i j p
variable {sm : Ce → Ce → Bool} {a b : List Ce} {i j : Nat} {o : List (Int × Int)}
theorem PartL.all (h : PartL sm a b a.length b.length o) (ha : RisC a) (hb : RisC b) : o = mergeD sm a b := by
  obtain ⟨m1, m2⟩ := merge_ok sm a b ha hb
  refine ris_eq h.up m1 fun p => ?_
  rw [h.mem, m2]
  unfold Part Becomes
  rw [List.take_length, List.take_length]
theorem before {l : List Ce} (hl : RisC l) {i : Nat} (h : i < l.length) : ∀ x ∈ l.take i, x.key ≠ (l.getD i ce0).key := fun x hx => by
  obtain ⟨k, hk, rfl⟩ := List.getElem_of_mem hx
  rw [List.length_take] at hk
  have := List.pairwise_iff_getElem.1 hl k i (by omega) h (by omega)
  rw [List.getElem_take, List.getD, List.getElem?_eq_getElem h]
  show (l[k]).key ≠ (l[i]).key
  omega
end Dfp
end Go.Proofs.Ytnndkepnabddgaa
namespace Go.Proofs.Ytnndkepnabddgaa
set_option maxRecDepth 100000
open Go.RowKit H
open Dfp
set_option linter.unusedVariables false
theorem trising {w : World} {N : Nat} (A : Option Addr) (c : Nat) (l : List Ce) (hr : Reads w N 4 A l.length (l.flatMap Ce.vals)) (hN : N ≤ w.heap.size) (hm : l.length ≤ 1000000) : Calls Try.prog 14 #[.slice A l.length c] w fun e w' => e = .returned (.bool (rise l)) ∧ Ext w w' := by
  refine enter Try.func14 rfl (by kernel_rfl) ?_
  refine J.seq ?_
  refine J.region ?_
  refine L.va rfl (X.assign (by conv => lhs; whnf)) ?_
  refine L.nil ?_
  refine J.seq ?_
  refine J.seq ?_
  refine J.region ?_
  refine L.va rfl (X.assign (by conv => lhs; whnf)) ?_
  refine L.nil ?_
  refine J.block ?_
  refine J.loop (X := Nat) [2, 3, 4, 5, 6, 7, 8, 9, 10, 11, 12, 13, 14, 15, 16, 17, 18, 19, 20, 21] (fun i => [(3, .int .i64 (i : Int))]) (fun i w' => 1 ≤ i ∧ (i ≤ l.length ∨ l.length = 0 ∧ i = 1) ∧ Ext w w' ∧ ∀ j, j + 1 < i → (l.getD j ce0).key < (l.getD (j + 1) ce0).key) (fun i => l.length + 1 - i) (1) (At1 (by first | rfl | exact at_int rfl (by omega) | exact at_slice rfl (by omega) | exact at_int rfl (by simp))) ?_ ?_
  · exact ⟨by omega, by omega, Ext.refl _, fun j hj => by omega⟩
  · rintro i g w2 ⟨h1, hi, he, hall⟩
    have hr2 := hr.low (Below.mono he hN) (Nat.le_refl _)
    have z := he.le
    refine J.seq ?_
    refine J.seq ?_
    refine J.region ?_
    refine L.va rfl (X.move (by conv => lhs; whnf)) ?_
    refine L.va rfl (X.move (by conv => lhs; whnf)) ?_
    refine L.va rfl (X.len rfl Try.underlying25) ?_
    refine L.va rfl (X.lss rfl rfl) ?_
    refine L.nil ?_
    refine J.dec rfl (fun hlt => ?_) (fun hlt => ?_)
    · have hil : i < l.length := by omega
      have hA := hr2.some_ (by omega)
      obtain ⟨j, rfl⟩ : ∃ j, i = j + 1 := ⟨i - 1, by omega⟩
      have gi := gtX hil
      have gj := gtX (show j < l.length by omega)
      have hrow1 := fun (w' : World) (hw : Ext w2 w') => hr2.low (Below.mono hw (by omega)) (Nat.le_refl _)
      generalize hx : l.getD (j + 1) ce0 = x at *
      generalize hy : l.getD j ce0 = y at *
      have kx : x.key = (x.k : Int) := rfl
      have ky : y.key = (y.k : Int) := rfl
      refine J.skip ?_
      refine J.seq ?_
      refine J.block ?_
      refine J.seq ?_
      refine J.quiet mixed (by kernel_rfl) ?_
      refine Qt.va rfl (fun w' hw => X.move (by conv => lhs; whnf)) ?_
      refine Qt.va rfl (fun w' hw => X.move (by conv => lhs; whnf)) ?_
      refine Qt.va rfl (fun w' hw => (by first | exact X.indexAddrn rfl rfl Try.underlying25 sz_48 (by first | exact Option.some_ne_none _ | exact hA) (by omega) | exact X.indexAddr rfl rfl Try.underlying25 sz_48 (by first | exact Option.some_ne_none _ | exact hA) (by omega))) ?_
      refine Qt.va rfl (fun w' hw => X.fieldP rfl Try.underlying48 rfl sz_44 (by decide) (by first | exact Option.some_ne_none _ | exact hA)) ?_
      refine Qt.va rfl (fun w' hw => X.load rfl sc_44 (Ld.flat2 ce_len (hrow1 w' hw) gi (r := 0) rfl)) ?_
      refine Qt.va rfl (fun w' hw => X.move (by conv => lhs; whnf)) ?_
      refine Qt.va rfl (fun w' hw => X.move (by conv => lhs; whnf)) ?_
      refine Qt.va rfl (fun w' hw => X.sub rfl rfl (by omega)) ?_
      refine Qt.va rfl (fun w' hw => X.indexAddrn (j := j) rfl (show Value.int .i64 (((j + 1 : Nat) : Int) - 1) = _ by rw [show (((j + 1 : Nat) : Int) - 1) = (j : Int) by omega]) Try.underlying25 sz_48 hA (by omega)) ?_
      refine Qt.va rfl (fun w' hw => X.fieldP rfl Try.underlying48 rfl sz_44 (by decide) hA) ?_
      refine Qt.va rfl (fun w' hw => X.load rfl sc_44 (Ld.flat2 ce_len (hrow1 w' hw) gj (r := 0) rfl)) ?_
      refine Qt.va rfl (fun w' hw => X.leq rfl rfl) ?_
      refine Qt.nil (fun w3 hq => ?_)
      have he3 := he.trans hq
      refine J.dec rfl (fun hle => ?_) (fun hle => ?_)
      · have e : rise l = false := by
          rw [← Bool.not_eq_true, rise_at]
          intro h
          have := h j hil
          rw [hx, hy] at this
          omega
        rw [e]
        refine J.seq ?_
        refine J.region ?_
        refine L.va rfl (X.assign (by conv => lhs; whnf)) ?_
        refine L.nil ?_
        refine J.ret ?_
        refine inB_ret <|  thn_ret <|  thn_ret <|  inB_ret <|  thn_ret <| ?_
        refine fin1 ?_
        exact ⟨rfl, he3⟩
      · refine J.skip ?_
        refine J.region ?_
        refine L.va rfl (X.move (by conv => lhs; whnf)) ?_
        refine L.va rfl (X.add rfl rfl (by omega)) ?_
        refine L.va rfl (X.assign (by conv => lhs; whnf)) ?_
        refine L.nil ?_
        refine ⟨(j + 1) + 1, At1 (by first | rfl | exact at_int rfl (by omega) | exact at_slice rfl (by omega) | exact at_int rfl (by simp)), (by (iterate 19 refine Agr.lk rfl ?_); exact Agr.lk rfl (Agr.hav rfl Agr.rfl')), ?_⟩
        refine ⟨⟨by omega, by omega, he3, fun k hk => ?_⟩, by omega⟩
        rcases Nat.lt_or_ge k j with h2 | h2
        · exact hall k (by omega)
        · obtain rfl : k = j := by omega
          rw [hx, hy]
          omega
    · have e : rise l = true := by
        rw [rise_at]
        intro j hj
        exact hall j (by omega)
      rw [e]
      refine J.exit ?_
      refine J.seq ?_
      refine J.region ?_
      refine L.va rfl (X.assign (by conv => lhs; whnf)) ?_
      refine L.nil ?_
      refine J.ret ?_
      refine fin1 ?_
      exact ⟨rfl, he⟩
end Go.Proofs.Ytnndkepnabddgaa
namespace Go.Proofs.Ytnndkepnabddgaa.H
open Go.RowKit Go.Proofs.Ytnndkepnabddgaa
set_option linter.unusedSimpArgs false
set_option linter.unusedVariables false
theorem flat_splice {X : Type} {f : X → List Value} {sz : Nat} (h : ∀ x, (f x).length = sz) {y : X} : ∀ (l : List X) (i : Nat), i < l.length → (l.flatMap f).take (i * sz) ++ f y ++ (l.flatMap f).drop (i * sz + sz) = (l.set i y).flatMap f
  | x :: t, 0, hi => by
    have hx := h x
    rw [List.set_cons_zero, List.flatMap_cons, List.flatMap_cons, Nat.zero_mul, Nat.zero_add, List.take_zero, List.nil_append, ← hx, List.drop_left]
  | x :: t, i + 1, hi => by
    have hx := h x
    have ih := flat_splice h (y := y) t i (by simpa using hi)
    rw [List.set_cons_succ, List.flatMap_cons, List.flatMap_cons, ← ih, show (i + 1) * sz = (f x).length + i * sz by rw [hx, Nat.succ_mul, Nat.add_comm], List.take_length_add_append, Nat.add_assoc, List.drop_length_add_append]
    simp only [List.append_assoc]
section
variable {P : Program} {n : Nat} {ops rest : List Oper} {Q : Exit → Fr → World → Prop} {fr : Fr} {w w' : World} {d : Option Tmp} {ty : TypeId} {pos : String} {aft : Array Edge} {g : Option (Nat × Bool)} {x y : Operand} {t e : TypeId}
theorem L.storeOC {X : Type} {f : X → List Value} {A : Option Addr} {n' c i base size : Nat} {l : List X} {z : X} (hf : ∀ x, (f x).length = size) (hg : wn ops fr g = true) (hx : ev fr x = pA A (i * size)) (hy : ev fr y = .agg (f z).toArray) (h1 : ((f z).all (·.oneCell')) = true) (hz : Siz P t size) (hown : w.ownsRow base e size (.slice A n' c) n' (l.flatMap f)) (hi : i < l.length) (hn : l.length = n')
    (h : ∀ w', w'.ownsRow base e size (.slice A n' c) n' ((l.set i z).flatMap f) → w.grownBy w' (Value.ownBlock (.slice A n' c)) → w'.heap.size = w.heap.size → L P n ops Q rest (putO fr d undef) w') : L P n ops Q (⟨d, .store t x y, ty, pos, aft, g⟩ :: rest) fr w := by
  subst hn
  rcases hown.2 with ⟨h1', h2⟩ | ⟨b, cap, cur, hv, hb, hh, h2, h3, h4, h5⟩
  · omega
  · injection hv with hA _ hc
    subst hA hc
    have hbk : Blk w b e cur := hh
    have hle : (i + 1) * size ≤ c * size := Nat.mul_le_mul_right _ (by omega)
    rw [Nat.succ_mul] at hle
    have hx' : ev fr x = .pointer (some ⟨b, i * size, none⟩) := by rw [hx]; simp [pA, Addr.add_mid]
    refine L.storeC (vs := f z) hg hx' hy (by rfl) h1 (by rw [hf z]; exact hz) hbk (by rw [hf z, h4]; exact hle) ?_
    intro w' hk hg' hs
    rw [hf z] at hk
    have hil : (i + 1) * size ≤ l.length * size := Nat.mul_le_mul_right _ hi
    rw [Nat.succ_mul] at hil
    have hlc : l.length * size ≤ c * size := Nat.mul_le_mul_right _ h2
    have hsz : cur.toList.length = c * size := by rw [Array.length_toList]; exact h4
    refine h w' ⟨?_, .inr ⟨b, c, _, rfl, hb, hk, h2, h3, ?_, ?_⟩⟩ hg' hs
    · rw [← flat_splice hf l i hi]
      simp only [List.length_append, List.length_take, List.length_drop, hf z, hown.1]
      omega
    · rw [List.size_toArray]
      simp only [List.length_append, List.length_take, List.length_drop, hf z, hsz]
      omega
    · rw [← flat_splice hf l i hi, ← h5]
      rw [List.append_assoc, List.append_assoc, List.take_append, List.take_append]
      simp only [List.length_take, hf z, hsz, List.take_take, List.drop_take]
      rw [Nat.min_eq_left (show i * size ≤ c * size by omega), Nat.min_eq_right (show i * size ≤ l.length * size by omega), Nat.min_eq_left (show i * size ≤ l.length * size by omega)]
      rw [List.take_of_length_le (show (f z).length ≤ l.length * size - i * size by rw [hf z]; omega)]
      rw [show l.length * size - i * size - size = l.length * size - (i * size + size) by omega]
end
end Go.Proofs.Ytnndkepnabddgaa.H
namespace Go.Proofs.Ytnndkepnabddgaa
set_option maxRecDepth 100000
open Go.RowKit H
open HeapK Dfp
set_option linter.unusedVariables false
namespace Hq
variable {ls : List Ces} {N d : Nat} {B a : Option Addr × Nat} {w w' : World} {l : List Int}
theorem nch_ty (h : Hq ls N d B a w l) {g : Nat} (hg : Nch d B a g) : OfT w 41 g ∨ OfT w 3 g ∨ OfT w 25 g := by
  rcases hg with (rfl | hg) | hg
  · exact .inl h.hb.ofT
  · exact .inr (.inl (own_ofT h.hf ((own_n _ _ _ _).trans hg)).1)
  · exact .inr (.inr (own_ofT h.hl ((own_n _ _ _ _).trans hg)).1)
theorem nch_ge (h : Hq ls N d B a w l) : ∀ g, Nch d B a g → N ≤ g := by
  rintro g (hg | hg)
  · exact h.tch_ge g hg
  · exact (h.hl.lt g ((own_n _ _ _ _).trans hg)).1
theorem nch_own (h : Hq ls N d B a w l) (hC : Chg (Nch d B a) w w') {M e sz n : Nat} {x : Value} {xs : List Value} (ho : w.ownsRow M e sz x n xs) (hne : e ≠ 41 ∧ e ≠ 3 ∧ e ≠ 25) : w'.ownsRow M e sz x n xs :=
  hC.own ho fun g hg hS => by
    have h1 := (own_ofT ho hg).1
    rcases h.nch_ty hS with k | k | k
    · exact hne.1 (h1.one k)
    · exact hne.2.1 (h1.one k)
    · exact hne.2.2 (h1.one k)
theorem nch_low (h : Hq ls N d B a w l) (hC : Chg (Nch d B a) w w') : Below N w w' := hC.below h.lo h.nch_ge
theorem nch_cell (h : Hq ls N d B a w l) (hC : Chg (Nch d B a) w w') {x : Ce} {q : Nat} (hx : x.OwnQ q N w) : x.OwnQ q N w' :=
  ⟨hx.k, hx.t, h.nch_own hC hx.i (by decide), fun y hy => ⟨(hx.hi y hy).r.imp (fun r => r.low (h.nch_low hC) (Nat.le_refl _)) (fun r => h.nch_own hC r (by decide)), (hx.hi y hy).m, (hx.hi y hy).o, (hx.hi y hy).cp⟩, hx.li, h.nch_own hC hx.r (by decide), fun y hy => ⟨(hx.hr y hy).r.imp (fun r => r.low (h.nch_low hC) (Nat.le_refl _)) (fun r => h.nch_own hC r (by decide)), (hx.hr y hy).m, (hx.hr y hy).o⟩, hx.lr, hx.L⟩
end Hq
def riseAll (ls : List Ces) : Bool := ls.all fun s => rise s.l
theorem riseAll_no {ls : List Ces} {i : Nat} (hi : i < ls.length) (h : rise (ls.getD i ces0).l = false) : riseAll ls = false := by
  rw [← Bool.not_eq_true]
  intro k
  have := List.all_eq_true.1 k _ (memD (d := ces0) hi)
  rw [h] at this
  cases this
theorem riseAll_yes {ls : List Ces} (h : ∀ i, i < ls.length → rise (ls.getD i ces0).l = true) : riseAll ls = true := by
  unfold riseAll
  rw [List.all_eq_true]
  intro s hs
  obtain ⟨i, hi, rfl⟩ := List.getElem_of_mem hs
  have := h i hi
  rwa [List.getD, List.getElem?_eq_getElem hi] at this
def fullsTo (ls : List Ces) (i : Nat) : List Int := ((List.range i).filter fun j => decide (0 < (ls.getD j ces0).n)).map fun (j : Nat) => (j : Int)
theorem fulls_next (ls : List Ces) (i : Nat) : fullsTo ls (i + 1) = fullsTo ls i ++ (if 0 < (ls.getD i ces0).n then [(i : Int)] else []) := by
  unfold fullsTo
  rw [List.range_succ, List.filter_append, List.map_append]
  congr 1
  by_cases h : 0 < (ls.getD i ces0).n
  · rw [if_pos h, List.filter_cons_of_pos (by simpa using h)]
    rfl
  · rw [if_neg h, List.filter_cons_of_neg (by simpa using h)]
    rfl
theorem fulls_len (ls : List Ces) (i : Nat) : (fullsTo ls i).length ≤ i := by
  unfold fullsTo
  rw [List.length_map]
  exact Nat.le_trans (List.length_filter_le ..) (by simp)
theorem fulls_mem {ls : List Ces} {i : Nat} {x : Int} : x ∈ fullsTo ls i ↔ 0 ≤ x ∧ x < (i : Int) ∧ Full ls x := by
  unfold fullsTo Full
  rw [List.mem_map]
  constructor
  · rintro ⟨j, hj, rfl⟩
    rw [List.mem_filter, List.mem_range] at hj
    refine ⟨by omega, by omega, ?_⟩
    simpa using hj.2
  · rintro ⟨h1, h2, h3⟩
    obtain ⟨j, rfl⟩ := Int.eq_ofNat_of_zero_le h1
    refine ⟨j, ?_, rfl⟩
    rw [List.mem_filter, List.mem_range]
    exact ⟨by omega, by simpa using h3⟩
theorem fulls_nodup (ls : List Ces) (i : Nat) : (fullsTo ls i).Nodup := by
  unfold fullsTo
  have h : ((List.range i).filter fun j => decide (0 < (ls.getD j ces0).n)).Nodup := List.Nodup.sublist List.filter_sublist List.nodup_range
  exact List.Pairwise.map _ (fun a b hab e => hab (by omega)) h
theorem Hs.init (ls : List Ces) : Hs ls (initHk (kapH ls) (fullsTo ls ls.length) ((fullsTo ls ls.length).length / 2)) := by
  have hp := initHk_perm (κ := kapH ls) (fullsTo ls ls.length) ((fullsTo ls ls.length).length / 2)
  refine ⟨hp.symm.nodup (fulls_nodup _ _), ?_, fun x => by rw [hp.mem_iff]; exact fulls_mem⟩
  rw [initHk_length]
  exact initHk_heap _ _ fun k hk0 hkn hlo => by omega
end Go.Proofs.Ytnndkepnabddgaa
namespace Go.Proofs.Ytnndkepnabddgaa
set_option linter.unusedVariables false
namespace Tmg
structure IsBest (rest : List (List Con)) (i : Nat) (c : Con) (t : List Con) : Prop where
  at_ : rest[i]? = some (c :: t)
  le : ∀ (j : Nat) (d : Con) (u : List Con), rest[j]? = some (d :: u) → c.k < d.k ∨ (c.k = d.k ∧ i ≤ j)
theorem IsBest.one {rest : List (List Con)} {i j : Nat} {c d : Con} {t u : List Con} (h : IsBest rest i c t) (k : IsBest rest j d u) : i = j ∧ c = d ∧ t = u := by
  have h1 := h.le j d u k.at_
  have h2 := k.le i c t h.at_
  have e : i = j := by omega
  subst e
  have h3 := h.at_.symm.trans k.at_
  injection h3 with h3
  injection h3 with h4 h5
  exact ⟨rfl, h4, h5⟩
section
variable (E : Con → Con → Int) (V : Con → Con → Con)
open Classical in
noncomputable def mP : Nat → List (List Con) → List Con → List Con × Int
  | 0, _, out => (out, 0)
  | f + 1, rest, out =>
    if h : ∃ p : Nat × Con × List Con, IsBest rest p.1 p.2.1 p.2.2 then
      let p := Classical.choose h
      match out.getLast? with
      | none => mP f (rest.set p.1 p.2.2) (out ++ [p.2.1])
      | some l =>
        if l.k = p.2.1.k then
          if E l p.2.1 ≠ 0 then ([], E l p.2.1) else mP f (rest.set p.1 p.2.2) (out.dropLast ++ [V l p.2.1])
        else mP f (rest.set p.1 p.2.2) (out ++ [p.2.1])
    else (out, 0)
variable {E V} {f : Nat} {rest : List (List Con)} {out : List Con} {i : Nat} {c : Con} {t : List Con}
theorem mP_best (h : IsBest rest i c t) : mP E V (f + 1) rest out =
    match out.getLast? with
      | none => mP E V f (rest.set i t) (out ++ [c])
      | some l => if l.k = c.k then (if E l c ≠ 0 then ([], E l c) else mP E V f (rest.set i t) (out.dropLast ++ [V l c])) else mP E V f (rest.set i t) (out ++ [c]) := by
  have hx : ∃ p : Nat × Con × List Con, IsBest rest p.1 p.2.1 p.2.2 := ⟨(i, c, t), h⟩
  obtain ⟨e1, e2, e3⟩ := (Classical.choose_spec hx).one h
  rw [mP, dif_pos hx]
  dsimp only
  rw [e1, e2, e3]
theorem mP_push (h : IsBest rest i c t) (hl : ∀ l, out.getLast? = some l → l.k ≠ c.k) : mP E V (f + 1) rest out = mP E V f (rest.set i t) (out ++ [c]) := by
  rw [mP_best h]
  cases hg : out.getLast? with
  | none => rfl
  | some l => exact if_neg (hl l hg)
theorem mP_join (h : IsBest rest i c t) {x : Con} (hk : x.k = c.k) (he : E x c = 0) : mP E V (f + 1) rest (out ++ [x]) = mP E V f (rest.set i t) (out ++ [V x c]) := by
  rw [mP_best h, List.getLast?_concat]
  dsimp only
  rw [if_pos hk, if_neg (by simp [he]), List.dropLast_concat]
theorem mP_err (h : IsBest rest i c t) {x : Con} (hk : x.k = c.k) (he : E x c ≠ 0) : mP E V (f + 1) rest (out ++ [x]) = ([], E x c) := by
  rw [mP_best h, List.getLast?_concat]
  dsimp only
  rw [if_pos hk, if_pos he]
theorem mP_end (h : ∀ l ∈ rest, l = []) : mP E V f rest out = (out, 0) := by
  cases f with
  | zero => rfl
  | succ f =>
    rw [mP, dif_neg]
    rintro ⟨p, hp⟩
    have := h _ (List.mem_of_getElem? hp.at_)
    cases this
def tot (rest : List (List Con)) : Nat := (rest.map List.length).sum
theorem tot_set : ∀ {rest : List (List Con)} {i : Nat} {c : Con} {t : List Con}, rest[i]? = some (c :: t) → tot rest = tot (rest.set i t) + 1
  | [], i, c, t, h => by simp at h
  | a :: r, 0, c, t, h => by
    have h : a = c :: t := by simpa using h
    subst h
    simp [tot]
    omega
  | a :: r, i + 1, c, t, h => by
    have h : r[i]? = some (c :: t) := by simpa using h
    have := tot_set h
    simp only [tot, List.set_cons_succ, List.map_cons, List.sum_cons] at this ⊢
    omega
end
def at_ (l : List Con) (k : Nat) : Option Con := l.find? (fun c => decide (c.k = k))
section
variable (E : Con → Con → Int) (V : Con → Con → Con)
def m2 : List Con → List Con → List Con × Int
  | [], b => (b, 0)
  | a, [] => (a, 0)
  | x :: a, y :: b =>
    if x.k < y.k then let r := m2 a (y :: b); if r.2 = 0 then (x :: r.1, 0) else r
    else if y.k < x.k then let r := m2 (x :: a) b; if r.2 = 0 then (y :: r.1, 0) else r
    else if E x y ≠ 0 then ([], E x y) else let r := m2 a b; if r.2 = 0 then (V x y :: r.1, 0) else r
termination_by a b => a.length + b.length
variable {E V}
end
end Tmg
end Go.Proofs.Ytnndkepnabddgaa
namespace Go.Proofs.Ytnndkepnabddgaa
set_option maxRecDepth 100000
open Go.RowKit H
open HeapK Dfp Tmg
set_option linter.unusedVariables false
theorem con_at {rest : List Ces} {j : Nat} {d : Con} {u : List Con} (h : (rest.map Ces.con)[j]? = some (d :: u)) : j < rest.length ∧ 0 < (rest.getD j ces0).l.length ∧ d.k = hkey (rest.getD j ces0) := by
  rw [List.getElem?_map] at h
  rcases Nat.lt_or_ge j rest.length with hj | hj
  · rw [List.getElem?_eq_getElem hj] at h
    injection h with h
    have e : rest.getD j ces0 = rest[j] := by rw [List.getD, List.getElem?_eq_getElem hj]; rfl
    rw [e]
    have h : (rest[j]).l.map Ce.con = d :: u := h
    cases hl : (rest[j]).l with
    | nil => rw [hl] at h; cases h
    | cons x t =>
      rw [hl, List.map_cons] at h
      injection h with h1 h2
      refine ⟨hj, by simp, ?_⟩
      rw [← h1]
      show x.k = hkey rest[j]
      unfold hkey
      rw [hl]
      rfl
  · rw [List.getElem?_eq_none hj] at h
    cases h
theorem Hs.best {rest : List Ces} {l : List Int} (h : Hs rest l) (h0 : 0 < l.length) (hn : ∀ s ∈ rest, s.l.length = s.n) (hb : rest.length ≤ 900000) {p : Nat} (hp : (p : Int) = l.getD 0 0) : IsBest (rest.map Ces.con) p ((rest.getD p ces0).l.getD 0 ce0).con (tailC (rest.getD p ces0)).con := by
  have pm := (h.mem _).1 (mem_at (i := 0) h0)
  rw [← hp] at pm
  have hpl : p < rest.length := by omega
  have hpn : 0 < (rest.getD p ces0).n := pm.2.2
  have hpm := memD (l := rest) (i := p) (d := ces0) hpl
  have hl := hn _ hpm
  constructor
  · rw [List.getElem?_map, List.getElem?_eq_getElem hpl]
    have e : rest.getD p ces0 = rest[p] := by rw [List.getD, List.getElem?_eq_getElem hpl]; rfl
    rw [e] at hl hpn ⊢
    show some ((rest[p]).l.map Ce.con) = some (((rest[p]).l.getD 0 ce0).con :: ((rest[p]).l.drop 1).map Ce.con)
    cases hx : (rest[p]).l with
    | nil => rw [hx] at hl; simp at hl; omega
    | cons x t => rfl
  · intro j d u hj
    obtain ⟨hjl, hj0, hk⟩ := con_at hj
    have hjn : 0 < (rest.getD j ces0).n := by rw [← hn _ (memD (d := ces0) hjl)]; exact hj0
    have hjm : (j : Int) ∈ l := (h.mem _).2 ⟨by omega, by omega, hjn⟩
    obtain ⟨k, hkl, ek⟩ := List.getElem_of_mem hjm
    have hr := heapk_root h.hp k hkl
    rw [← hp, show l.getD k 0 = (j : Int) by rw [List.getD, List.getElem?_eq_getElem hkl]; exact ek] at hr
    unfold kapH at hr
    rw [Int.toNat_natCast, Int.toNat_natCast] at hr
    have e1 : ((rest.getD p ces0).l.getD 0 ce0).con.k = hkey (rest.getD p ces0) := rfl
    rw [e1, hk]
    omega
theorem Hs.done {rest : List Ces} {l : List Int} (h : Hs rest l) (h0 : l.length = 0) (hn : ∀ s ∈ rest, s.l.length = s.n) : ∀ r ∈ rest.map Ces.con, r = [] := by
  intro r hr
  obtain ⟨s, hs, rfl⟩ := List.mem_map.1 hr
  obtain ⟨j, hj, rfl⟩ := List.getElem_of_mem hs
  have e : rest.getD j ces0 = rest[j] := by rw [List.getD, List.getElem?_eq_getElem hj]; rfl
  have hno : (j : Int) ∉ l := by rw [List.length_eq_zero_iff.1 h0]; simp
  rw [h.mem] at hno
  have : ¬ 0 < (rest.getD j ces0).n := fun k => hno ⟨by omega, by omega, k⟩
  rw [e, ← hn _ hs] at this
  show (rest[j]).l.map Ce.con = []
  rw [List.length_eq_zero_iff.1 (show (rest[j]).l.length = 0 by omega)]
  rfl
theorem con_set (rest : List Ces) (p : Nat) (t : Ces) : (rest.set p t).map Ces.con = (rest.map Ces.con).set p t.con := List.map_set
end Go.Proofs.Ytnndkepnabddgaa
namespace Go.Proofs.Ytnndkepnabddgaa
set_option maxRecDepth 100000
open Go.RowKit H
open HeapK Dfp Tmg
set_option linter.unusedVariables false
theorem css_ones (l : List Ces) : (l.flatMap Ces.vs).all (·.oneCell') = true := by
  rw [List.all_eq_true]
  intro v hv
  obtain ⟨x, _, hx⟩ := List.mem_flatMap.1 hv
  simp only [Ces.vs, List.mem_cons, List.not_mem_nil, or_false] at hx
  rw [hx]
  rfl
def TmR (ls : List Ces) (w : World) (e : Ending) (w' : World) : Prop :=
  ∃ (t : Ces) (z : Int), e = .returned (.tuple #[t.val, .int .i64 z]) ∧ (riseAll ls = false → z = 1 ∧ t.con = []) ∧ (riseAll ls = true → (t.con, z) = mP eJ vJ (tot (ls.map Ces.con)) (ls.map Ces.con) []) ∧ t.At w'.heap.size w' ∧ t.n ≤ 10000 ∧ Ext w w'
theorem Ce.My.low {x : Ce} {M N : Nat} {w : World} (h : x.My N w) (hM : M ≤ N) : x.My M w := ⟨h.k, h.t, own_lowB h.i hM, fun y hy => (h.hi y hy).low hM, h.li, own_lowB h.r hM, fun y hy => (h.hr y hy).low hM, h.lr⟩
theorem nil_or_snoc {α : Type} (o : List α) : o = [] ∨ ∃ o0 z, o = o0 ++ [z] := by
  rcases List.eq_nil_or_concat o with h | ⟨a, b, h⟩
  · exact .inl h
  · exact .inr ⟨a, b, by rw [h, List.concat_eq_append]⟩
theorem tot_le {ls : List Ces} {m : Nat} (h : ∀ s ∈ ls, s.l.length ≤ m) : tot (ls.map Ces.con) ≤ ls.length * m := by
  induction ls with
  | nil => exact Nat.zero_le _
  | cons s t ih =>
    have h1 := h s List.mem_cons_self
    have h2 := ih fun x hx => h x (List.mem_cons_of_mem _ hx)
    have e : tot ((s :: t).map Ces.con) = s.l.length + tot (t.map Ces.con) := by
      show (((s :: t).map Ces.con).map List.length).sum = _
      rw [List.map_cons, List.map_cons, List.sum_cons]
      show (s.l.map Ce.con).length + _ = _
      rw [List.length_map]
      rfl
    rw [e, List.length_cons, Nat.succ_mul]
    omega
theorem tmerge (A : Option Addr) (n c : Nat) (ls : List Ces) (w : World) (hr : Reads w w.heap.size 1 A n (ls.flatMap Ces.vs)) (hs : ∀ s ∈ ls, s.At w.heap.size w ∧ s.n ≤ s.c ∧ s.n ≤ 1000 ∧ ∀ x ∈ s.l, x.LtQ 20) (hl : ls.length = n) (hn : n ≤ 8) : Calls Try.prog 7 #[.slice A n c] w (TmR ls w) := by
  have hones := css_ones ls
  refine enter Try.func7 rfl (by kernel_rfl) ?_
  refine J.seq ?_
  refine J.region ?_
  refine L.va rfl (X.assign (by conv => lhs; whnf)) ?_
  refine L.va rfl (X.assign (by conv => lhs; whnf)) ?_
  refine L.nil ?_
  refine J.seq ?_
  refine J.region ?_
  refine L.va rfl (X.move (by conv => lhs; whnf)) ?_
  have ho0 : w.ownsRow w.heap.size 25 1 (.slice none 0 0) 0 (([] : List Ces).flatMap Ces.vs) := own_nil _ _ _ _
  refine L.appendV (q := n) (ys := ls.flatMap Ces.vs) rfl rfl rfl Try.underlying22 el_25 (ho0) (hr) (by first | rfl | exact strs_ones _ | assumption) (by omega) (by simp) (by unfold maxLen; omega) (by omega) ?_
  intro B1 B2 w1 hoL hg1 he1 hor1
  have he1 : Ext w w1 := he1
  refine L.va rfl (X.build (l := [_, _]) (Evs.cons (by conv => lhs; whnf) Evs.nil) (bld_run Try.underlying41 (bp_41 Try.underlying41) zr_41 rfl)) ?_
  refine L.boxA (l := [_, _]) rfl rfl ?_
  intro d w2 hd hs2 hkd he2
  have he02 := he1.trans he2
  have z1 := he1.le
  have hoL2 := hoL.ext he2
  have hkd : Blk w2 d 41 #[.slice B1 n B2, .slice none 0 0] := hkd
  refine L.va rfl (X.assign (by conv => lhs; whnf)) ?_
  refine L.nil ?_
  refine J.seq ?_
  refine J.seq ?_
  refine J.region ?_
  refine L.va rfl (X.move (by conv => lhs; whnf)) ?_
  refine L.va rfl (X.len rfl Try.underlying22) ?_
  refine L.va rfl (X.move (by conv => lhs; whnf)) ?_
  refine L.nil ?_
  refine J.block ?_
  refine J.loop (X := Nat × Option Addr × Nat × List Int) [2, 3, 5, 6, 18, 19, 20, 21, 22, 23, 24, 25, 26, 27, 28, 29, 30, 31, 32, 33, 34, 35, 36, 37, 38, 39] (fun (i, oA, oc, l) => [(18, .int .i64 (i : Int))]) (fun (i, oA, oc, l) w' => i ≤ n ∧ l = fullsTo ls i ∧ (∀ j, j < i → rise (ls.getD j ces0).l = true) ∧ Blk w' d 41 #[.slice B1 n B2, .slice oA l.length oc] ∧ w'.ownsRow w.heap.size 3 1 (.slice oA l.length oc) l.length (nums .i64 l) ∧ w'.ownsRow w.heap.size 25 1 (.slice B1 n B2) n (ls.flatMap Ces.vs) ∧ Ext w w' ∧ d < w'.heap.size) (fun (i, _) => n - i) ((0, none, 0, [])) (At1 (by first | rfl | exact at_int rfl (by omega) | exact at_slice rfl (by omega) | exact at_int rfl (by simp))) ?_ ?_
  · exact ⟨Nat.zero_le _, rfl, fun j hj => absurd hj (by omega), hkd, own_nil _ _ _ _, hoL2, he02, by omega⟩
  · rintro ⟨i, oA, oc, l⟩ g w3 ⟨hi, el, hrs, hk3, ho3, hL3, he3, hd3⟩
    have hr3 := hr.ext he3
    have hA := fun h => hr3.some_ h
    refine J.seq ?_
    refine J.region ?_
    refine L.va rfl (X.lss rfl rfl) ?_
    refine L.nil ?_
    refine J.seq ?_
    refine J.dec rfl (fun hlt => ?_) (fun hlt => ?_)
    · have hil : i < ls.length := by omega
      have gs := gtS (l := ls) (i := i) hil
      have ms := hs _ (memD (l := ls) (i := i) (d := ces0) hil)
      obtain ⟨s, es⟩ : ∃ s, s = ls.getD i ces0 := ⟨_, rfl⟩
      rw [← es] at gs ms
      have hA := hr3.some_ (by omega)
      have lx : Ld w3 (pA A i) (.slice s.A s.n s.c) := by have h := Ld.flat2 cs_len hr3 gs (r := 0) rfl; rwa [Nat.mul_one] at h
      refine J.skip ?_
      refine J.seq ?_
      refine J.block ?_
      refine J.seq ?_
      refine J.region ?_
      refine L.va rfl (X.move (by conv => lhs; whnf)) ?_
      refine L.va rfl ((by first | exact X.index1n rfl rfl Try.underlying22 sz_25 (by first | exact Option.some_ne_none _ | exact hA | exact lx) (by omega) | exact X.index1 rfl rfl Try.underlying22 sz_25 (by first | exact Option.some_ne_none _ | exact hA | exact lx) (by omega))) ?_
      refine L.va rfl (X.load rfl sc_25 (by first | exact hA | exact lx)) ?_
      refine L.va rfl (X.assign (by conv => lhs; whnf)) ?_
      refine L.va rfl (X.assign (by conv => lhs; whnf)) ?_
      refine L.nil ?_
      refine J.seq ?_
      refine J.seq ?_
      refine J.region ?_
      refine L.va rfl (X.move (by conv => lhs; whnf)) ?_
      have hsl := (ms.1.ext he3).l
      have c1 := trising s.A s.c s.l (by rw [hsl]; exact (ms.1.ext he3).r) he3.le (by omega)
      rw [hsl] at c1
      refine L.call rfl en_14 rfl (c1) ?_
      rintro e w4 ⟨rfl, he4⟩
      refine ⟨_, rfl, ?_⟩
      have he4 : Ext w3 w4 := he4
      have he04 := he3.trans he4
      refine L.va rfl (X.not rfl) ?_
      refine L.nil ?_
      cases hri : rise s.l
      · refine J.iteT rfl ?_
        refine J.seq ?_
        refine J.region ?_
        refine L.va rfl (X.assign (by conv => lhs; whnf)) ?_
        refine L.va rfl (X.assign (by conv => lhs; whnf)) ?_
        refine L.nil ?_
        refine J.ret ?_
        refine thn_ret <|  inB_ret <|  thn_ret <|  thn_ret <|  inB_ret <|  thn_ret <| ?_
        refine fin2 ?_
        have hno := riseAll_no hil (by rw [← es]; exact hri)
        exact ⟨⟨none, 0, 0, []⟩, 1, rfl, fun _ => ⟨rfl, rfl⟩, fun h => by (rw [hno] at h; cases h), ⟨Reads.of_own (own_nil _ 0 0 4), (fun x hx => by cases hx), rfl, Nat.zero_le _⟩, Nat.zero_le _, he04⟩
      · have hrs' : ∀ j, j < i + 1 → rise (ls.getD j ces0).l = true := fun j hj => by
          rcases Nat.lt_or_ge j i with k | k
          · exact hrs j k
          · rw [show j = i by omega, ← es]; exact hri
        have en := fulls_next ls i
        rw [← es, ← el] at en
        have hk4 := hk3.ext he4
        have ho4 := ho3.ext he4
        have hL4 := hL3.ext he4
        have lln : l.length ≤ i := by rw [el]; exact fulls_len _ _
        refine J.iteF rfl ?_
        refine J.skip ?_
        refine J.seq ?_
        refine J.region ?_
        refine L.va rfl (X.move (by conv => lhs; whnf)) ?_
        refine L.va rfl (X.len rfl Try.underlying25) ?_
        refine L.va rfl (X.gtr rfl rfl) ?_
        refine L.nil ?_
        refine J.dec rfl (fun hpos => ?_) (fun hpos => ?_)
        · rw [if_pos (by omega)] at en
          refine J.region ?_
          refine L.va rfl (X.move (by conv => lhs; whnf)) ?_
          refine L.va rfl (X.move (by conv => lhs; whnf)) ?_
          refine L.va rfl (X.nilCheck rfl) ?_
          refine L.va rfl (X.fieldAddr rfl Try.underlying41 rfl sz_35 (by decide)) ?_
          refine L.va rfl (X.load rfl sc_35 (by first | exact Ld.blk hk4 rfl | exact hA | exact lx)) ?_
          refine L.va rfl (X.move (by conv => lhs; whnf)) ?_
          refine L.bslice (vs := [_]) rfl (Evs.cons (by conv => lhs; whnf) Evs.nil) rfl rfl rfl rfl Try.underlying35 sz_3 zr_3 (by decide) ?_
          intro b5 w5 hb5 hs5 hk5 he5
          have hk45 := hk4.ext he5
          have ho5 := ho4.ext he5
          have hL5 := hL4.ext he5
          have he05 := he04.trans he5
          have z5 := he05.le
          refine L.appendQ (q := l.length + 1) (ys := l ++ [(i : Int)]) rfl rfl rfl Try.underlying35 el_3 (ho5) ((blk_readsN (sz := 1) (q := 1) (l := nums .i64 [(i : Int)]) hk5 hk5.lt rfl)) (by omega) (by simp) (by unfold maxLen; omega) (by omega) ?_
          intro A6 c6 w6 ho6 hg6 hb6 hor6
          have hC6 : TCh 3 w5 w6 := TCh.row ho5 hg6
          have hk46 := hC6.blk hk45 (by decide)
          have hL6 := hC6.own hL5 (by decide)
          have he6 := he05.grw hg6 (fun g hg => (ho5.lt g hg).1)
          refine L.va rfl (X.nilCheck rfl) ?_
          refine L.va rfl (X.fieldAddr rfl Try.underlying41 rfl sz_35 (by decide)) ?_
          refine L.store rfl rfl (by conv => lhs; whnf) rfl sz_35 (hk46) (by first | decide | exact Nat.le_of_ble_eq_true rfl) ?_
          intro w7 hk7 hg7 hs7
          have hC7 : TCh 41 w6 w7 := TCh.put hk46 hg7
          have he7 := he6.grw hg7 (by intro g hg; injection hg with hg; omega)
          have ll : (l ++ [(i : Int)]).length = l.length + 1 := by rw [List.length_append]; rfl
          refine L.nil ?_
          refine J.region ?_
          refine L.va rfl (X.add rfl rfl (by omega)) ?_
          refine L.va rfl (X.move (by conv => lhs; whnf)) ?_
          refine L.nil ?_
          refine ⟨(i + 1, A6, c6, l ++ [(i : Int)]), At1 (by first | rfl | exact at_int rfl (by omega) | exact at_slice rfl (by omega) | exact at_int rfl (by simp)), (by (iterate 24 refine Agr.lk rfl ?_); exact Agr.lk rfl (Agr.hav rfl Agr.rfl')), ?_⟩
          exact ⟨⟨by omega, en.symm, hrs', by rw [ll]; exact hk7, by rw [ll]; exact hC7.own ho6 (by decide), hC7.own hL6 (by decide), he7, by have := he4.le; have := he5.le; have := hg6.size; omega⟩, by show n - (i + 1) < n - i; omega⟩
        · rw [if_neg (by omega), List.append_nil] at en
          refine J.skip ?_
          refine J.region ?_
          refine L.va rfl (X.add rfl rfl (by omega)) ?_
          refine L.va rfl (X.move (by conv => lhs; whnf)) ?_
          refine L.nil ?_
          refine ⟨(i + 1, oA, oc, l), At1 (by first | rfl | exact at_int rfl (by omega) | exact at_slice rfl (by omega) | exact at_int rfl (by simp)), (by (iterate 14 refine Agr.lk rfl ?_); exact Agr.lk rfl (Agr.hav rfl Agr.rfl')), ?_⟩
          exact ⟨⟨by omega, en.symm, hrs', hk4, ho4, hL4, he04, by have := he4.le; omega⟩, by show n - (i + 1) < n - i; omega⟩
    · obtain rfl : i = n := by omega
      have hyes := riseAll_yes (ls := ls) fun j hj => hrs j (by omega)
      have lln : l.length ≤ i := by rw [el]; exact fulls_len _ _
      have hQ : Hq ls w.heap.size d (B1, B2) (oA, oc) w3 l := ⟨by rw [hl]; exact hk3, ho3, by rw [hl]; exact hL3, fun s hs' => (hs s hs').1.ext he3, by omega, fun x hx => by
        rw [el] at hx
        have := fulls_mem.1 hx
        omega, by omega, by omega⟩
      have c1 := (Hq.kit ls w.heap.size d (B1, B2) (oA, oc)).init_ hQ (fun q hq => by
        have := mem_at hq
        rw [el] at this
        exact (fulls_mem.1 (by rw [← el] at this ⊢; exact this)).2.2)
      have hH := Hs.init ls
      rw [hl, ← el] at hH
      refine J.exit ?_
      refine J.seq ?_
      refine J.region ?_
      refine L.va rfl (X.move (by conv => lhs; whnf)) ?_
      refine L.va rfl (X.mkI rfl Try.underlying39 rfl) ?_
      refine L.call rfl en_15 rfl (c1) ?_
      rintro e w4 ⟨rfl, hQ4, hC4⟩
      refine ⟨_, rfl, ?_⟩
      generalize initHk (kapH ls) l (l.length / 2) = l4 at *
      have he4 : Ext w w4 := ((Chg.of_ext he3).trans hC4 fun _ _ hh => hh).below (Nat.le_refl _) hQ.tch_ge
      obtain ⟨F, hF⟩ : ∃ F, F = tot (ls.map Ces.con) := ⟨_, rfl⟩
      have hF8 : F ≤ ls.length * 1000 := by rw [hF]; exact tot_le fun s hs' => by have h1 := (hs s hs').1.l; have h2 := (hs s hs').2.2.1; omega
      refine L.nil ?_
      refine J.seq ?_
      refine J.region ?_
      refine L.va rfl (X.assign (by conv => lhs; whnf)) ?_
      refine L.nil ?_
      refine J.seq ?_
      refine J.block ?_
      refine J.loop (X := Nat × List Ces × List Int × Option Addr × Nat × List Ce) [2, 3, 7, 8, 9, 10, 11, 43, 44, 45, 46, 47, 48, 49, 50, 51, 52, 53, 54, 55, 56, 57, 58, 59, 60, 61, 62, 63, 64, 65, 66, 67, 68, 69, 70, 71, 72, 73, 74, 75, 76, 77, 78, 79, 80, 81, 82, 83] (fun (f, rest, l, tA, tc, o) => [(7, .slice tA o.length tc)]) (fun (f, rest, l, tA, tc, o) w' => rest.length = ls.length ∧ Hq rest w.heap.size d (B1, B2) (oA, oc) w' l ∧ Hs rest l ∧ (∀ s ∈ rest, s.n ≤ s.c ∧ ∀ x ∈ s.l, x.LtQ 20) ∧ tot (rest.map Ces.con) = f ∧ f ≤ F ∧ mP eJ vJ f (rest.map Ces.con) (o.map Ce.con) = mP eJ vJ F (ls.map Ces.con) [] ∧ o.length + f ≤ F ∧ (∀ y ∈ o, y.OwnQ (20 + (F - f)) w.heap.size w') ∧ w'.ownsRow w.heap.size 48 4 (.slice tA o.length tc) o.length (o.flatMap Ce.vs) ∧ Ext w w') (fun (f, _) => f) ((F, ls, l4, none, 0, [])) (At1 (by first | rfl | exact at_int rfl (by omega) | exact at_slice rfl (by omega) | exact at_int rfl (by simp))) ?_ ?_
      · exact ⟨rfl, hQ4, hH, fun s hs' => ⟨(hs s hs').2.1, (hs s hs').2.2.2⟩, hF.symm, Nat.le_refl _, rfl, by show 0 + F ≤ F; omega, (fun y hy => by cases hy), own_nil _ _ _ _, he4⟩
      · rintro ⟨f, rest, l, tA, tc, o⟩ g w5 ⟨hrl, hQ5, H5, hcp5, hf5, hfF, hm5, hol, hO5, ho5, he5⟩
        have z5 := he5.le
        have hlen5 : ∀ s ∈ rest, s.l.length = s.n := fun s hs' => (hQ5.hs s hs').l
        refine J.seq ?_
        refine J.seq ?_
        refine J.region ?_
        refine L.va rfl (X.move (by conv => lhs; whnf)) ?_
        refine L.call rfl en_16 rfl (hQ5.len_) ?_
        rintro e _ ⟨rfl, rfl⟩
        refine ⟨_, rfl, ?_⟩
        refine L.va rfl (X.gtr rfl rfl) ?_
        refine L.nil ?_
        refine J.dec rfl (fun hpos => ?_) (fun hpos => ?_)
        · have hpos : 0 < l.length := by omega
          have pm := (H5.mem _).1 (mem_at (i := 0) hpos)
          obtain ⟨p, hp⟩ := Int.eq_ofNat_of_zero_le pm.1
          have hbest := H5.best hpos hlen5 (by omega) hp.symm
          have c6 := hQ5.next_ H5 hpos (fun s hs' => (hcp5 s hs').1) hp.symm
          obtain ⟨s, hs5⟩ : ∃ s, s = rest.getD p ces0 := ⟨_, rfl⟩
          rw [← hs5] at c6 hbest
          obtain ⟨x, hx5⟩ : ∃ x, x = s.l.getD 0 ce0 := ⟨_, rfl⟩
          rw [← hx5] at c6 hbest
          refine J.skip ?_
          refine J.block ?_
          refine J.seq ?_
          refine J.region ?_
          refine L.va rfl (X.move (by conv => lhs; whnf)) ?_
          refine L.call rfl en_17 rfl (c6) ?_
          rintro e w6 ⟨rfl, ⟨l6, hQ6, H6⟩, hC6⟩
          refine ⟨_, rfl, ?_⟩
          refine L.alloc rfl zr_48 ?_
          intro b7 w7 hb7 hs7 hk7 he7
          refine L.storeAgg (vs := [_, _, _, _]) rfl rfl rfl rfl sz_48 (hk7) rfl ?_
          intro w8 hk8 hg8 hs8
          have hk8 : Blk w8 b7 48 x.vs.toArray := hk8
          have he68 : Ext w6 w8 := he7.grw hg8 (by intro g hg; injection hg with hg; omega)
          have he6 : Ext w w6 := ((Chg.of_ext he5).trans hC6 fun _ _ hh => hh).below (Nat.le_refl _) hQ5.nch_ge
          have he8 := he6.trans he68
          have hQ8 := hQ6.ext he68
          have ho8 := (hQ5.nch_own hC6 ho5 (by decide)).ext he68
          have hO8 : ∀ y ∈ o, y.OwnQ (20 + (F - f)) w.heap.size w8 := fun y hy => (hQ5.nch_cell hC6 (hO5 y hy)).ext he68
          have hpl : p < rest.length := by omega
          have hsm := memD (l := rest) (i := p) (d := ces0) hpl
          rw [← hs5] at hsm
          have hsA := hQ5.hs s hsm
          have hsn : 0 < s.n := by have := pm.2.2; unfold Full at this; rw [hp, Int.toNat_natCast, ← hs5] at this; exact this
          have hxm : x ∈ s.l := by rw [hx5]; exact memD (by rw [hsA.l]; exact hsn)
          have hxL := (hcp5 s hsm).2 x hxm
          have hxA : x.At w.heap.size w8 := ((hsA.h x hxm).low (hQ5.nch_low hC6) (Nat.le_refl _)).ext he68
          have hcp6 : ∀ u ∈ rest.set p (tailC s), u.n ≤ u.c ∧ ∀ y ∈ u.l, y.LtQ 20 := fun u hu => by
            rcases List.mem_or_eq_of_mem_set hu with hu | rfl
            · exact hcp5 u hu
            · have := (hcp5 s hsm).1
              exact ⟨by show s.n - 1 ≤ s.c - 1; omega, fun y hy => (hcp5 s hsm).2 y (List.mem_of_mem_drop hy)⟩
          have hts := tot_set hbest.at_
          obtain ⟨f', rfl⟩ : ∃ f', f = f' + 1 := ⟨f - 1, by omega⟩
          have hf6 : tot ((rest.set p (tailC s)).map Ces.con) = f' := by rw [con_set]; omega
          refine L.nil ?_
          refine J.seq ?_
          refine J.region ?_
          refine L.va rfl (X.move (by conv => lhs; whnf)) ?_
          refine L.va rfl (X.len rfl Try.underlying25) ?_
          refine L.va rfl (X.sub rfl rfl (by omega)) ?_
          refine L.va rfl (X.assign (by conv => lhs; whnf)) ?_
          refine L.nil ?_
          refine J.seq ?_
          refine J.seq ?_
          rcases nil_or_snoc o with rfl | ⟨o0, z, rfl⟩
          · refine J.quiet mixed (by kernel_rfl) ?_
            refine Qt.va rfl (fun w' hw => X.move (by conv => lhs; whnf)) ?_
            refine Qt.va rfl (fun w' hw => X.lss rfl rfl) ?_
            refine Qt.va rfl (fun w' hw => X.move (by conv => lhs; whnf)) ?_
            refine Qt.caseDecT (k := 53) rfl (by decide) ?_
            refine Qt.no rfl ?_
            refine Qt.no rfl ?_
            refine Qt.no rfl ?_
            refine Qt.no rfl ?_
            refine Qt.no rfl ?_
            refine Qt.no rfl ?_
            refine Qt.no rfl ?_
            refine Qt.no rfl ?_
            refine Qt.va rfl (fun w' hw => X.pickT rfl (by conv => lhs; whnf)) ?_
            refine Qt.nil (fun w9 hq => ?_)
            have he9 := he8.trans hq
            have hk9 := hk8.ext hq
            have ho9 := ho8.ext hq
            have hQ9 := hQ8.ext hq
            have hO9 : ∀ y ∈ ([] : List Ce), y.OwnQ (20 + (F - (f' + 1))) w.heap.size w9 := fun y hy => (hO8 y hy).ext hq
            refine J.iteT rfl ?_
            refine J.seq ?_
            refine J.region ?_
            refine L.va rfl (X.move (by conv => lhs; whnf)) ?_
            refine L.va rfl (X.loadAgg rfl (range_l hk9) Try.underlying48 rfl (by kernel_rfl)) ?_
            refine L.call rfl en_18 rfl (town x (q := 20) (by decide) w9 he9.le (hxA.ext hq) hxL) ?_
            rintro e w10 ⟨y, rfl, hyc, hy10, he10⟩
            refine ⟨_, rfl, ?_⟩
            have he010 := he9.trans he10
            have ho10 := ho9.ext he10
            refine L.bslice1 (l := [_, _, _, _]) rfl rfl rfl Try.underlying25 sz_48 zr_48 rfl ?_
            intro b11 w11 hb11 hs11 hk11 he11
            have ho11 := ho10.ext he11
            have he011 := he010.trans he11
            have z11 := he011.le
            refine L.appendV (q := ([] : List Ce).length + 1) (ys := ((([] : List Ce) ++ [y]).flatMap Ce.vs)) rfl rfl rfl Try.underlying25 el_48 (ho11) ((blk_readsN (sz := 4) (q := 1) (l := y.vs) hk11 hk11.lt rfl)) (by first | rfl | exact strs_ones _ | assumption) (by omega) (by simp) (by unfold maxLen; omega) (by omega) ?_
            intro A12 c12 w12 ho12 hg12 hb12 hor12
            have hC12 : TCh 48 w11 w12 := TCh.row ho11 hg12
            have hB12 : Below w.heap.size w11 w12 := hb12
            have he12 := he011.grw hg12 (fun g hg => (ho11.lt g hg).1)
            have ll : (([] : List Ce) ++ [y]).length = ([] : List Ce).length + 1 := by rw [List.length_append]; rfl
            refine L.va rfl (X.assign (by conv => lhs; whnf)) ?_
            refine L.nil ?_
            refine J.exit ?_
            refine ⟨(f', rest.set p (tailC s), l6, A12, c12, ([] : List Ce) ++ [y]), At1 (at_slice rfl ll.symm), (by (iterate 29 refine Agr.lk rfl ?_); exact Agr.lk rfl (Agr.hav rfl Agr.rfl')), ?_⟩
            have hm6 := mP_push (E := eJ) (V := vJ) (f := f') (out := ([] : List Ce).map Ce.con) hbest (fun l hl => by cases hl)
            refine ⟨⟨by rw [List.length_set]; exact hrl, ((hQ9.ext he10).ext he11).put hB12 hC12, H6, hcp6, hf6, by omega, ?_, by rw [ll]; omega, fun u hu => ?_, by rw [ll]; exact ho12, he12⟩, by show f' < f' + 1; omega⟩
            · rw [con_set, List.map_append, ← hm5, hm6, ← hyc]
              rfl
            · have hu9 : u.OwnQ (20 + (F - f')) w.heap.size w11 := by
                rcases List.mem_append.1 hu with hu | hu
                · exact (((hO9 u hu).ext he10).ext he11).wide (by omega)
                · rw [List.mem_singleton] at hu
                  rw [hu]
                  exact (hy10.ext he11).wide (by omega)
              exact hu9.put hB12 hC12 (by decide)
          · have ol : (o0 ++ [z]).length = o0.length + 1 := by rw [List.length_append]; rfl
            have gz : (o0 ++ [z])[o0.length]? = some z := by rw [List.getElem?_append_right (Nat.le_refl _), Nat.sub_self]; rfl
            have hzm : z ∈ o0 ++ [z] := List.mem_append_right _ (List.mem_singleton.2 rfl)
            have hAo := own_ne ho8 (by omega)
            refine J.quiet mixed (by kernel_rfl) ?_
            refine Qt.va rfl (fun w' hw => X.move (by conv => lhs; whnf)) ?_
            refine Qt.va rfl (fun w' hw => X.lss rfl rfl) ?_
            refine Qt.va rfl (fun w' hw => X.move (by conv => lhs; whnf)) ?_
            refine Qt.caseDecF (k := 53) rfl (by omega) ?_
            refine Qt.va rfl (fun w' hw => X.move (by conv => lhs; whnf)) ?_
            refine Qt.va rfl (fun w' hw => X.move (by conv => lhs; whnf)) ?_
            refine Qt.va rfl (fun w' hw => X.indexAddrn (j := o0.length) rfl (show Value.int .i64 (((o0 ++ [z]).length : Int) - 1) = _ by rw [show (((o0 ++ [z]).length : Int) - 1) = (o0.length : Int) by omega]) Try.underlying25 sz_48 hAo (by omega)) ?_
            refine Qt.va rfl (fun w' hw => X.fieldP rfl Try.underlying48 rfl sz_44 (by decide) hAo) ?_
            refine Qt.va rfl (fun w' hw => X.load rfl sc_44 (Ld.flat2 ce_len (Reads.of_own (ho8.ext hw)) gz (r := 0) rfl)) ?_
            refine Qt.va rfl (fun w' hw => X.fieldAddr rfl Try.underlying48 rfl sz_44 (by decide)) ?_
            refine Qt.va rfl (fun w' hw => X.load rfl sc_44 (Ld.blk (hk8.ext hw) rfl)) ?_
            refine Qt.va rfl (fun w' hw => X.neq rfl rfl) ?_
            refine Qt.va rfl (fun w' hw => X.pickF rfl (by conv => lhs; whnf)) ?_
            refine Qt.nil (fun w9 hq => ?_)
            have he9 := he8.trans hq
            have hk9 := hk8.ext hq
            have ho9 := ho8.ext hq
            have hQ9 := hQ8.ext hq
            have hO9 : ∀ y ∈ o0 ++ [z], y.OwnQ (20 + (F - (f' + 1))) w.heap.size w9 := fun y hy => (hO8 y hy).ext hq
            refine J.ndec rfl (fun hne => ?_) (fun hne => ?_)
            · have hkk : z.con.k ≠ x.con.k := by show z.k ≠ x.k; intro h; apply hne; omega
              refine J.seq ?_
              refine J.region ?_
              refine L.va rfl (X.move (by conv => lhs; whnf)) ?_
              refine L.va rfl (X.loadAgg rfl (range_l hk9) Try.underlying48 rfl (by kernel_rfl)) ?_
              refine L.call rfl en_18 rfl (town x (q := 20) (by decide) w9 he9.le (hxA.ext hq) hxL) ?_
              rintro e w10 ⟨y, rfl, hyc, hy10, he10⟩
              refine ⟨_, rfl, ?_⟩
              have he010 := he9.trans he10
              have ho10 := ho9.ext he10
              refine L.bslice1 (l := [_, _, _, _]) rfl rfl rfl Try.underlying25 sz_48 zr_48 rfl ?_
              intro b11 w11 hb11 hs11 hk11 he11
              have ho11 := ho10.ext he11
              have he011 := he010.trans he11
              have z11 := he011.le
              refine L.appendV (q := (o0 ++ [z]).length + 1) (ys := (((o0 ++ [z]) ++ [y]).flatMap Ce.vs)) rfl rfl rfl Try.underlying25 el_48 (ho11) ((blk_readsN (sz := 4) (q := 1) (l := y.vs) hk11 hk11.lt rfl)) (by first | rfl | exact strs_ones _ | assumption) (by omega) (by simp) (by unfold maxLen; omega) (by omega) ?_
              intro A12 c12 w12 ho12 hg12 hb12 hor12
              have hC12 : TCh 48 w11 w12 := TCh.row ho11 hg12
              have hB12 : Below w.heap.size w11 w12 := hb12
              have he12 := he011.grw hg12 (fun g hg => (ho11.lt g hg).1)
              have ll : ((o0 ++ [z]) ++ [y]).length = (o0 ++ [z]).length + 1 := by rw [List.length_append]; rfl
              refine L.va rfl (X.assign (by conv => lhs; whnf)) ?_
              refine L.nil ?_
              refine J.exit ?_
              refine ⟨(f', rest.set p (tailC s), l6, A12, c12, (o0 ++ [z]) ++ [y]), At1 (at_slice rfl ll.symm), (by (iterate 29 refine Agr.lk rfl ?_); exact Agr.lk rfl (Agr.hav rfl Agr.rfl')), ?_⟩
              have hm6 := mP_push (E := eJ) (V := vJ) (f := f') (out := (o0 ++ [z]).map Ce.con) hbest (fun u hu => by
                rw [List.map_append, List.map_cons, List.map_nil, List.getLast?_concat] at hu
                injection hu with hu
                rw [← hu]
                exact hkk)
              refine ⟨⟨by rw [List.length_set]; exact hrl, ((hQ9.ext he10).ext he11).put hB12 hC12, H6, hcp6, hf6, by omega, ?_, by rw [ll]; omega, fun u hu => ?_, by rw [ll]; exact ho12, he12⟩, by show f' < f' + 1; omega⟩
              · rw [con_set, List.map_append, ← hm5, hm6, ← hyc]
                rfl
              · have hu9 : u.OwnQ (20 + (F - f')) w.heap.size w11 := by
                  rcases List.mem_append.1 hu with hu | hu
                  · exact (((hO9 u hu).ext he10).ext he11).wide (by omega)
                  · rw [List.mem_singleton] at hu
                    rw [hu]
                    exact (hy10.ext he11).wide (by omega)
                exact hu9.put hB12 hC12 (by decide)
            · have hkk : z.con.k = x.con.k := by show z.k = x.k; omega
              have z9 := he9.le
              have hzO := hO9 z hzm
              have hxA9 := hxA.ext hq
              refine J.skip ?_
              refine J.cut (X := Ce × Nat) [10, 11, 68, 69, 70, 71, 72, 73, 74, 75, 76] (fun (y, b10) => [(10, .pointer (some ⟨b10, 0, none⟩)), (11, .int .i64 (eJ z.con x.con))]) (fun (y, b10) w' => Blk w' b10 48 y.vs.toArray ∧ y.con = vJ z.con x.con ∧ y.OwnQ (20 + (F - f')) w.heap.size w' ∧ w9.heap.size ≤ b10 ∧ Ext w9 w') ?_ ?_
              ·
                refine J.draw (ℓ := 1000000) (S := Ext w9) mixed (fun w10 hS hS_h => ?_)
                refine D.va 0 rfl (by kernel_rfl) (fun _ _ _ h => h) rfl (fun w' hw => X.move (by conv => lhs; whnf)) hS ?_
                refine D.va 1 rfl (by kernel_rfl) (fun _ _ _ h => h) rfl (fun w' hw => X.move (by conv => lhs; whnf)) hS ?_
                refine D.va 2 rfl (by kernel_rfl) (fun _ _ _ h => h) rfl (fun w' hw => X.indexAddrn (j := o0.length) rfl (show Value.int .i64 (((o0 ++ [z]).length : Int) - 1) = _ by rw [show (((o0 ++ [z]).length : Int) - 1) = (o0.length : Int) by omega]) Try.underlying25 sz_48 hAo (by omega)) hS ?_
                refine D.va 3 rfl (by kernel_rfl) (fun _ _ _ h => h) rfl (fun w' hw => X.loadRow (cs := z.vs) rfl (Reads.of_own (ho9.ext hw)) (fun r u hu => flat_row ce_len gz r u hu) (Nat.zero_lt_succ _) Try.underlying48 rfl (by kernel_rfl)) hS ?_
                refine D.va 4 rfl (by kernel_rfl) (fun _ _ _ h => h) rfl (fun w' hw => X.loadAgg rfl (range_l (hk9.ext hw)) Try.underlying48 rfl (by kernel_rfl)) hS ?_
                refine D.two 5 9 (by kernel_rfl) rfl rfl ?_ ?_
                · have zS := hS.le
                  have c10 := ajoin (w := w10) (N := w10.heap.size) (q := 20 + (F - (f' + 1))) (Nat.le_refl _) ((hzO.ext hS).at (by omega)) ((hxA9.ext hS).more (by omega)) hzO.L (hxL.more (by omega)) (by omega)
                  refine L.call rfl en_19 rfl (c10) ?_
                  rintro e w11 ⟨y, rfl, hyc, hy, hyL, he11⟩
                  refine ⟨_, rfl, ?_⟩
                  have hS1 := hS.trans he11
                  refine L.nil ?_
                  refine ⟨fun _ => hS1, ?_⟩
                  have z11 := hS1.le
                  refine D.va 6 rfl (by kernel_rfl) (fun _ _ _ h => h) rfl (fun w' hw => X.move (by conv => lhs; whnf)) hS1 ?_
                  refine D.va 7 rfl (by kernel_rfl) (fun _ _ _ h => h) rfl (fun w' hw => X.extract rfl rfl) hS1 ?_
                  refine D.va 8 rfl (by kernel_rfl) (fun _ _ _ h => h) rfl (fun w' hw => X.extract rfl rfl) hS1 ?_
                  refine D.one 9 (by kernel_rfl) rfl ?_
                  refine L.alloc rfl zr_48 ?_
                  intro b12 w12 hb12 hs12 hk12 he12
                  have hS2 := hS1.trans he12
                  refine L.nil ?_
                  refine ⟨fun _ => hS2, ?_⟩
                  refine D.one 10 (by kernel_rfl) rfl ?_
                  refine L.storeAgg (vs := [_, _, _, _]) rfl rfl rfl rfl sz_48 (hk12) rfl ?_
                  intro w13 hk13 hg13 hs13
                  have hS3 := hS2.grw hg13 (by intro g hg; injection hg with hg; omega)
                  refine L.nil ?_
                  refine ⟨fun _ => hS3, ?_⟩
                  refine D.va 11 rfl (by kernel_rfl) (fun _ _ _ h => h) rfl (fun w' hw => X.assign (by conv => lhs; whnf)) hS3 ?_
                  refine D.done (by kernel_rfl) ?_
                  refine ⟨(y, b12), At2 (by first | rfl | exact at_int rfl (by omega) | exact at_slice rfl (by omega) | exact at_int rfl (by simp)) (by first | rfl | exact at_int rfl (by omega) | exact at_slice rfl (by omega) | exact at_int rfl (by simp)), (by (iterate 11 refine Agr.lk rfl ?_); exact Agr.rfl'), ?_⟩
                  exact ⟨hk13, hyc, ((hy.low (by omega)).ownQ (hyL.more (by omega))).ext (he12.grw hg13 (by intro g hg; injection hg with hg; omega)), by omega, hS3⟩
                · refine L.alloc rfl zr_48 ?_
                  intro b12 w12 hb12 hs12 hk12 he12
                  have hS1 := hS.trans he12
                  refine L.nil ?_
                  refine ⟨fun _ => hS1, ?_⟩
                  have zS := hS.le
                  have z12 := hS1.le
                  have c10 := ajoin (w := w12) (N := w12.heap.size) (q := 20 + (F - (f' + 1))) (Nat.le_refl _) ((hzO.ext hS1).at (by omega)) ((hxA9.ext hS1).more (by omega)) hzO.L (hxL.more (by omega)) (by omega)
                  refine D.one 5 (by kernel_rfl) rfl ?_
                  refine L.call rfl en_19 rfl (c10) ?_
                  rintro e w11 ⟨y, rfl, hyc, hy, hyL, he11⟩
                  refine ⟨_, rfl, ?_⟩
                  have hS2 := hS1.trans he11
                  refine L.nil ?_
                  refine ⟨fun _ => hS2, ?_⟩
                  have hk12 := hk12.ext he11
                  have z11 := hS2.le
                  refine D.va 6 rfl (by kernel_rfl) (fun _ _ _ h => h) rfl (fun w' hw => X.move (by conv => lhs; whnf)) hS2 ?_
                  refine D.va 7 rfl (by kernel_rfl) (fun _ _ _ h => h) rfl (fun w' hw => X.extract rfl rfl) hS2 ?_
                  refine D.va 8 rfl (by kernel_rfl) (fun _ _ _ h => h) rfl (fun w' hw => X.extract rfl rfl) hS2 ?_
                  refine D.one 10 (by kernel_rfl) rfl ?_
                  refine L.storeAgg (vs := [_, _, _, _]) rfl rfl rfl rfl sz_48 (hk12) rfl ?_
                  intro w13 hk13 hg13 hs13
                  have hS3 := hS2.grw hg13 (by intro g hg; injection hg with hg; omega)
                  refine L.nil ?_
                  refine ⟨fun _ => hS3, ?_⟩
                  have hB13 : Below w.heap.size w11 w13 := Chg.below (.of_grown hg13 (S := fun g => g = b12) (fun g hg => by injection hg with hg; exact hg.symm)) (by omega) (fun g hg => by omega)
                  refine D.va 11 rfl (by kernel_rfl) (fun _ _ _ h => h) rfl (fun w' hw => X.assign (by conv => lhs; whnf)) hS3 ?_
                  refine D.done (by kernel_rfl) ?_
                  refine ⟨(y, b12), At2 (by first | rfl | exact at_int rfl (by omega) | exact at_slice rfl (by omega) | exact at_int rfl (by simp)) (by first | rfl | exact at_int rfl (by omega) | exact at_slice rfl (by omega) | exact at_int rfl (by simp)), (by (iterate 11 refine Agr.lk rfl ?_); exact Agr.rfl'), ?_⟩
                  exact ⟨hk13, hyc, ((hy.low (by omega)).ownQ (hyL.more (by omega))).put hB13 (TCh.put hk12 hg13) (by decide), by omega, hS3⟩
              · rintro ⟨y, b10⟩ g w10 ⟨hk10, hyc, hy, hb10, he10⟩
                have he010 := he9.trans he10
                refine J.seq ?_
                refine J.seq ?_
                refine J.region ?_
                refine L.va rfl (X.move (by conv => lhs; whnf)) ?_
                refine L.va rfl (X.neq rfl rfl) ?_
                refine L.nil ?_
                refine J.ndec rfl (fun herr => ?_) (fun herr => ?_)
                · have hm6 := mP_err (E := eJ) (V := vJ) (f := f') (out := o0.map Ce.con) (x := z.con) hbest hkk herr
                  refine J.seq ?_
                  refine J.region ?_
                  refine L.va rfl (X.move (by conv => lhs; whnf)) ?_
                  refine L.va rfl (X.assign (by conv => lhs; whnf)) ?_
                  refine L.va rfl (X.assign (by conv => lhs; whnf)) ?_
                  refine L.nil ?_
                  refine J.ret ?_
                  refine thn_ret <|  inB_ret <|  thn_ret <|  inB_ret <|  thn_ret <| ?_
                  refine fin2 ?_
                  refine ⟨⟨none, 0, 0, []⟩, eJ z.con x.con, rfl, fun h => by (rw [hyes] at h; cases h), fun _ => ?_, ⟨Reads.of_own (own_nil _ 0 0 4), (fun x hx => by cases hx), rfl, Nat.zero_le _⟩, Nat.zero_le _, he010⟩
                  rw [List.map_append] at hm5
                  rw [← hF, ← hm5]
                  exact hm6.symm
                · have herr : eJ z.con x.con = 0 := by omega
                  have hm6 := mP_join (E := eJ) (V := vJ) (f := f') (out := o0.map Ce.con) (x := z.con) hbest hkk herr
                  refine J.skip ?_
                  refine J.region ?_
                  refine L.va rfl (X.move (by conv => lhs; whnf)) ?_
                  refine L.va rfl (X.move (by conv => lhs; whnf)) ?_
                  refine L.va rfl (X.loadAgg rfl (range_l hk10) Try.underlying48 rfl (by kernel_rfl)) ?_
                  refine L.va rfl (X.indexAddrn (j := o0.length) rfl (show Value.int .i64 (((o0 ++ [z]).length : Int) - 1) = _ by rw [show (((o0 ++ [z]).length : Int) - 1) = (o0.length : Int) by omega]) Try.underlying25 sz_48 hAo (by omega)) ?_
                  refine L.storeOC (f := Ce.vs) (z := y) (i := o0.length) ce_len rfl rfl rfl rfl sz_48 (ho9.ext he10) (by omega) rfl ?_
                  intro w11 ho11 hg11 hs11
                  have ho10 := ho9.ext he10
                  have hC11 : TCh 48 w10 w11 := TCh.row ho10 hg11
                  have he11 := he010.grw hg11 (fun g hg => (ho10.lt g hg).1)
                  have z10 := he010.le
                  have hB11 : Below w.heap.size w10 w11 := Chg.below (.of_grown hg11 (S := fun g => w.heap.size ≤ g) (fun g hg => (ho10.lt g hg).1)) (by omega) (fun g hg => hg)
                  have eo : (o0 ++ [z]).set o0.length y = o0 ++ [y] := by
                    rw [List.set_append_right _ _ (Nat.le_refl _), Nat.sub_self]
                    rfl
                  rw [eo] at ho11
                  have ll : (o0 ++ [y]).length = (o0 ++ [z]).length := by rw [List.length_append, List.length_append]; rfl
                  refine L.nil ?_
                  refine ⟨(f', rest.set p (tailC s), l6, tA, tc, o0 ++ [y]), At1 (at_slice rfl ll.symm), (by (iterate 6 refine Agr.lk rfl ?_); refine Agr.lk rfl ?_; refine Agr.hav rfl ?_; (iterate 23 refine Agr.lk rfl ?_); exact Agr.lk rfl (Agr.hav rfl Agr.rfl')), ?_⟩
                  refine ⟨⟨by rw [List.length_set]; exact hrl, (hQ9.ext he10).put hB11 hC11, H6, hcp6, hf6, by omega, ?_, by rw [ll]; omega, fun u hu => ?_, by rw [ll]; exact ho11, he11⟩, by show f' < f' + 1; omega⟩
                  · rw [List.map_append] at hm5
                    rw [con_set, List.map_append, ← hm5]
                    show mP eJ vJ f' _ (o0.map Ce.con ++ [y.con]) = _
                    rw [hyc]
                    exact hm6.symm
                  · have hu10 : u.OwnQ (20 + (F - f')) w.heap.size w10 := by
                      rcases List.mem_append.1 hu with hu | hu
                      · exact ((hO9 u (List.mem_append_left _ hu)).ext he10).wide (by omega)
                      · rw [List.mem_singleton] at hu
                        rw [hu]
                        exact hy
                    exact hu10.put hB11 hC11 (by decide)
        · have hz : l.length = 0 := by omega
          have hend := mP_end (E := eJ) (V := vJ) (f := f) (out := o.map Ce.con) (H5.done hz hlen5)
          refine J.exit ?_
          refine J.seq ?_
          refine J.region ?_
          refine L.va rfl (X.move (by conv => lhs; whnf)) ?_
          refine L.va rfl (X.assign (by conv => lhs; whnf)) ?_
          refine L.va rfl (X.assign (by conv => lhs; whnf)) ?_
          refine L.nil ?_
          refine J.ret ?_
          refine fin2 ?_
          refine ⟨⟨tA, o.length, tc, o⟩, 0, rfl, fun h => by (rw [hyes] at h; cases h), fun _ => ?_, ⟨Reads.of_own ho5, fun y hy => (hO5 y hy).at he5.le, rfl, by show o.length ≤ _; unfold maxLen; omega⟩, by show o.length ≤ _; omega, he5⟩
          rw [← hF, ← hm5, hend]
end Go.Proofs.Ytnndkepnabddgaa
namespace Go.Proofs.Ytnndkepnabddgaa
set_option maxRecDepth 100000
open Go.RowKit H
set_option linter.unusedVariables false
theorem zsOf_u32b (xs : List (Nm .u32)) : InB 4294967296 (zsOf xs) := by
  intro z hz
  unfold zsOf at hz
  obtain ⟨a, _, rfl⟩ := List.mem_map.1 hz
  exact a.u32
theorem zsOf_u8b (xs : List (Nm .u8)) : InB 256 (zsOf xs) := zsOf_u8 xs
theorem flB (x : Fl) : x.b < 18446744073709551616 := of_decide_eq_true x.ok
abbrev WhT := (Nm .i64) × (Nm .i64) × (List (Nm .u32)) × (Nm .i64) × (Nm .i64)
abbrev ReT := (List (Nm .u8)) × (Fl) × (Fl)
abbrev CeT := (Nm .u64) × (Nm .i64) × (List WhT) × (List ReT)
theorem whs_of {w : World} {B n : Nat} {A : Option Addr} {xs : List WhT} (h : LiesSlice w B A n xs) : ∃ l : List Wh, l.length = n ∧ Reads w B 5 A n (l.flatMap Wh.vs) ∧ ∀ x ∈ l, x.At B w := by
  obtain ⟨l, h1, h2, h3⟩ := h.rows (X := Wh) (f := Wh.vs) (g := fun v => v.At B w) (fun _ => rfl) (fun us a hl => by
    obtain ⟨u1, u2, rfl, k1, ⟨v1, v2, rfl, k2, ⟨x1, x2, rfl, ⟨A, n, c, rfl, hn, hc, _, hl⟩, ⟨y1, y2, rfl, k3, k4⟩⟩⟩⟩ := hl
    refine ⟨⟨a.1.z, a.2.1.z, A, n, c, zsOf a.2.2.1, a.2.2.2.1.z, a.2.2.2.2.z⟩, ?_, hl.reads, Nat.le_trans hn hc, ⟨a.1.i64, a.2.1.i64, zsOf_u32b _, a.2.2.2.1.i64, a.2.2.2.2.i64⟩, hn⟩
    rw [show u1 = [.int .i64 a.1.z] from k1, show v1 = [.int .i64 a.2.1.z] from k2, show y1 = [.int .i64 a.2.2.2.1.z] from k3, show y2 = [.int .i64 a.2.2.2.2.z] from k4]
    rfl)
  exact ⟨l, h1, h2, h3⟩
theorem res_of {w : World} {B n : Nat} {A : Option Addr} {xs : List ReT} (h : LiesSlice w B A n xs) : ∃ l : List Re, l.length = n ∧ Reads w B 3 A n (l.flatMap Re.vs) ∧ ∀ x ∈ l, x.At B w := by
  obtain ⟨l, h1, h2, h3⟩ := h.rows (X := Re) (f := Re.vs) (g := fun v => v.At B w) (fun _ => rfl) (fun us a hl => by
    obtain ⟨u1, u2, rfl, ⟨A, n, c, rfl, hn, hc, _, hl⟩, ⟨v1, v2, rfl, k2, k3⟩⟩ := hl
    refine ⟨⟨A, n, c, zsOf a.1, a.2.1.b, a.2.2.b⟩, ?_, hl.reads, Nat.le_trans hn hc, zsOf_u8b _, flB _, flB _⟩
    rw [show v1 = [.float .f64 a.2.1.b] from k2, show v2 = [.float .f64 a.2.2.b] from k3]
    rfl)
  exact ⟨l, h1, h2, h3⟩
theorem ce_of {w : World} {B : Nat} {us : List Value} {x : CeT} (h : Lay.lies w B us x) : ∃ r : Ce, us = r.vs ∧ r.At B w := by
  obtain ⟨u1, u2, rfl, k1, ⟨v1, v2, rfl, k2, ⟨x1, x2, rfl, ⟨A, n, c, rfl, hn, hc, _, hl⟩, ⟨A', n', c', rfl, hn', hc', _, hl'⟩⟩⟩⟩ := h
  obtain ⟨li, h1, h2, h3⟩ := whs_of hl
  obtain ⟨lr, h4, h5, h6⟩ := res_of hl'
  obtain ⟨m, hm⟩ := Int.eq_ofNat_of_zero_le x.1.u64.1
  refine ⟨⟨m, x.2.1.z, A, n, c, li, A', n', c', lr⟩, ?_, (by show m < 18446744073709551616; have := x.1.u64.2; omega), x.2.1.i64, h2, h3, h1, Nat.le_trans hn hc, h5, h6, h4, Nat.le_trans hn' hc'⟩
  rw [show u1 = [.int .u64 x.1.z] from k1, show v1 = [.int .i64 x.2.1.z] from k2, hm]
  rfl
theorem ces_of {w : World} {B n c : Nat} {A : Option Addr} {xs : List CeT} (h : LiesSlice w B A n xs) (hm : n ≤ maxLen) : ∃ l : List Ce, (Ces.mk A n c l).At B w := by
  obtain ⟨l, h1, h2, h3⟩ := h.rows (X := Ce) (f := Ce.vs) (g := fun r => r.At B w) (fun _ => rfl) (fun us a hl => ce_of hl)
  exact ⟨l, h2, h3, h1, hm⟩
end Go.Proofs.Ytnndkepnabddgaa
namespace Go.Proofs.Ytnndkepnabddgaa
set_option maxRecDepth 100000
open Go.RowKit H
set_option linter.unusedVariables false
theorem cells_of {w : World} {B : Nat} {us : List Value} {x : List CeT} (h : Lay.lies w B us x) : ∃ s : Ces, us = s.vs ∧ s.At B w ∧ s.n ≤ s.c := by
  obtain ⟨A, n, c, rfl, hn, hc, _, hl⟩ := h
  obtain ⟨l, hL⟩ := ces_of (c := c) hl (Nat.le_trans hn hc)
  exact ⟨⟨A, n, c, l⟩, rfl, hL, hn⟩
theorem lists_of {w : World} {B n : Nat} {A : Option Addr} {xs : List (List CeT)} (h : LiesSlice w B A n xs) : ∃ ls : List Ces, ls.length = n ∧ Reads w B 1 A n (ls.flatMap Ces.vs) ∧ ∀ s ∈ ls, s.At B w ∧ s.n ≤ s.c := by
  obtain ⟨l, h1, h2, h3⟩ := h.rows (X := Ces) (f := Ces.vs) (g := fun s => s.At B w ∧ s.n ≤ s.c) (fun _ => rfl) (fun us a hl => cells_of hl)
  exact ⟨l, h1, h2, h3⟩
theorem Ce.Lt.q {x : Ce} (h : x.Lt) : x.LtQ 20 := ⟨h.i, h.r, h.li, h.lr⟩
theorem rlight16 (A : Option Addr) (n c : Nat) (ls : List Ces) {w : World} {N : Nat} (hr : Reads w N 1 A n (ls.flatMap Ces.vs)) (hs : ∀ s ∈ ls, s.At N w) (hl : ls.length = n) (hN : N ≤ w.heap.size) (hm : n ≤ maxLen) : Calls Try.prog 5 #[.slice A n c] w fun e w' => Ext w w' ∧ ∃ z : Bool, e = .returned (.bool z) ∧ (z = true → n ≤ 8 ∧ ∀ s ∈ ls, s.n ≤ 60 ∧ ∀ x ∈ s.l, x.Lt) := by
  unfold maxLen at hm
  refine enter Try.func5 rfl (by kernel_rfl) ?_
  refine J.seq ?_
  refine J.region ?_
  refine L.va rfl (X.assign (by conv => lhs; whnf)) ?_
  refine L.nil ?_
  refine J.seq ?_
  refine J.seq ?_
  refine J.region ?_
  refine L.va rfl (X.move (by conv => lhs; whnf)) ?_
  refine L.va rfl (X.len rfl Try.underlying22) ?_
  refine L.va rfl (X.gtr rfl rfl) ?_
  refine L.nil ?_
  refine J.dec rfl (fun h1 => ?_) (fun h1 => ?_)
  · refine J.seq ?_
    refine J.region ?_
    refine L.va rfl (X.assign (by conv => lhs; whnf)) ?_
    refine L.nil ?_
    refine J.ret ?_
    refine thn_ret <| ?_
    refine fin1 ?_
    exact ⟨Ext.refl _, _, rfl, fun h => by cases h⟩
  · refine J.skip ?_
    refine J.seq ?_
    refine J.seq ?_
    refine J.region ?_
    refine L.va rfl (X.assign (by conv => lhs; whnf)) ?_
    refine L.nil ?_
    refine J.block ?_
    refine J.loop (X := Nat) [2, 3, 7, 8, 9, 10, 11, 12, 13, 14, 15, 16, 17, 18] (fun i => [(3, .int .i64 (i : Int))]) (fun i w' => i ≤ n ∧ (∀ j, j < i → (ls.getD j ces0).n ≤ 60 ∧ ∀ x ∈ (ls.getD j ces0).l, x.Lt) ∧ Ext w w') (fun i => n - i) (0) (At1 (by first | rfl | exact at_int rfl (by omega) | exact at_slice rfl (by omega) | exact at_int rfl (by simp))) ?_ ?_
    · exact ⟨Nat.zero_le _, fun j hj => absurd hj (by omega), Ext.refl _⟩
    · rintro i g w2 ⟨hi, hP, he⟩
      have z := he.le
      have hr2 := hr.ext he
      refine J.seq ?_
      refine J.seq ?_
      refine J.region ?_
      refine L.va rfl (X.move (by conv => lhs; whnf)) ?_
      refine L.va rfl (X.move (by conv => lhs; whnf)) ?_
      refine L.va rfl (X.len rfl Try.underlying22) ?_
      refine L.va rfl (X.lss rfl rfl) ?_
      refine L.nil ?_
      refine J.dec rfl (fun hlt => ?_) (fun hlt => ?_)
      · have hil : i < ls.length := by omega
        have hA := hr2.some_ (by omega)
        have gs := gtS (l := ls) (i := i) hil
        have ms := (hs _ (memD (l := ls) (i := i) (d := ces0) hil)).ext he
        obtain ⟨s, es⟩ : ∃ s, s = ls.getD i ces0 := ⟨_, rfl⟩
        rw [← es] at gs ms
        have lx : Ld w2 (pA A i) (.slice s.A s.n s.c) := by have h := Ld.flat2 cs_len hr2 gs (r := 0) rfl; rwa [Nat.mul_one] at h
        refine J.skip ?_
        refine J.seq ?_
        refine J.block ?_
        refine J.seq ?_
        refine J.region ?_
        refine L.va rfl (X.move (by conv => lhs; whnf)) ?_
        refine L.va rfl (X.move (by conv => lhs; whnf)) ?_
        refine L.va rfl ((by first | exact X.index1n rfl rfl Try.underlying22 sz_25 (by first | exact Option.some_ne_none _ | exact hA | exact lx) (by omega) | exact X.index1 rfl rfl Try.underlying22 sz_25 (by first | exact Option.some_ne_none _ | exact hA | exact lx) (by omega))) ?_
        refine L.va rfl (X.load rfl sc_25 (by first | exact hA | exact lx)) ?_
        have K := rlight15 ms (by omega)
        refine L.call rfl en_11 rfl (K) ?_
        rintro e w3 ⟨he3, z, rfl, hz⟩
        refine ⟨_, rfl, ?_⟩
        have he03 := he.trans he3
        refine L.va rfl (X.not rfl) ?_
        refine L.nil ?_
        cases z
        · refine J.iteT rfl ?_
          refine J.seq ?_
          refine J.region ?_
          refine L.va rfl (X.assign (by conv => lhs; whnf)) ?_
          refine L.nil ?_
          refine J.ret ?_
          refine inB_ret <|  thn_ret <|  thn_ret <|  inB_ret <|  thn_ret <| ?_
          refine fin1 ?_
          exact ⟨he03, _, rfl, fun h => by cases h⟩
        · refine J.iteF rfl ?_
          refine J.skip ?_
          refine J.region ?_
          refine L.va rfl (X.move (by conv => lhs; whnf)) ?_
          refine L.va rfl (X.add rfl rfl (by omega)) ?_
          refine L.va rfl (X.assign (by conv => lhs; whnf)) ?_
          refine L.nil ?_
          refine ⟨i + 1, At1 (by first | rfl | exact at_int rfl (by omega) | exact at_slice rfl (by omega) | exact at_int rfl (by simp)), (by (iterate 13 refine Agr.lk rfl ?_); exact Agr.lk rfl (Agr.hav rfl Agr.rfl')), ?_⟩
          refine ⟨⟨by omega, fun j hj => ?_, he03⟩, by omega⟩
          rcases Nat.lt_or_ge j i with h | h
          · exact hP j h
          · obtain rfl : j = i := by omega
            rw [← es]
            exact hz rfl
      · refine J.exit ?_
        refine J.seq ?_
        refine J.region ?_
        refine L.va rfl (X.assign (by conv => lhs; whnf)) ?_
        refine L.nil ?_
        refine J.ret ?_
        refine fin1 ?_
        refine ⟨he, _, rfl, fun _ => ⟨by omega, fun s hs => ?_⟩⟩
        obtain ⟨j, hj, rfl⟩ := List.getElem_of_mem hs
        have := hP j (by omega)
        rwa [List.getD, List.getElem?_eq_getElem hj] at this
end Go.Proofs.Ytnndkepnabddgaa
namespace Go.Proofs.Ytnndkepnabddgaa
set_option maxRecDepth 10000
set_option linter.unusedVariables false
namespace Num
theorem dv_bd {d : List Int} (h : Dig d) : dv d < 1000 ^ d.length := by
  induction d with
  | nil => simp [dv]
  | cons a t ih =>
    have h0 := h 0
    have ht : Dig t := fun j => by have := h (j + 1); simpa using this
    have := ih ht
    simp at h0
    rw [dv, List.length_cons, Int.pow_succ]
    omega
theorem siz_can {d : List Int} {k : Nat} (h : SizN d k) : Cano (d.take k) := by
  intro hl
  have h1 := h.le
  rw [List.length_take, Nat.min_eq_left h1] at hl ⊢
  have h2 := h.nz hl
  rw [List.getD, List.getElem?_take, if_pos (by omega)]
  exact h2
theorem siz_nv {d : List Int} {k : Nat} (h : SizN d k) : dv (d.take k) = dv d := dv_trim h.le h.z
theorem pow_succD (i : Nat) : (1000 : Int) ^ (i + 1) = 1000 ^ i * 1000 := Int.pow_succ ..
theorem dv_ge {d : List Int} (h : Dig d) {k : Nat} (hk : d.getD k 0 ≠ 0) : (1000 : Int) ^ k ≤ dv d := by
  have hl : k < d.length := by
    apply Decidable.byContradiction
    intro hn
    apply hk
    rw [List.getD, List.getElem?_eq_none (by omega)]
    rfl
  have e : d = d.take (k + 1) ++ d.drop (k + 1) := (List.take_append_drop _ _).symm
  have key : ∀ (x y : List Int), Dig y → dv x ≤ dv (x ++ y) := by
    intro x y hy
    induction x with
    | nil => simp only [List.nil_append, dv]; exact dv_nn hy
    | cons a t ih => simp only [List.cons_append, dv]; omega
  have hd : Dig (d.drop (k + 1)) := dig_mem.2 fun x hx => dig_mem.1 h x (List.mem_of_mem_drop hx)
  have h1 := key (d.take (k + 1)) _ hd
  rw [← e, dv_take hl] at h1
  have h2 := dv_nn (dig_take h k)
  have h3 := h k
  have h4 : (1000 : Int) ^ k * 1 ≤ 1000 ^ k * d.getD k 0 := Int.mul_le_mul_of_nonneg_left (by omega) (Int.pow_nonneg (by decide))
  rw [Int.mul_one, Int.mul_comm] at h4
  omega
theorem powD_le {i j : Nat} (h : i ≤ j) : (1000 : Int) ^ i ≤ 1000 ^ j := by
  induction j with
  | zero => obtain rfl : i = 0 := by omega
            exact Int.le_refl _
  | succ j ih =>
    rcases Nat.lt_or_ge i (j + 1) with h1 | h1
    · have h2 := ih (by omega)
      have h3 : (0 : Int) ≤ 1000 ^ j := Int.pow_nonneg (by decide)
      rw [pow_succD]
      omega
    · obtain rfl : i = j + 1 := by omega
      exact Int.le_refl _
theorem dv_cmp {a b : List Int} (ha : Dig a) (hb : Dig b) {i : Nat} (hs : ∀ j, i < j → a.getD j 0 = b.getD j 0) (h : a.getD i 0 < b.getD i 0) : dv a < dv b := by
  obtain ⟨n, hn⟩ : ∃ n, n = max a.length b.length := ⟨_, rfl⟩
  have key : ∀ d, dv (a.take (i + 1 + d)) < dv (b.take (i + 1 + d)) := by
    intro d
    induction d with
    | zero =>
      rw [Nat.add_zero, dv_next, dv_next]
      have h1 := dv_bd (dig_take ha i)
      have h2 := dv_nn (dig_take hb i)
      have h3 : (1000 : Int) ^ (a.take i).length ≤ 1000 ^ i := powD_le (by rw [List.length_take]; omega)
      have h4 : (a.getD i 0 + 1) * 1000 ^ i ≤ b.getD i 0 * 1000 ^ i := Int.mul_le_mul_of_nonneg_right (by omega) (Int.pow_nonneg (by decide))
      rw [Int.add_mul, Int.one_mul] at h4
      omega
    | succ d ih =>
      rw [← Nat.add_assoc, dv_next, dv_next, hs (i + 1 + d) (by omega)]
      omega
  have h1 := key n
  rw [dv_pad _ (by omega), dv_pad _ (by omega)] at h1
  exact h1
theorem dv_same {a b : List Int} (hs : ∀ j, a.getD j 0 = b.getD j 0) : dv a = dv b := by
  obtain ⟨n, hn⟩ : ∃ n, n = max a.length b.length := ⟨_, rfl⟩
  have key : ∀ d, dv (a.take d) = dv (b.take d) := by
    intro d
    induction d with
    | zero => simp
    | succ d ih => rw [dv_next, dv_next, hs d, ih]
  have h1 := key n
  rwa [dv_pad _ (by omega), dv_pad _ (by omega)] at h1
theorem dv_drop {d : List Int} (i : Nat) : dv (d.drop i) = d.getD i 0 + 1000 * dv (d.drop (i + 1)) := by
  rcases Nat.lt_or_ge i d.length with h | h
  · rw [List.drop_eq_getElem_cons h, dv, List.getD, List.getElem?_eq_getElem h]
    rfl
  · rw [List.drop_eq_nil_of_le h, List.drop_eq_nil_of_le (by omega), List.getD, List.getElem?_eq_none h]
    rfl
theorem set_drop {d : List Int} {i : Nat} (x : Int) (hi : i < d.length) : (d.set i x).drop i = x :: d.drop (i + 1) := by
  rw [List.drop_eq_getElem_cons (by rw [List.length_set]; exact hi), List.getElem_set_self, List.drop_set_of_lt (by omega)]
theorem div_next {d e : List Int} {i : Nat} {left s : Int} (hi : i < e.length) (h : dv (e.drop (i + 1)) * 4294967296 + left = dv (d.drop (i + 1))) (hs : s = left * 1000 + d.getD i 0) : dv ((e.set i (s / 4294967296)).drop i) * 4294967296 + s % 4294967296 = dv (d.drop i) := by
  rw [set_drop _ hi, dv, dv_drop (d := d) i]
  omega
theorem div_dig {left x s : Int} (hl : 0 ≤ left ∧ left < 4294967296) (hx : 0 ≤ x ∧ x < 1000) (hs : s = left * 1000 + x) : 0 ≤ s / 4294967296 ∧ s / 4294967296 < 1000 ∧ 0 ≤ s % 4294967296 ∧ s % 4294967296 < 4294967296 := by
  omega
theorem dv_pos {d : List Int} (h : Dig d) (hc : Cano d) (h0 : 0 < d.length) : 0 < dv d := by
  have h1 := dv_ge h (hc h0)
  have h2 : (0 : Int) < 1000 ^ (d.length - 1) := Int.pow_pos (by decide)
  omega
end Num
end Go.Proofs.Ytnndkepnabddgaa
namespace Go.Proofs.Ytnndkepnabddgaa
set_option maxRecDepth 100000
open Go.RowKit H
open Num
set_option linter.unusedVariables false
namespace Nu
abbrev iv (x : Nu) : Int := sgz x.g (dv x.d)
end Nu
theorem sg_take {g : Bool} {d : List Int} {k : Nat} : sgz (g && decide (0 < k)) (dv (d.take k)) = sgz g (dv (d.take k)) := by
  rcases Nat.eq_zero_or_pos k with rfl | h
  · rw [List.take_zero]
    unfold sgz dv
    cases g <;> rfl
  · rw [decide_eq_true h, Bool.and_true]
theorem sg_add {g : Bool} {a b c : Int} (h : c = a + b) : sgz g c = sgz g a + sgz g b := by unfold sgz; cases g <;> simp <;> omega
theorem sg_sub {g g' : Bool} {a b c : Int} (hg : ¬ g = g') (h : c = a - b) : sgz g c = sgz g a + sgz g' b := by unfold sgz; cases g <;> cases g' <;> simp at * <;> omega
theorem sg_sub' {g g' : Bool} {a b c : Int} (hg : ¬ g = g') (h : c = b - a) : sgz g' c = sgz g a + sgz g' b := by unfold sgz; cases g <;> cases g' <;> simp at * <;> omega
theorem len_le_of {a b : List Int} (ha : Dig a) (hb : Dig b) (cb : Cano b) (h : dv b ≤ dv a) : b.length ≤ a.length := by
  apply Decidable.byContradiction
  intro k
  have h1 := dv_ge hb (cb (by omega))
  have h2 := dv_bd ha
  have h3 : (1000 : Int) ^ a.length ≤ 1000 ^ (b.length - 1) := powD_le (by omega)
  omega
theorem rless01 (A : Option Addr) (n c : Nat) (a : List Int) (B : Option Addr) (m e : Nat) (b : List Int) (w : World) {N : Nat} (hra : Reads w N 1 A n (nums .i64 a)) (hrb : Reads w N 1 B m (nums .i64 b)) (la : a.length = n) (lb : b.length = m) (hn : n ≤ 100000 ∧ m ≤ 100000) (da : Dig a) (db : Dig b) : Calls Try.prog 63 #[.slice A n c, .slice B m e] w fun e w' => (∃ k : Int, e = .returned (.int .i64 k) ∧ CmpN k (dv a) (dv b)) ∧ w = w' := by
  obtain ⟨q, hq⟩ : ∃ q, q = max n m := ⟨_, rfl⟩
  have eL : (max (n : Int) (m : Int)) = (q : Int) := by omega
  refine enter Try.func63 rfl (by kernel_rfl) ?_
  refine J.seq ?_
  refine J.region ?_
  refine L.va rfl (X.assign (by conv => lhs; whnf)) ?_
  refine L.nil ?_
  refine J.seq ?_
  refine J.seq ?_
  refine J.region ?_
  refine L.va rfl (X.move (by conv => lhs; whnf)) ?_
  refine L.va rfl (X.len rfl Try.underlying35) ?_
  refine L.va rfl (X.move (by conv => lhs; whnf)) ?_
  refine L.va rfl (X.len rfl Try.underlying35) ?_
  refine L.va rfl (X.max2 rfl rfl) ?_
  refine L.va rfl (X.sub rfl rfl (by omega)) ?_
  refine L.va rfl (X.assign (by conv => lhs; whnf)) ?_
  refine L.nil ?_
  refine J.block ?_
  rw [eL]
  refine J.loop (X := Nat) [4, 5, 12, 13, 14, 15, 16, 17, 18, 19, 20, 21, 22, 23, 24, 25, 26, 27, 28, 29] (fun k => [(5, .int .i64 ((k : Int) - 1))]) (fun k w' => k ≤ q ∧ (∀ j, k ≤ j → a.getD j 0 = b.getD j 0) ∧ w = w') (fun k => k) (q) (At1 (by first | rfl | exact at_int rfl (by omega) | exact at_slice rfl (by omega) | exact at_int rfl (by simp))) ?_ ?_
  · refine ⟨Nat.le_refl _, fun j h1 => ?_, rfl⟩
    rw [List.getD, List.getD, List.getElem?_eq_none (by omega), List.getElem?_eq_none (by omega)]
  · rintro k g w2 ⟨hk, hz, rfl⟩
    refine J.seq ?_
    refine J.seq ?_
    refine J.region ?_
    refine L.va rfl (X.move (by conv => lhs; whnf)) ?_
    refine L.va rfl (X.geq rfl rfl) ?_
    refine L.nil ?_
    refine J.dec rfl (fun h1 => ?_) (fun h1 => ?_)
    · obtain ⟨i, rfl⟩ : ∃ i, k = i + 1 := ⟨k - 1, by omega⟩
      have c1 := rdigit A n c a i w hra la (by unfold maxLen; omega)
      have c2 := rdigit B m e b i w hrb lb (by unfold maxLen; omega)
      rw [show (i : Int) = ((i + 1 : Nat) : Int) - 1 by omega] at c1 c2
      refine J.skip ?_
      refine J.seq ?_
      refine J.block ?_
      refine J.seq ?_
      refine J.region ?_
      refine L.va rfl (X.move (by conv => lhs; whnf)) ?_
      refine L.va rfl (X.move (by conv => lhs; whnf)) ?_
      refine L.call rfl en_81 rfl (c1) ?_
      rintro e _ ⟨rfl, rfl⟩
      refine ⟨_, rfl, ?_⟩
      refine L.va rfl (X.move (by conv => lhs; whnf)) ?_
      refine L.va rfl (X.move (by conv => lhs; whnf)) ?_
      refine L.call rfl en_81 rfl (c2) ?_
      rintro e _ ⟨rfl, rfl⟩
      refine ⟨_, rfl, ?_⟩
      refine L.va rfl (X.neq rfl rfl) ?_
      refine L.nil ?_
      refine J.ndec rfl (fun h2 => ?_) (fun h2 => ?_)
      · refine J.seq ?_
        refine J.seq ?_
        refine J.region ?_
        refine L.va rfl (X.move (by conv => lhs; whnf)) ?_
        refine L.va rfl (X.move (by conv => lhs; whnf)) ?_
        refine L.call rfl en_81 rfl (c1) ?_
        rintro e _ ⟨rfl, rfl⟩
        refine ⟨_, rfl, ?_⟩
        refine L.va rfl (X.move (by conv => lhs; whnf)) ?_
        refine L.va rfl (X.move (by conv => lhs; whnf)) ?_
        refine L.call rfl en_81 rfl (c2) ?_
        rintro e _ ⟨rfl, rfl⟩
        refine ⟨_, rfl, ?_⟩
        refine L.va rfl (X.lss rfl rfl) ?_
        refine L.nil ?_
        refine J.dec rfl (fun h3 => ?_) (fun h3 => ?_)
        · refine J.seq ?_
          refine J.region ?_
          refine L.va rfl (X.assign (by conv => lhs; whnf)) ?_
          refine L.nil ?_
          refine J.ret ?_
          refine thn_ret <|  inB_ret <|  thn_ret <|  thn_ret <|  inB_ret <|  thn_ret <| ?_
          refine fin1 ?_
          exact ⟨⟨_, rfl, .lt (dv_cmp da db (i := i) (fun j hj => hz j hj) h3)⟩, rfl⟩
        · refine J.skip ?_
          refine J.seq ?_
          refine J.region ?_
          refine L.va rfl (X.assign (by conv => lhs; whnf)) ?_
          refine L.nil ?_
          refine J.ret ?_
          refine inB_ret <|  thn_ret <|  thn_ret <|  inB_ret <|  thn_ret <| ?_
          refine fin1 ?_
          exact ⟨⟨_, rfl, .gt (dv_cmp db da (i := i) (fun j hj => (hz j hj).symm) (by omega))⟩, rfl⟩
      · refine J.skip ?_
        refine J.region ?_
        refine L.va rfl (X.move (by conv => lhs; whnf)) ?_
        refine L.va rfl (X.sub rfl rfl (by omega)) ?_
        refine L.va rfl (X.assign (by conv => lhs; whnf)) ?_
        refine L.nil ?_
        refine ⟨i, At1 (at_int rfl (by omega)), (by (iterate 12 refine Agr.lk rfl ?_); exact Agr.lk rfl (Agr.hav rfl Agr.rfl')), ?_⟩
        refine ⟨⟨by omega, fun j hj => ?_, rfl⟩, by omega⟩
        rcases Nat.lt_or_ge i j with h | h
        · exact hz j h
        · obtain rfl : j = i := by omega
          omega
    · obtain rfl : k = 0 := by omega
      refine J.exit ?_
      refine J.seq ?_
      refine J.region ?_
      refine L.va rfl (X.assign (by conv => lhs; whnf)) ?_
      refine L.nil ?_
      refine J.ret ?_
      refine fin1 ?_
      exact ⟨⟨_, rfl, .eq (dv_same fun j => hz j (Nat.zero_le _))⟩, rfl⟩
theorem rrest (A : Option Addr) (n c : Nat) (a : List Int) (B : Option Addr) (m e : Nat) (b : List Int) (w : World) {N : Nat} (hN : N ≤ w.heap.size) (hra : Reads w N 1 A n (nums .i64 a)) (hrb : Reads w N 1 B m (nums .i64 b)) (la : a.length = n) (lb : b.length = m) (hn : n ≤ 100000 ∧ m ≤ n) (da : Dig a) (db : Dig b) (hle : dv b ≤ dv a) : Calls Try.prog 64 #[.slice A n c, .slice B m e] w fun e w' => ∃ (A' : Option Addr) (c' : Nat) (o : List Int), e = .returned (.slice A' o.length c') ∧ o.length = n ∧ Dig o ∧ dv o = dv a - dv b ∧ w'.ownsRow w.heap.size 3 1 (.slice A' o.length c') o.length (nums .i64 o) ∧ Ext w w' := by
  refine enter Try.func64 rfl (by kernel_rfl) ?_
  refine J.seq ?_
  refine J.region ?_
  refine L.va rfl (X.assign (by conv => lhs; whnf)) ?_
  refine L.nil ?_
  refine J.seq ?_
  refine J.region ?_
  refine L.va rfl (X.assign (by conv => lhs; whnf)) ?_
  refine L.nil ?_
  refine J.seq ?_
  refine J.region ?_
  refine L.va rfl (X.assign (by conv => lhs; whnf)) ?_
  refine L.nil ?_
  refine J.seq ?_
  refine J.seq ?_
  refine J.region ?_
  refine L.va rfl (X.assign (by conv => lhs; whnf)) ?_
  refine L.nil ?_
  refine J.block ?_
  refine J.loop (X := Nat × Int × Option Addr × Nat × List Int) [5, 6, 7, 8, 9, 10, 11, 12, 13, 14, 15, 16, 17, 18, 19, 20, 21, 22, 23, 24, 25, 26, 27, 28, 29, 30, 31] (fun (i, cy, B, oc, o) => [(7, .int .i64 (i : Int)), (6, .int .i64 cy), (5, .slice B o.length oc)]) (fun (i, cy, B, oc, o) w' => i ≤ n ∧ o.length = i ∧ Dig o ∧ (0 ≤ cy ∧ cy ≤ 1) ∧ dv o - cy * 1000 ^ i = dv (a.take i) - dv (b.take i) ∧ w'.ownsRow w.heap.size 3 1 (.slice B o.length oc) o.length (nums .i64 o) ∧ Ext w w') (fun (i, _) => n - i) ((0, 0, none, 0, [])) (At3 (by first | rfl | exact at_int rfl (by omega) | exact at_slice rfl (by omega) | exact at_int rfl (by simp)) (by first | rfl | exact at_int rfl (by omega) | exact at_slice rfl (by omega) | exact at_int rfl (by simp)) (by first | rfl | exact at_int rfl (by omega) | exact at_slice rfl (by omega) | exact at_int rfl (by simp))) ?_ ?_
  · exact ⟨Nat.zero_le _, rfl, dig_nil, by decide, by simp [dv], own_nil _ _ _ _, Ext.refl _⟩
  · rintro ⟨i, cy, B', oc, o⟩ g w2 ⟨hi, ho, dgo, hcy, hv, own, he⟩
    have z2 := he.le
    refine J.seq ?_
    refine J.seq ?_
    refine J.region ?_
    refine L.va rfl (X.move (by conv => lhs; whnf)) ?_
    refine L.va rfl (X.move (by conv => lhs; whnf)) ?_
    refine L.va rfl (X.len rfl Try.underlying35) ?_
    refine L.va rfl (X.lss rfl rfl) ?_
    refine L.nil ?_
    refine J.dec rfl (fun hlt => ?_) (fun hlt => ?_)
    · have c1 := rdigit A n c a i w2 (hra.ext he) la (by unfold maxLen; omega)
      have c2 := rdigit B m e b i w2 (hrb.ext he) lb (by unfold maxLen; omega)
      have ga := da i
      have gb := db i
      refine J.skip ?_
      refine J.seq ?_
      refine J.block ?_
      refine J.seq ?_
      refine J.region ?_
      refine L.va rfl (X.move (by conv => lhs; whnf)) ?_
      refine L.va rfl (X.move (by conv => lhs; whnf)) ?_
      refine L.call rfl en_81 rfl (c1) ?_
      rintro e _ ⟨rfl, rfl⟩
      refine ⟨_, rfl, ?_⟩
      refine L.va rfl (X.move (by conv => lhs; whnf)) ?_
      refine L.va rfl (X.move (by conv => lhs; whnf)) ?_
      refine L.call rfl en_81 rfl (c2) ?_
      rintro e _ ⟨rfl, rfl⟩
      refine ⟨_, rfl, ?_⟩
      obtain ⟨s, hs⟩ : ∃ s, s = a.getD i 0 - b.getD i 0 - cy := ⟨_, rfl⟩
      refine L.va rfl (X.sub rfl rfl (by omega)) ?_
      refine L.va rfl (X.move (by conv => lhs; whnf)) ?_
      refine L.va rfl (X.sub rfl rfl (by omega)) ?_
      refine L.va rfl (X.assign (by conv => lhs; whnf)) ?_
      refine L.nil ?_
      refine J.seq ?_
      refine J.region ?_
      refine L.va rfl (X.assign (by conv => lhs; whnf)) ?_
      refine L.nil ?_
      refine J.cut (X := Int × Int) [6, 8, 24, 25, 26, 27] (fun (s', cy') => [(8, .int .i64 s'), (6, .int .i64 cy')]) (fun (s', cy') w' => (0 ≤ s' ∧ s' < 1000) ∧ (0 ≤ cy' ∧ cy' ≤ 1) ∧ s = s' - 1000 * cy' ∧ w2 = w') ?_ ?_
      · refine J.seq ?_
        refine J.region ?_
        refine L.va rfl (X.move (by conv => lhs; whnf)) ?_
        refine L.va rfl (X.lss rfl rfl) ?_
        refine L.nil ?_
        refine J.dec rfl (fun hneg => ?_) (fun hneg => ?_)
        · refine J.seq ?_
          refine J.region ?_
          refine L.va rfl (X.move (by conv => lhs; whnf)) ?_
          refine L.va rfl (X.add rfl rfl (by omega)) ?_
          refine L.va rfl (X.assign (by conv => lhs; whnf)) ?_
          refine L.nil ?_
          refine J.region ?_
          refine L.va rfl (X.assign (by conv => lhs; whnf)) ?_
          refine L.nil ?_
          refine ⟨(s + 1000, 1), At2 (at_int rfl (by rw [hs])) (rfl), (by (iterate 6 refine Agr.lk rfl ?_); exact Agr.rfl'), ?_⟩
          exact ⟨by omega, by decide, by omega, rfl⟩
        · refine J.skip ?_
          refine ⟨(s, 0), At2 (at_int rfl (by rw [hs])) (rfl), (by (iterate 2 refine Agr.lk rfl ?_); exact Agr.rfl'), ?_⟩
          exact ⟨by omega, by decide, by omega, rfl⟩
      · rintro ⟨s', cy'⟩ g w3 ⟨hs', hcy', hss, rfl⟩
        refine J.region ?_
        refine L.va rfl (X.move (by conv => lhs; whnf)) ?_
        refine L.va rfl (X.move (by conv => lhs; whnf)) ?_
        refine L.bslice (vs := [_]) rfl (Evs.cons (by conv => lhs; whnf) Evs.nil) rfl rfl rfl rfl Try.underlying35 sz_3 zr_3 (by decide) ?_
        intro b3 w3 hb3 hs3 hk3 he3
        have ho3 := own.ext he3
        have z3 := he3.le
        refine L.appendQ (q := o.length + 1) (ys := o ++ [s']) rfl rfl rfl Try.underlying35 el_3 (ho3) ((blk_reads (q := 1) (l := nums .i64 [s']) hk3 hk3.lt rfl)) (by omega) (by simp) (by unfold maxLen; omega) (by omega) ?_
        intro B4 c4 w4 ho4 hg4 hb4 hor4
        have he4 := (he.trans he3).grw hg4 (fun g hg => (ho3.lt g hg).1)
        have el : (o ++ [s']).length = o.length + 1 := by rw [List.length_append]; rfl
        refine L.va rfl (X.assign (by conv => lhs; whnf)) ?_
        refine L.nil ?_
        refine J.region ?_
        refine L.va rfl (X.move (by conv => lhs; whnf)) ?_
        refine L.va rfl (X.add rfl rfl (by omega)) ?_
        refine L.va rfl (X.assign (by conv => lhs; whnf)) ?_
        refine L.nil ?_
        refine ⟨(i + 1, cy', B4, c4, o ++ [s']), At3 (rfl) (rfl) (at_slice rfl el.symm), (by (iterate 8 refine Agr.lk rfl ?_); refine Agr.lk rfl ?_; refine Agr.hav rfl ?_; (iterate 15 refine Agr.lk rfl ?_); exact Agr.lk rfl (Agr.hav rfl Agr.rfl')), ?_⟩
        refine ⟨⟨by omega, by rw [el, ho], dig_snoc dgo (by omega), hcy', ?_, by rw [el]; exact ho4, he4⟩, by show n - (i + 1) < n - i; omega⟩
        rw [dv_snoc, ho, dv_next, dv_next, Int.pow_succ]
        have e1 : s' = a.getD i 0 - b.getD i 0 - cy + 1000 * cy' := by omega
        generalize (1000 : Int) ^ i = p at *
        subst e1
        grind
    · obtain rfl : i = n := by omega
      have ea : dv (a.take i) = dv a := dv_pad _ (by omega)
      have eb : dv (b.take i) = dv b := dv_pad _ (by omega)
      rw [ea, eb] at hv
      have hbd := dv_bd dgo
      rw [ho] at hbd
      have hcy0 : cy = 0 := by
        apply Decidable.byContradiction
        intro h
        obtain rfl : cy = 1 := by omega
        omega
      subst hcy0
      refine J.exit ?_
      refine J.seq ?_
      refine J.region ?_
      refine L.va rfl (X.move (by conv => lhs; whnf)) ?_
      refine L.va rfl (X.assign (by conv => lhs; whnf)) ?_
      refine L.nil ?_
      refine J.ret ?_
      refine fin1 ?_
      exact ⟨B', oc, o, rfl, ho, dgo, by omega, own, he⟩
theorem iv_made {t : Nu} {g : Bool} {N : Nat} {w : World} (h : t.At N w) (hg : t.g = (g && decide (0 < t.n))) : t.iv = sgz g (dv t.d) := by
  have e : t.d.take t.n = t.d := List.take_of_length_le (by rw [h.len]; exact Nat.le_refl _)
  have := sg_take (g := g) (d := t.d) (k := t.n)
  rw [e] at this
  show sgz t.g (dv t.d) = _
  rw [hg, this]
theorem raddS {x y : Nu} {w : World} {N : Nat} (hN : N ≤ w.heap.size) (hx : x.At N w) (hy : y.At N w) (hs : x.n ≤ 90000 ∧ y.n ≤ 90000) : Calls Try.prog 36 #[x.val, y.val] w fun e w' => ∃ t : Nu, e = .returned t.val ∧ t.At w'.heap.size w' ∧ t.iv = x.iv + y.iv ∧ t.n ≤ max x.n y.n + 1 ∧ t.Own w.heap.size w' ∧ Ext w w' := by
  by_cases hg : x.g = y.g
  · refine Calls.mono (radd hN hx hy hg hs) fun e w' h => ?_
    obtain ⟨t, h1, h2, h3, h4, h5, h6, h7⟩ := h
    refine ⟨t, h1, h2, ?_, h5, h6, h7⟩
    rw [iv_made h2 h3]
    show _ = sgz x.g (dv x.d) + sgz y.g (dv y.d)
    rw [← hg]
    exact sg_add h4
  have lx := hx.len
  have ly := hy.len
  refine enter Try.func36 rfl (by kernel_rfl) ?_
  refine J.seq ?_
  refine J.region ?_
  refine L.boxA (l := [_, _]) rfl rfl ?_
  intro b1 w1 hb1 hs1 hk1 he1
  refine L.boxA (l := [_, _]) rfl rfl ?_
  intro b2 w2 hb2 hs2 hk2 he2
  refine L.alloc rfl zr_80 ?_
  intro b3 w3 hb3 hs3 hk3 he3
  have he03 := (he1.trans he2).trans he3
  have z3 := he03.le
  have hk1 := (hk1.ext he2).ext he3
  have hk2 := hk2.ext he3
  refine L.nil ?_
  refine J.seq ?_
  refine J.seq ?_
  refine J.region ?_
  refine L.va rfl (X.fieldAddr rfl Try.underlying80 rfl sz_4 (by decide)) ?_
  refine L.va rfl (X.load rfl sc_4 (by first | exact Ld.blk hk1 rfl | exact Ld.blk hk2 rfl)) ?_
  refine L.va rfl (X.fieldAddr rfl Try.underlying80 rfl sz_4 (by decide)) ?_
  refine L.va rfl (X.load rfl sc_4 (by first | exact Ld.blk hk1 rfl | exact Ld.blk hk2 rfl)) ?_
  refine L.va rfl (X.eqlB rfl rfl Try.underlying4) ?_
  refine L.nil ?_
  rw [show (x.g == y.g) = false by rw [beq_eq_false_iff_ne]; exact hg]
  refine J.iteF rfl ?_
  refine J.skip ?_
  refine J.seq ?_
  refine J.seq ?_
  refine J.region ?_
  refine L.va rfl (X.fieldAddr rfl Try.underlying80 rfl sz_35 (by decide)) ?_
  refine L.va rfl (X.load rfl sc_35 (by first | exact Ld.blk hk1 rfl | exact Ld.blk hk2 rfl)) ?_
  refine L.va rfl (X.fieldAddr rfl Try.underlying80 rfl sz_35 (by decide)) ?_
  refine L.va rfl (X.load rfl sc_35 (by first | exact Ld.blk hk1 rfl | exact Ld.blk hk2 rfl)) ?_
  have c4 := rless01 x.A x.n x.c x.d y.A y.n y.c y.d w3 (N := N) (hx.r.ext he03) (hy.r.ext he03) lx ly (by omega) hx.dg hy.dg
  refine L.call rfl en_63 rfl (c4) ?_
  rintro e _ ⟨⟨kc, rfl, hkc⟩, rfl⟩
  refine ⟨_, rfl, ?_⟩
  refine L.va rfl (X.geq rfl rfl) ?_
  refine L.nil ?_
  refine J.dec rfl (fun hcmp => ?_) (fun hcmp => ?_)
  · have hle : dv y.d ≤ dv x.d := by
      apply Decidable.byContradiction
      intro h
      have := hkc.1.2 (by omega)
      omega
    refine J.seq ?_
    refine J.draw (ℓ := 8) (S := Ext w3) mixed (fun w5 hS hS_h => ?_)
    have z5 := hS.le
    have he05 := he03.trans hS
    have hln := len_le_of hx.dg hy.dg hy.cn hle
    have c5 := rrest x.A x.n x.c x.d y.A y.n y.c y.d w5 (N := N) (by omega) (hx.r.ext he05) (hy.r.ext he05) lx ly ⟨by omega, by omega⟩ hx.dg hy.dg hle
    refine D.va 0 rfl (by kernel_rfl) (fun _ _ _ h => h) rfl (fun w' hw => X.fieldAddr rfl Try.underlying80 rfl sz_4 (by decide)) hS ?_
    refine D.va 1 rfl (by kernel_rfl) (fun _ _ _ h => h) rfl (fun w' hw => X.load rfl sc_4 (by first | exact Ld.blk (hk1.ext hw) rfl | exact Ld.blk (hk2.ext hw) rfl)) hS ?_
    refine D.va 2 rfl (by kernel_rfl) (fun _ _ _ h => h) rfl (fun w' hw => X.fieldAddr rfl Try.underlying80 rfl sz_35 (by decide)) hS ?_
    refine D.va 3 rfl (by kernel_rfl) (fun _ _ _ h => h) rfl (fun w' hw => X.load rfl sc_35 (by first | exact Ld.blk (hk1.ext hw) rfl | exact Ld.blk (hk2.ext hw) rfl)) hS ?_
    refine D.va 4 rfl (by kernel_rfl) (fun _ _ _ h => h) rfl (fun w' hw => X.fieldAddr rfl Try.underlying80 rfl sz_35 (by decide)) hS ?_
    refine D.va 5 rfl (by kernel_rfl) (fun _ _ _ h => h) rfl (fun w' hw => X.load rfl sc_35 (by first | exact Ld.blk (hk1.ext hw) rfl | exact Ld.blk (hk2.ext hw) rfl)) hS ?_
    refine D.one 6 (by kernel_rfl) rfl ?_
    refine L.call rfl en_64 rfl (c5) ?_
    rintro e w6 ⟨A5, c5, o, rfl, hol, hod, hov, ho5, he6⟩
    refine ⟨_, rfl, ?_⟩
    have hS1 := hS.trans he6
    refine L.nil ?_
    refine ⟨fun _ => hS1, ?_⟩
    have hnc := own_bd ho5
    have c6 := rmade x.g A5 o.length c5 o w6 (Reads.of_own ho5) rfl hnc.1 (by omega)
    refine D.one 7 (by kernel_rfl) rfl ?_
    refine L.call rfl en_61 rfl (c6) ?_
    rintro e w7 ⟨he7, k, rfl, hk⟩
    refine ⟨_, rfl, ?_⟩
    have hS2 := (hS.trans he6).trans he7
    refine L.nil ?_
    refine ⟨fun _ => hS2, ?_⟩
    have hkl := hk.le
    have ho7 := ho5.ext he7
    have hk37 := hk3.ext ((hS.trans he6).trans he7)
    refine D.one 8 (by kernel_rfl) rfl ?_
    refine L.storeAgg (vs := [_, _]) rfl rfl rfl rfl sz_80 (hk37) rfl ?_
    intro w8 hk8 hg8 hs8
    refine L.nil ?_
    refine ⟨fun h => absurd rfl h, ?_⟩
    have he8 : Ext w w8 := ((he05.trans he6).trans he7).grw hg8 (by intro g hg; injection hg with hg; omega)
    have ho8 := ho7.kept hg8 (.inr (own_blk_ne ho7 hk37 (by decide)))
    obtain ⟨m1, m2⟩ := nu_made (g := x.g) (Reads.of_own ho8) hod rfl hnc.1 (by omega) hk
    refine D.done (by kernel_rfl) ?_
    refine J.ret ?_
    refine thn_ret <| ?_
    refine finC rfl (run_cell hk8 Try.underlying80 rfl (by kernel_rfl)) ?_
    refine ⟨⟨x.g && decide (0 < k), A5, k, c5, o.take k⟩, rfl, m1, ?_, by show k ≤ _; omega, own_lowN (own_cutN ho8 hkl) he05.le, he8⟩
    show sgz (x.g && decide (0 < k)) (dv (o.take k)) = _
    rw [sg_take, m2]
    exact sg_sub hg hov
  · have hle : dv x.d ≤ dv y.d := by
      have := hkc.1.1 (by omega)
      omega
    refine J.skip ?_
    refine J.seq ?_
    refine J.draw (ℓ := 8) (S := Ext w3) mixed (fun w5 hS hS_h => ?_)
    have z5 := hS.le
    have he05 := he03.trans hS
    have hln := len_le_of hy.dg hx.dg hx.cn hle
    have c5 := rrest y.A y.n y.c y.d x.A x.n x.c x.d w5 (N := N) (by omega) (hy.r.ext he05) (hx.r.ext he05) ly lx ⟨by omega, by omega⟩ hy.dg hx.dg hle
    refine D.va 0 rfl (by kernel_rfl) (fun _ _ _ h => h) rfl (fun w' hw => X.fieldAddr rfl Try.underlying80 rfl sz_4 (by decide)) hS ?_
    refine D.va 1 rfl (by kernel_rfl) (fun _ _ _ h => h) rfl (fun w' hw => X.load rfl sc_4 (by first | exact Ld.blk (hk1.ext hw) rfl | exact Ld.blk (hk2.ext hw) rfl)) hS ?_
    refine D.va 2 rfl (by kernel_rfl) (fun _ _ _ h => h) rfl (fun w' hw => X.fieldAddr rfl Try.underlying80 rfl sz_35 (by decide)) hS ?_
    refine D.va 3 rfl (by kernel_rfl) (fun _ _ _ h => h) rfl (fun w' hw => X.load rfl sc_35 (by first | exact Ld.blk (hk1.ext hw) rfl | exact Ld.blk (hk2.ext hw) rfl)) hS ?_
    refine D.va 4 rfl (by kernel_rfl) (fun _ _ _ h => h) rfl (fun w' hw => X.fieldAddr rfl Try.underlying80 rfl sz_35 (by decide)) hS ?_
    refine D.va 5 rfl (by kernel_rfl) (fun _ _ _ h => h) rfl (fun w' hw => X.load rfl sc_35 (by first | exact Ld.blk (hk1.ext hw) rfl | exact Ld.blk (hk2.ext hw) rfl)) hS ?_
    refine D.one 6 (by kernel_rfl) rfl ?_
    refine L.call rfl en_64 rfl (c5) ?_
    rintro e w6 ⟨A5, c5, o, rfl, hol, hod, hov, ho5, he6⟩
    refine ⟨_, rfl, ?_⟩
    have hS1 := hS.trans he6
    refine L.nil ?_
    refine ⟨fun _ => hS1, ?_⟩
    have hnc := own_bd ho5
    have c6 := rmade y.g A5 o.length c5 o w6 (Reads.of_own ho5) rfl hnc.1 (by omega)
    refine D.one 7 (by kernel_rfl) rfl ?_
    refine L.call rfl en_61 rfl (c6) ?_
    rintro e w7 ⟨he7, k, rfl, hk⟩
    refine ⟨_, rfl, ?_⟩
    have hS2 := (hS.trans he6).trans he7
    refine L.nil ?_
    refine ⟨fun _ => hS2, ?_⟩
    have hkl := hk.le
    have ho7 := ho5.ext he7
    have hk37 := hk3.ext ((hS.trans he6).trans he7)
    refine D.one 8 (by kernel_rfl) rfl ?_
    refine L.storeAgg (vs := [_, _]) rfl rfl rfl rfl sz_80 (hk37) rfl ?_
    intro w8 hk8 hg8 hs8
    refine L.nil ?_
    refine ⟨fun h => absurd rfl h, ?_⟩
    have he8 : Ext w w8 := ((he05.trans he6).trans he7).grw hg8 (by intro g hg; injection hg with hg; omega)
    have ho8 := ho7.kept hg8 (.inr (own_blk_ne ho7 hk37 (by decide)))
    obtain ⟨m1, m2⟩ := nu_made (g := y.g) (Reads.of_own ho8) hod rfl hnc.1 (by omega) hk
    refine D.done (by kernel_rfl) ?_
    refine J.ret ?_
    refine finC rfl (run_cell hk8 Try.underlying80 rfl (by kernel_rfl)) ?_
    refine ⟨⟨y.g && decide (0 < k), A5, k, c5, o.take k⟩, rfl, m1, ?_, by show k ≤ _; omega, own_lowN (own_cutN ho8 hkl) he05.le, he8⟩
    show sgz (y.g && decide (0 < k)) (dv (o.take k)) = _
    rw [sg_take, m2]
    exact sg_sub' hg hov
theorem rcmp {x y : Nu} {w : World} {N : Nat} (hN : N ≤ w.heap.size) (hx : x.At N w) (hy : y.At N w) : Calls Try.prog 68 #[x.val, y.val] w fun e w' => (∃ k : Int, e = .returned (.int .i64 k) ∧ CmpN k x.iv y.iv) ∧ Ext w w' := by
  have lx := hx.len
  have ly := hy.len
  have sx := hx.sm
  have sy := hy.sm
  have nx := dv_nn hx.dg
  have ny := dv_nn hy.dg
  have px : x.g = true → 0 < dv x.d := fun h => dv_pos hx.dg hx.cn (by rw [lx]; exact hx.sg h)
  have py : y.g = true → 0 < dv y.d := fun h => dv_pos hy.dg hy.cn (by rw [ly]; exact hy.sg h)
  have ivx : x.iv = sgz x.g (dv x.d) := rfl
  have ivy : y.iv = sgz y.g (dv y.d) := rfl
  rw [ivx, ivy]
  clear ivx ivy
  refine enter Try.func68 rfl (by kernel_rfl) ?_
  refine J.seq ?_
  refine J.region ?_
  refine L.boxA (l := [_, _]) rfl rfl ?_
  intro b1 w1 hb1 hs1 hk1 he1
  refine L.boxA (l := [_, _]) rfl rfl ?_
  intro b2 w2 hb2 hs2 hk2 he2
  have he02 := he1.trans he2
  have z2 := he02.le
  have hk1 := hk1.ext he2
  have c3 := rless01 x.A x.n x.c x.d y.A y.n y.c y.d w2 (N := N) (hx.r.ext he02) (hy.r.ext he02) lx ly (by omega) hx.dg hy.dg
  have c4 := rless01 y.A y.n y.c y.d x.A x.n x.c x.d w2 (N := N) (hy.r.ext he02) (hx.r.ext he02) ly lx (by omega) hy.dg hx.dg
  refine L.va rfl (X.assign (by conv => lhs; whnf)) ?_
  refine L.nil ?_
  refine J.seq ?_
  refine J.seq ?_
  refine J.region ?_
  refine L.va rfl (X.fieldAddr rfl Try.underlying80 rfl sz_4 (by decide)) ?_
  refine L.va rfl (X.load rfl sc_4 (by first | exact Ld.blk hk1 rfl | exact Ld.blk hk2 rfl)) ?_
  refine L.va rfl (X.fieldAddr rfl Try.underlying80 rfl sz_4 (by decide)) ?_
  refine L.va rfl (X.load rfl sc_4 (by first | exact Ld.blk hk1 rfl | exact Ld.blk hk2 rfl)) ?_
  refine L.va rfl (X.neqB rfl rfl Try.underlying4) ?_
  refine L.nil ?_
  generalize x.g = gx at *
  generalize y.g = gy at *
  cases gx
  · skip
    cases gy
    · refine J.iteF rfl ?_
      refine J.skip ?_
      refine J.seq ?_
      refine J.seq ?_
      refine J.region ?_
      refine L.va rfl (X.fieldAddr rfl Try.underlying80 rfl sz_4 (by decide)) ?_
      refine L.va rfl (X.load rfl sc_4 (by first | exact Ld.blk hk1 rfl | exact Ld.blk hk2 rfl)) ?_
      refine L.nil ?_
      refine J.iteF rfl ?_
      refine J.skip ?_
      refine J.seq ?_
      refine J.region ?_
      refine L.va rfl (X.fieldAddr rfl Try.underlying80 rfl sz_35 (by decide)) ?_
      refine L.va rfl (X.load rfl sc_35 (by first | exact Ld.blk hk1 rfl | exact Ld.blk hk2 rfl)) ?_
      refine L.va rfl (X.fieldAddr rfl Try.underlying80 rfl sz_35 (by decide)) ?_
      refine L.va rfl (X.load rfl sc_35 (by first | exact Ld.blk hk1 rfl | exact Ld.blk hk2 rfl)) ?_
      refine L.call rfl en_63 rfl (c3) ?_
      rintro e _ ⟨⟨kc, rfl, hkc⟩, rfl⟩
      refine ⟨_, rfl, ?_⟩
      refine L.va rfl (X.assign (by conv => lhs; whnf)) ?_
      refine L.nil ?_
      refine J.ret ?_
      refine fin1 ?_
      exact ⟨⟨kc, rfl, hkc⟩, he02⟩
    · refine J.iteT rfl ?_
      refine J.seq ?_
      refine J.seq ?_
      refine J.region ?_
      refine L.va rfl (X.fieldAddr rfl Try.underlying80 rfl sz_4 (by decide)) ?_
      refine L.va rfl (X.load rfl sc_4 (by first | exact Ld.blk hk1 rfl | exact Ld.blk hk2 rfl)) ?_
      refine L.nil ?_
      refine J.iteF rfl ?_
      refine J.skip ?_
      refine J.seq ?_
      refine J.region ?_
      refine L.va rfl (X.assign (by conv => lhs; whnf)) ?_
      refine L.nil ?_
      refine J.ret ?_
      refine thn_ret <| ?_
      refine fin1 ?_
      have := py rfl
      exact ⟨⟨1, rfl, .gt (by unfold sgz; simp; omega)⟩, he02⟩
  · skip
    cases gy
    · refine J.iteT rfl ?_
      refine J.seq ?_
      refine J.seq ?_
      refine J.region ?_
      refine L.va rfl (X.fieldAddr rfl Try.underlying80 rfl sz_4 (by decide)) ?_
      refine L.va rfl (X.load rfl sc_4 (by first | exact Ld.blk hk1 rfl | exact Ld.blk hk2 rfl)) ?_
      refine L.nil ?_
      refine J.iteT rfl ?_
      refine J.seq ?_
      refine J.region ?_
      refine L.va rfl (X.assign (by conv => lhs; whnf)) ?_
      refine L.nil ?_
      refine J.ret ?_
      refine thn_ret <|  thn_ret <| ?_
      refine fin1 ?_
      have := px rfl
      exact ⟨⟨-1, rfl, .lt (by unfold sgz; simp; omega)⟩, he02⟩
    · refine J.iteF rfl ?_
      refine J.skip ?_
      refine J.seq ?_
      refine J.seq ?_
      refine J.region ?_
      refine L.va rfl (X.fieldAddr rfl Try.underlying80 rfl sz_4 (by decide)) ?_
      refine L.va rfl (X.load rfl sc_4 (by first | exact Ld.blk hk1 rfl | exact Ld.blk hk2 rfl)) ?_
      refine L.nil ?_
      refine J.iteT rfl ?_
      refine J.seq ?_
      refine J.region ?_
      refine L.va rfl (X.fieldAddr rfl Try.underlying80 rfl sz_35 (by decide)) ?_
      refine L.va rfl (X.load rfl sc_35 (by first | exact Ld.blk hk1 rfl | exact Ld.blk hk2 rfl)) ?_
      refine L.va rfl (X.fieldAddr rfl Try.underlying80 rfl sz_35 (by decide)) ?_
      refine L.va rfl (X.load rfl sc_35 (by first | exact Ld.blk hk1 rfl | exact Ld.blk hk2 rfl)) ?_
      refine L.call rfl en_63 rfl (c4) ?_
      rintro e _ ⟨⟨kc, rfl, hkc⟩, rfl⟩
      refine ⟨_, rfl, ?_⟩
      refine L.va rfl (X.assign (by conv => lhs; whnf)) ?_
      refine L.nil ?_
      refine J.ret ?_
      refine thn_ret <| ?_
      refine fin1 ?_
      exact ⟨⟨kc, rfl, ⟨hkc.1.trans (by unfold sgz; simp), hkc.2.trans (by unfold sgz; simp)⟩⟩, he02⟩
end Go.Proofs.Ytnndkepnabddgaa
namespace Go.Proofs.Ytnndkepnabddgaa
set_option maxRecDepth 100000
open Go.RowKit H
open Num
set_option linter.unusedVariables false
namespace H
section
variable {P : Program} {f : Operand → Value} {w : World} {d : Option Tmp} {ty : TypeId} {pos : String} {aft : Array Edge} {g : Option (Nat × Bool)} {x : Operand} {t : TypeId} {m : Int}
theorem X.negI (hx : f x = .int .i64 m) (h : -9223372036854775808 ≤ -m ∧ -m ≤ 9223372036854775807) : (execOp f ⟨d, .unOp .neg t x, ty, pos, aft, g⟩).run P w = .ok (.value (.int .i64 (-m))) w := by
  rw [X.negw hx, show 0 - m = -m by omega, w64 h]
end
end H
theorem Nu.Own.at {t : Nu} {N : Nat} {w w' : World} (h : t.Own N w') (k : t.At w.heap.size w) : t.At w'.heap.size w' := ⟨Reads.of_own h, k.dg, k.cn, k.sg, k.cp, k.sm⟩
theorem rnatZ (z : Int) (w : World) (hz : 0 ≤ z ∧ z < 18446744073709551616) : Calls Try.prog 66 #[.int .u64 z] w fun e w' => ∃ t : Nu, e = .returned t.val ∧ t.g = false ∧ t.At w'.heap.size w' ∧ dv t.d = z ∧ t.n ≤ 7 ∧ t.Own w.heap.size w' ∧ Ext w w' := by
  obtain ⟨n, rfl⟩ := Int.eq_ofNat_of_zero_le hz.1
  exact rnat n w (by omega)
theorem rof (z : Int) (w : World) (hz : In64 z) : Calls Try.prog 58 #[.int .i64 z] w fun e w' => ∃ t : Nu, e = .returned t.val ∧ t.At w'.heap.size w' ∧ t.iv = z ∧ t.n ≤ 8 ∧ t.Own w.heap.size w' ∧ Ext w w' := by
  unfold In64 at hz
  refine enter Try.func58 rfl (by kernel_rfl) ?_
  refine J.seq ?_
  refine J.region ?_
  refine L.alloc rfl zr_80 ?_
  intro b1 w1 hb1 hs1 hk1 he1
  refine L.nil ?_
  refine J.seq ?_
  refine J.seq ?_
  refine J.region ?_
  refine L.va rfl (X.move (by conv => lhs; whnf)) ?_
  refine L.va rfl (X.lss rfl rfl) ?_
  refine L.nil ?_
  refine J.dec rfl (fun hneg => ?_) (fun hneg => ?_)
  ·
    refine J.seq ?_
    refine J.region ?_
    refine L.va rfl (X.move (by conv => lhs; whnf)) ?_
    refine L.va rfl (X.add rfl rfl (by omega)) ?_
    refine L.va rfl (X.negI rfl (by omega)) ?_
    refine L.va rfl ((by first | exact X.convU rfl is_2 Try.underlying44 (by omega) | exact X.convw rfl is_2 Try.underlying44)) ?_
    refine L.call rfl en_66 rfl ((rnatZ (-(z + 1)) w1 (by omega))) ?_
    rintro e w2 ⟨p, rfl, hpg, hpA, hpv, hpn, _, he2⟩
    refine ⟨_, rfl, ?_⟩
    have he2 : Ext w1 w2 := he2
    refine L.call rfl en_66 rfl ((rnatZ 1 w2 (by decide))) ?_
    rintro e w3 ⟨q, rfl, hqg, hqA, hqv, hqn, _, he3⟩
    refine ⟨_, rfl, ?_⟩
    have he3 : Ext w2 w3 := he3
    have hpA := (hpA.ext he3).more he3.le
    have c4 := raddS (x := p) (y := q) (w := w3) (Nat.le_refl _) hpA hqA (by omega)
    refine L.call rfl en_36 rfl (c4) ?_
    rintro e w4 ⟨r, rfl, hrA, hrv, hrn, hrO, he4⟩
    refine ⟨_, rfl, ?_⟩
    have he4 : Ext w3 w4 := he4
    have hrv : r.iv = -(z + 1) + 1 := by
      rw [hrv]
      show sgz p.g (dv p.d) + sgz q.g (dv q.d) = _
      rw [hpg, hqg, hpv, hqv]
      rfl
    have hrg : r.g = false := by
      cases h : r.g with
      | false => rfl
      | true =>
        have h1 := dv_pos hrA.dg hrA.cn (by rw [hrA.len]; exact hrA.sg h)
        have : r.iv = -dv r.d := by show sgz r.g (dv r.d) = _; rw [h]; rfl
        omega
    have hrd : dv r.d = -z := by
      have : r.iv = dv r.d := by show sgz r.g (dv r.d) = _; rw [hrg]; rfl
      omega
    have c5 := rneg (x := r) (w := w4) (Nat.le_refl _) hrA
    refine L.call rfl en_67 rfl (c5) ?_
    rintro e w5 ⟨rfl, tA, he5⟩
    refine ⟨_, rfl, ?_⟩
    have he5 : Ext w4 w5 := he5
    have he15 := ((he2.trans he3).trans he4).trans he5
    have hk5 := hk1.ext he15
    have hrO5 := hrO.ext he5
    refine L.storeAgg (vs := [_, _]) rfl rfl rfl rfl sz_80 (hk5) rfl ?_
    intro w6 hk6 hg6 hs6
    have he6 : Ext w w6 := (he1.trans he15).grw hg6 (by intro g hg; injection hg with hg; omega)
    have hO6 : r.Own w3.heap.size w6 := hrO5.kept hg6 (.inr (own_blk_ne hrO5 hk5 (by decide)))
    have zz : w.heap.size ≤ w3.heap.size := ((he1.trans he2).trans he3).le
    refine L.nil ?_
    refine J.ret ?_
    refine thn_ret <| ?_
    refine finC rfl (run_cell hk6 Try.underlying80 rfl (by kernel_rfl)) ?_
    refine ⟨Nu.mk (!r.g && decide (0 < r.n)) r.A r.n r.c r.d, rfl, ⟨Reads.of_own hO6, tA.dg, tA.cn, tA.sg, tA.cp, tA.sm⟩, ?_, by show r.n ≤ 8; omega, own_lowN hO6 zz, he6⟩
    have e := iv_made tA (g := !r.g) rfl
    rw [e, hrg]
    show -dv r.d = z
    omega
  · refine J.skip ?_
    refine J.seq ?_
    refine J.region ?_
    refine L.va rfl (X.move (by conv => lhs; whnf)) ?_
    refine L.va rfl ((by first | exact X.convU rfl is_2 Try.underlying44 (by omega) | exact X.convw rfl is_2 Try.underlying44)) ?_
    refine L.call rfl en_66 rfl ((rnatZ z w1 (by omega))) ?_
    rintro e w2 ⟨p, rfl, hpg, hpA, hpv, hpn, hpO, he2⟩
    refine ⟨_, rfl, ?_⟩
    have he2 : Ext w1 w2 := he2
    have hk2 := hk1.ext he2
    refine L.storeAgg (vs := [_, _]) rfl rfl rfl rfl sz_80 (hk2) rfl ?_
    intro w3 hk3 hg3 hs3
    have he3 : Ext w w3 := (he1.trans he2).grw hg3 (by intro g hg; injection hg with hg; omega)
    have hO3 : p.Own w1.heap.size w3 := hpO.kept hg3 (.inr (own_blk_ne hpO hk2 (by decide)))
    refine L.nil ?_
    refine J.ret ?_
    refine finC rfl (run_cell hk3 Try.underlying80 rfl (by kernel_rfl)) ?_
    refine ⟨p, rfl, ⟨Reads.of_own hO3, hpA.dg, hpA.cn, hpA.sg, hpA.cp, hpA.sm⟩, ?_, by omega, own_lowN hO3 he1.le, he3⟩
    show sgz p.g (dv p.d) = z
    rw [hpg, hpv]
    rfl
theorem ruint {x : Nu} {w : World} {N : Nat} (hx : x.At N w) (hN : N ≤ w.heap.size) (hb : dv x.d < 18446744073709551616) : Calls Try.prog 80 #[x.val] w fun e w' => e = .returned (.int .u64 (dv x.d)) ∧ Ext w w' := by
  have lx := hx.len
  have sx := hx.sm
  refine enter Try.func80 rfl (by kernel_rfl) ?_
  refine J.seq ?_
  refine J.region ?_
  refine L.boxA (l := [_, _]) rfl rfl ?_
  intro b1 w1 hb1 hs1 hk1 he1
  have hr1 := hx.r.ext he1
  refine L.va rfl (X.assign (by conv => lhs; whnf)) ?_
  refine L.nil ?_
  refine J.seq ?_
  refine J.region ?_
  refine L.va rfl (X.assign (by conv => lhs; whnf)) ?_
  refine L.nil ?_
  refine J.seq ?_
  refine J.seq ?_
  refine J.region ?_
  refine L.va rfl (X.fieldAddr rfl Try.underlying80 rfl sz_35 (by decide)) ?_
  refine L.va rfl (X.load rfl sc_35 (by first | exact Ld.blk hk1 rfl)) ?_
  refine L.va rfl (X.len rfl Try.underlying35) ?_
  refine L.va rfl (X.sub rfl rfl (by omega)) ?_
  refine L.va rfl (X.assign (by conv => lhs; whnf)) ?_
  refine L.nil ?_
  refine J.block ?_
  refine J.loop (X := Nat × Int) [3, 4, 9, 10, 11, 12, 13, 14, 15, 16, 17, 18, 19, 20, 21] (fun (k, v) => [(4, .int .i64 ((k : Int) - 1)), (3, .int .u64 v)]) (fun (k, v) w' => k ≤ x.n ∧ v = dv (x.d.drop k) ∧ w1 = w') (fun (k, v) => k) ((x.n, 0)) (At2 (by first | rfl | exact at_int rfl (by omega) | exact at_slice rfl (by omega) | exact at_int rfl (by simp)) (by first | rfl | exact at_int rfl (by omega) | exact at_slice rfl (by omega) | exact at_int rfl (by simp))) ?_ ?_
  · refine ⟨Nat.le_refl _, ?_, rfl⟩
    rw [List.drop_of_length_le (by omega)]
    rfl
  · rintro ⟨k, v⟩ g w2 ⟨hk, hv, rfl⟩
    refine J.seq ?_
    refine J.seq ?_
    refine J.region ?_
    refine L.va rfl (X.move (by conv => lhs; whnf)) ?_
    refine L.va rfl (X.geq rfl rfl) ?_
    refine L.nil ?_
    refine J.dec rfl (fun h0 => ?_) (fun h0 => ?_)
    · obtain ⟨i, rfl⟩ : ∃ i, k = i + 1 := ⟨k - 1, by omega⟩
      have hA := hr1.some_ (by omega)
      have gx := hx.dg i
      have h1 := dv_drop (d := x.d) i
      have n1 : 0 ≤ dv (x.d.drop (i + 1)) := dv_nn (dig_mem.2 fun z hz => (dig_mem.1 hx.dg) z (List.mem_of_mem_drop hz))
      have h2 : ∀ j, dv (x.d.drop j) ≤ dv x.d := fun j => by
        induction j with
        | zero => rw [List.drop_zero]; exact Int.le_refl _
        | succ j ih =>
          have h3 := dv_drop (d := x.d) j
          have h4 := hx.dg j
          have h5 : 0 ≤ dv (x.d.drop (j + 1)) := dv_nn (dig_mem.2 fun z hz => (dig_mem.1 hx.dg) z (List.mem_of_mem_drop hz))
          omega
      have h3 := h2 i
      refine J.skip ?_
      refine J.seq ?_
      refine J.block ?_
      refine J.region ?_
      refine L.va rfl (X.move (by conv => lhs; whnf)) ?_
      refine L.va rfl (X.mulU rfl rfl (by omega)) ?_
      refine L.va rfl (X.fieldAddr rfl Try.underlying80 rfl sz_35 (by decide)) ?_
      refine L.va rfl (X.load rfl sc_35 (by first | exact Ld.blk hk1 rfl | exact Ld.num hr1 (by omega))) ?_
      refine L.va rfl (X.move (by conv => lhs; whnf)) ?_
      refine L.va rfl (X.index1e (j := i) rfl rfl (by omega) Try.underlying35 sz_3 hA (by omega)) ?_
      refine L.va rfl (X.load rfl sc_3 (by first | exact Ld.blk hk1 rfl | exact Ld.num hr1 (by omega))) ?_
      refine L.va rfl ((by first | exact X.convU rfl is_3 Try.underlying44 (by omega) | exact X.convw rfl is_3 Try.underlying44)) ?_
      refine L.va rfl (X.addU rfl rfl (by omega)) ?_
      refine L.va rfl (X.assign (by conv => lhs; whnf)) ?_
      refine L.nil ?_
      refine J.region ?_
      refine L.va rfl (X.move (by conv => lhs; whnf)) ?_
      refine L.va rfl (X.sub rfl rfl (by omega)) ?_
      refine L.va rfl (X.assign (by conv => lhs; whnf)) ?_
      refine L.nil ?_
      refine ⟨(i, dv (x.d.drop i)), At2 (at_int rfl (by omega)) (at_int rfl (by omega)), (by (iterate 15 refine Agr.lk rfl ?_); exact Agr.lk rfl (Agr.hav rfl Agr.rfl')), ?_⟩
      exact ⟨⟨by omega, rfl, rfl⟩, by show i < i + 1; omega⟩
    · obtain rfl : k = 0 := by omega
      rw [List.drop_zero] at hv
      subst hv
      refine J.exit ?_
      refine J.seq ?_
      refine J.region ?_
      refine L.va rfl (X.move (by conv => lhs; whnf)) ?_
      refine L.va rfl (X.assign (by conv => lhs; whnf)) ?_
      refine L.nil ?_
      refine J.ret ?_
      refine fin1 ?_
      exact ⟨rfl, he1⟩
end Go.Proofs.Ytnndkepnabddgaa
namespace Go.Proofs.Ytnndkepnabddgaa
set_option maxRecDepth 100000
open Go.RowKit H
open Num
set_option linter.unusedVariables false
theorem iv_abs {t : Nu} {N : Nat} {w : World} (h : t.At N w) : dv t.d = (t.iv.natAbs : Int) := by
  have := dv_nn h.dg
  show _ = ((sgz t.g (dv t.d)).natAbs : Int)
  unfold sgz
  cases t.g <;> simp <;> omega
theorem rfits {x : Nu} {w : World} {N : Nat} (hN : N ≤ w.heap.size) (hx : x.At N w) : Calls Try.prog 59 #[x.val] w fun e w' => (∃ z : Bool, e = .returned (.bool z) ∧ (z = true ↔ In64 x.iv)) ∧ Ext w w' := by
  unfold In64
  refine enter Try.func59 rfl (by kernel_rfl) ?_
  refine J.seq ?_
  refine J.region ?_
  refine L.boxA (l := [_, _]) rfl rfl ?_
  intro b1 w1 hb1 hs1 hk1 he1
  refine L.va rfl (X.assign (by conv => lhs; whnf)) ?_
  refine L.nil ?_
  refine J.seq ?_
  refine J.draw (ℓ := 1000000) (S := Ext w1) mixed (fun w2 hS hS_h => ?_)
  have he2 := he1.trans hS
  refine D.va 0 rfl (by kernel_rfl) (fun _ _ _ h => h) rfl (fun w' hw => (by first | exact X.loadAgg rfl (range_l (hk1.ext hw)) Try.underlying80 rfl (by kernel_rfl) | exact X.loadAgg rfl (range_blk (hk1.ext hw)) Try.underlying80 rfl (by kernel_rfl))) hS ?_
  refine D.one 1 (by kernel_rfl) rfl ?_
  refine L.call rfl en_58 rfl ((rof (-9223372036854775808) w2 (by unfold In64; decide))) ?_
  rintro e w3 ⟨p, rfl, hpA, hpv, _, _, he3⟩
  refine ⟨_, rfl, ?_⟩
  have hS1 := hS.trans he3
  refine L.nil ?_
  refine ⟨fun _ => hS1, ?_⟩
  have he3 : Ext w2 w3 := he3
  have he03 := he2.trans he3
  have c4 := rcmp (x := x) (y := p) (w := w3) (Nat.le_refl _) ((hx.ext he03).more (by have := he03.le; omega)) hpA
  rw [hpv] at c4
  refine D.one 2 (by kernel_rfl) rfl ?_
  refine L.call rfl en_68 rfl (c4) ?_
  rintro e w4 ⟨⟨k, rfl, hk⟩, he4⟩
  refine ⟨_, rfl, ?_⟩
  have hS2 := (hS.trans he3).trans he4
  refine L.nil ?_
  refine ⟨fun _ => hS2, ?_⟩
  have he4 : Ext w3 w4 := he4
  have he04 := he03.trans he4
  refine D.va 3 rfl (by kernel_rfl) (fun _ _ _ h => h) rfl (fun w' hw => X.geq rfl rfl) hS2 ?_
  refine D.va 4 rfl (by kernel_rfl) (fun _ _ _ h => h) rfl (fun w' hw => X.move (by conv => lhs; whnf)) hS2 ?_
  refine D.caseDec (k := 7) rfl (fun h1 => ?_) (fun h1 => ?_)
  · refine D.va 5 rfl (by kernel_rfl) (fun _ _ _ h => h) rfl (fun w' hw => (by first | exact X.loadAgg rfl (range_l (hk1.ext hw)) Try.underlying80 rfl (by kernel_rfl) | exact X.loadAgg rfl (range_blk (hk1.ext hw)) Try.underlying80 rfl (by kernel_rfl))) hS2 ?_
    refine D.one 6 (by kernel_rfl) rfl ?_
    refine L.call rfl en_58 rfl ((rof 9223372036854775807 w4 (by unfold In64; decide))) ?_
    rintro e w5 ⟨q, rfl, hqA, hqv, _, _, he5⟩
    refine ⟨_, rfl, ?_⟩
    have hS3 := ((hS.trans he3).trans he4).trans he5
    refine L.nil ?_
    refine ⟨fun _ => hS3, ?_⟩
    have he5 : Ext w4 w5 := he5
    have he05 := he04.trans he5
    have c6 := rcmp (x := x) (y := q) (w := w5) (Nat.le_refl _) ((hx.ext he05).more (by have := he05.le; omega)) hqA
    rw [hqv] at c6
    refine D.one 7 (by kernel_rfl) rfl ?_
    refine L.call rfl en_68 rfl (c6) ?_
    rintro e w6 ⟨⟨j, rfl, hj⟩, he6⟩
    refine ⟨_, rfl, ?_⟩
    have hS4 := (((hS.trans he3).trans he4).trans he5).trans he6
    refine L.nil ?_
    refine ⟨fun _ => hS4, ?_⟩
    have he6 : Ext w5 w6 := he6
    have h1 : 0 ≤ k := by omega
    have a1 := hk.1
    have a2 := hj.2
    refine D.va 8 rfl (by kernel_rfl) (fun _ _ _ h => h) rfl (fun w' hw => X.leq rfl rfl) hS4 ?_
    refine D.va 9 rfl (by kernel_rfl) (fun _ _ _ h => h) rfl (fun w' hw => X.pickT rfl (by conv => lhs; whnf)) hS4 ?_
    refine D.va 10 rfl (by kernel_rfl) (fun _ _ _ h => h) rfl (fun w' hw => X.assign (by conv => lhs; whnf)) hS4 ?_
    refine D.done (by kernel_rfl) ?_
    replace hk1 := hk1.ext hS4
    refine J.ret ?_
    refine fin1 ?_
    refine ⟨⟨_, rfl, ?_⟩, he05.trans he6⟩
    rw [decide_eq_true_iff]
    constructor
    · intro h
      refine ⟨?_, ?_⟩
      · apply Decidable.byContradiction
        intro h'
        have := a1.2 (by omega)
        omega
      · apply Decidable.byContradiction
        intro h'
        have := a2.2 (by omega)
        omega
    · intro h
      apply Decidable.byContradiction
      intro h'
      have := a2.1 (by omega)
      omega
  · have a1 := hk.1
    refine D.no 5 rfl (by kernel_rfl) (fun _ _ _ h => h) rfl hS2 ?_
    refine D.no 6 rfl (by kernel_rfl) (fun _ _ _ h => h) rfl hS2 ?_
    refine D.no 7 rfl (by kernel_rfl) (fun _ _ _ h => h) rfl hS2 ?_
    refine D.no 8 rfl (by kernel_rfl) (fun _ _ _ h => h) rfl hS2 ?_
    refine D.va 9 rfl (by kernel_rfl) (fun _ _ _ h => h) rfl (fun w' hw => X.pickF rfl (by conv => lhs; whnf)) hS2 ?_
    refine D.va 10 rfl (by kernel_rfl) (fun _ _ _ h => h) rfl (fun w' hw => X.assign (by conv => lhs; whnf)) hS2 ?_
    refine D.done (by kernel_rfl) ?_
    replace hk1 := hk1.ext hS2
    refine J.ret ?_
    refine fin1 ?_
    refine ⟨⟨false, rfl, ?_⟩, he04⟩
    constructor
    · intro h; cases h
    · intro h
      have := a1.1 (by omega)
      omega
theorem rint {x : Nu} {w : World} {N : Nat} (hN : N ≤ w.heap.size) (hx : x.At N w) (hs : x.n ≤ 80000) (hi : In64 x.iv) : Calls Try.prog 60 #[x.val] w fun e w' => e = .returned (.int .i64 x.iv) ∧ Ext w w' := by
  unfold In64 at hi
  have ha := iv_abs hx
  have lx := hx.len
  have ei : x.iv = sgz x.g (dv x.d) := rfl
  refine enter Try.func60 rfl (by kernel_rfl) ?_
  refine J.seq ?_
  refine J.region ?_
  refine L.boxA (l := [_, _]) rfl rfl ?_
  intro b1 w1 hb1 hs1 hk1 he1
  refine L.va rfl (X.assign (by conv => lhs; whnf)) ?_
  refine L.nil ?_
  refine J.seq ?_
  refine J.seq ?_
  refine J.region ?_
  refine L.va rfl (X.fieldAddr rfl Try.underlying80 rfl sz_4 (by decide)) ?_
  refine L.va rfl (X.load rfl sc_4 (by first | exact Ld.blk hk1 rfl)) ?_
  refine L.nil ?_
  cases hg : x.g
  · have e : x.iv = dv x.d := by rw [ei, hg]; rfl
    refine J.iteF rfl ?_
    refine J.skip ?_
    refine J.seq ?_
    refine J.region ?_
    refine L.va rfl ((by first | exact X.loadAgg rfl (range_l hk1) Try.underlying80 rfl (by kernel_rfl) | exact X.loadAgg rfl (range_blk hk1) Try.underlying80 rfl (by kernel_rfl))) ?_
    have c2 := ruint (x := x) (w := w1) (hx.ext he1) (by have := he1.le; omega) (by omega)
    refine L.call rfl en_80 rfl (c2) ?_
    rintro e w2 ⟨rfl, he2⟩
    refine ⟨_, rfl, ?_⟩
    refine L.va rfl ((by first | exact X.convI rfl is_44 Try.underlying2 (by omega) | exact X.convw rfl is_44 Try.underlying2)) ?_
    refine L.va rfl (X.assign (by conv => lhs; whnf)) ?_
    refine L.nil ?_
    refine J.ret ?_
    refine fin1 ?_
    refine ⟨?_, he1.trans he2⟩
    rw [e]
    rfl
  · have e : x.iv = -dv x.d := by rw [ei, hg]; rfl
    have hpos := dv_pos hx.dg hx.cn (by rw [lx]; exact hx.sg hg)
    refine J.iteT rfl ?_
    refine J.seq ?_
    refine J.draw (ℓ := 1000000) (S := Ext w1) mixed (fun w2 hS hS_h => ?_)
    have he02 := he1.trans hS
    refine D.va 0 rfl (by kernel_rfl) (fun _ _ _ h => h) rfl (fun w' hw => (by first | exact X.loadAgg rfl (range_l (hk1.ext hw)) Try.underlying80 rfl (by kernel_rfl) | exact X.loadAgg rfl (range_blk (hk1.ext hw)) Try.underlying80 rfl (by kernel_rfl))) hS ?_
    refine D.one 1 (by kernel_rfl) rfl ?_
    refine L.call rfl en_66 rfl ((rnatZ 1 w2 (by decide))) ?_
    rintro e w3 ⟨q, rfl, hqg, hqA, hqv, hqn, _, he3⟩
    refine ⟨_, rfl, ?_⟩
    have hS1 := hS.trans he3
    refine L.nil ?_
    refine ⟨fun _ => hS1, ?_⟩
    have he3 : Ext w2 w3 := he3
    have he03 := he02.trans he3
    have c4 := raddS (x := x) (y := q) (w := w3) (Nat.le_refl _) ((hx.ext he03).more (by have := he03.le; omega)) hqA (by omega)
    refine D.one 2 (by kernel_rfl) rfl ?_
    refine L.call rfl en_36 rfl (c4) ?_
    rintro e w4 ⟨r, rfl, hrA, hrv, hrn, hrO, he4⟩
    refine ⟨_, rfl, ?_⟩
    have hS2 := (hS.trans he3).trans he4
    refine L.nil ?_
    refine ⟨fun _ => hS2, ?_⟩
    have he4 : Ext w3 w4 := he4
    have hq1 : q.iv = 1 := by
      show sgz q.g (dv q.d) = 1
      rw [hqg, hqv]
      rfl
    have hra := iv_abs hrA
    have hrd : dv r.d = dv x.d - 1 := by omega
    have c5 := ruint (x := r) (w := w4) hrA (Nat.le_refl _) (by omega)
    rw [hrd] at c5
    refine D.one 3 (by kernel_rfl) rfl ?_
    refine L.call rfl en_80 rfl (c5) ?_
    rintro e w5 ⟨rfl, he5⟩
    refine ⟨_, rfl, ?_⟩
    have hS3 := ((hS.trans he3).trans he4).trans he5
    refine L.nil ?_
    refine ⟨fun _ => hS3, ?_⟩
    have he5 : Ext w4 w5 := he5
    refine D.va 4 rfl (by kernel_rfl) (fun _ _ _ h => h) rfl (fun w' hw => (by first | exact X.convI rfl is_44 Try.underlying2 (by omega) | exact X.convw rfl is_44 Try.underlying2)) hS3 ?_
    refine D.va 5 rfl (by kernel_rfl) (fun _ _ _ h => h) rfl (fun w' hw => X.negI rfl (by omega)) hS3 ?_
    refine D.va 6 rfl (by kernel_rfl) (fun _ _ _ h => h) rfl (fun w' hw => X.sub rfl rfl (by omega)) hS3 ?_
    refine D.va 7 rfl (by kernel_rfl) (fun _ _ _ h => h) rfl (fun w' hw => X.assign (by conv => lhs; whnf)) hS3 ?_
    refine D.done (by kernel_rfl) ?_
    replace hk1 := hk1.ext hS3
    refine J.ret ?_
    refine thn_ret <| ?_
    refine fin1 ?_
    refine ⟨?_, ((he03.trans he4).trans he5)⟩
    rw [e, show -dv x.d = -(dv x.d - 1) - 1 by omega]
    rfl
theorem rroom (a b : Int) (w : World) (ha : In64 a) (hb : In64 b) : Calls Try.prog 35 #[.int .i64 a, .int .i64 b] w fun e w' => (∃ (p : Int) (q : Bool), e = .returned (.tuple #[.int .i64 p, .bool q]) ∧ (q = true → In64 (a + b) ∧ p = a + b) ∧ (q = false → ¬ In64 (a + b))) ∧ Ext w w' := by
  refine enter Try.func35 rfl (by kernel_rfl) ?_
  refine J.seq ?_
  refine J.region ?_
  refine L.va rfl (X.assign (by conv => lhs; whnf)) ?_
  refine L.va rfl (X.assign (by conv => lhs; whnf)) ?_
  refine L.nil ?_
  refine J.seq ?_
  refine J.region ?_
  refine L.va rfl (X.move (by conv => lhs; whnf)) ?_
  refine L.call rfl en_58 rfl ((rof a w ha)) ?_
  rintro e w1 ⟨x, rfl, hxA, hxv, hxn, _, he1⟩
  refine ⟨_, rfl, ?_⟩
  have he1 : Ext w w1 := he1
  refine L.va rfl (X.move (by conv => lhs; whnf)) ?_
  refine L.call rfl en_58 rfl ((rof b w1 hb)) ?_
  rintro e w2 ⟨y, rfl, hyA, hyv, hyn, _, he2⟩
  refine ⟨_, rfl, ?_⟩
  have he2 : Ext w1 w2 := he2
  have c3 := raddS (x := x) (y := y) (w := w2) (Nat.le_refl _) ((hxA.ext he2).more he2.le) hyA (by omega)
  rw [hxv, hyv] at c3
  refine L.call rfl en_36 rfl (c3) ?_
  rintro e w3 ⟨t, rfl, htA, htv, htn, _, he3⟩
  refine ⟨_, rfl, ?_⟩
  have he3 : Ext w2 w3 := he3
  have he03 := (he1.trans he2).trans he3
  refine L.alloc rfl zr_80 ?_
  intro b4 w4 hb4 hs4 hk4 he4
  refine L.storeAgg (vs := [_, _]) rfl rfl rfl rfl sz_80 (hk4) rfl ?_
  intro w5 hk5 hg5 hs5
  have he35 : Ext w3 w5 := he4.grw hg5 (by intro g hg; injection hg with hg; omega)
  have hk5 : Blk w5 b4 80 t.vs.toArray := hk5
  have he05 := he03.trans he35
  have htA5 := (htA.ext he35).more he35.le
  refine L.nil ?_
  refine J.seq ?_
  refine J.seq ?_
  refine J.region ?_
  refine L.va rfl (X.loadAgg rfl (range_l hk5) Try.underlying80 rfl (by kernel_rfl)) ?_
  have c6 := rfits (x := t) (w := w5) (Nat.le_refl _) htA5
  rw [htv] at c6
  refine L.call rfl en_59 rfl (c6) ?_
  rintro e w6 ⟨⟨z, rfl, hz⟩, he6⟩
  refine ⟨_, rfl, ?_⟩
  have he6 : Ext w5 w6 := he6
  have hk6 := hk5.ext he6
  refine L.va rfl (X.not rfl) ?_
  refine L.nil ?_
  cases z
  · refine J.iteT rfl ?_
    refine J.seq ?_
    refine J.region ?_
    refine L.va rfl (X.assign (by conv => lhs; whnf)) ?_
    refine L.va rfl (X.assign (by conv => lhs; whnf)) ?_
    refine L.nil ?_
    refine J.ret ?_
    refine thn_ret <| ?_
    refine fin2 ?_
    refine ⟨⟨0, false, rfl, (fun h => by cases h), fun _ h => ?_⟩, he05.trans he6⟩
    have := hz.2 h
    cases this
  · refine J.iteF rfl ?_
    refine J.skip ?_
    refine J.seq ?_
    refine J.region ?_
    refine L.va rfl (X.loadAgg rfl (range_l hk6) Try.underlying80 rfl (by kernel_rfl)) ?_
    have c7 := rint (x := t) (w := w6) (Nat.le_refl _) ((htA5.ext he6).more he6.le) (by omega) (by rw [htv]; exact hz.1 rfl)
    rw [htv] at c7
    refine L.call rfl en_60 rfl (c7) ?_
    rintro e w7 ⟨rfl, he7⟩
    refine ⟨_, rfl, ?_⟩
    refine L.va rfl (X.assign (by conv => lhs; whnf)) ?_
    refine L.va rfl (X.assign (by conv => lhs; whnf)) ?_
    refine L.nil ?_
    refine J.ret ?_
    refine fin2 ?_
    exact ⟨⟨a + b, true, rfl, fun _ => ⟨hz.1 rfl, rfl⟩, fun h => by cases h⟩, (he05.trans he6).trans he7⟩
theorem len_pow {t : Nu} {N : Nat} {w : World} (h : t.At N w) {n : Nat} (hv : dv t.d = 2 ^ n) : t.n ≤ n + 1 := by
  apply Decidable.byContradiction
  intro k
  have lt := h.len
  have h1 := dv_ge h.dg (h.cn (by omega))
  have h2 : (1000 : Int) ^ (n + 1) ≤ 1000 ^ (t.d.length - 1) := powD_le (by omega)
  have h3 : ∀ m : Nat, (2 : Int) ^ m < 1000 ^ (m + 1) := by
    intro m
    induction m with
    | zero => decide
    | succ m ih =>
      have hp : (0 : Int) < 1000 ^ (m + 1) := Int.pow_pos (by decide)
      rw [Int.pow_succ, Int.pow_succ (1000 : Int) (m + 1)]
      omega
  have h4 := h3 n
  omega
theorem rpow (n : Nat) : ∀ {x : Nu} {w : World} {N : Nat} (hN : N ≤ w.heap.size) (hx : x.At N w) (hg : x.g = false) (h2 : dv x.d = 2) (h7 : x.n ≤ 7) (hn : n ≤ 30000), Calls Try.prog 82 #[x.val, .int .i64 (n : Int)] w fun e w' => ∃ t : Nu, e = .returned t.val ∧ t.At w'.heap.size w' ∧ t.g = false ∧ dv t.d = 2 ^ n ∧ t.n ≤ n + 1 ∧ t.Own w.heap.size w' ∧ Ext w w' := by
  induction n using Nat.strongRecOn with
  | _ n ih =>
  intro x w N hN hx hg h2 h7 hn
  refine enter Try.func82 rfl (by kernel_rfl) ?_
  refine J.seq ?_
  refine J.region ?_
  refine L.boxA (l := [_, _]) rfl rfl ?_
  intro b1 w1 hb1 hs1 hk1 he1
  refine L.alloc rfl zr_80 ?_
  intro b2 w2 hb2 hs2 hk2 he2
  have he02 := he1.trans he2
  have hk12 := hk1.ext he2
  have z2 := he02.le
  refine L.nil ?_
  refine J.seq ?_
  refine J.seq ?_
  refine J.region ?_
  refine L.va rfl (X.move (by conv => lhs; whnf)) ?_
  refine L.va rfl (X.leq rfl rfl) ?_
  refine L.nil ?_
  refine J.dec rfl (fun h0 => ?_) (fun h0 => ?_)
  · have h0 : n = 0 := by omega
    subst h0
    refine J.seq ?_
    refine J.region ?_
    refine L.call rfl en_66 rfl ((rnatZ 1 w2 (by decide))) ?_
    rintro e w3 ⟨q, rfl, hqg, hqA, hqv, hqn, hqO, he3⟩
    refine ⟨_, rfl, ?_⟩
    have he3 : Ext w2 w3 := he3
    have hk3 := hk2.ext he3
    refine L.storeAgg (vs := [_, _]) rfl rfl rfl rfl sz_80 (hk3) rfl ?_
    intro w4 hk4 hg4 hs4
    have he4 : Ext w w4 := (he02.trans he3).grw hg4 (by intro g hg; injection hg with hg; omega)
    have hO4 : q.Own w2.heap.size w4 := hqO.kept hg4 (.inr (own_blk_ne hqO hk3 (by decide)))
    have hA4 : q.At w4.heap.size w4 := ⟨Reads.of_own hO4, hqA.dg, hqA.cn, hqA.sg, hqA.cp, hqA.sm⟩
    refine L.nil ?_
    refine J.ret ?_
    refine thn_ret <| ?_
    refine finC rfl (run_cell hk4 Try.underlying80 rfl (by kernel_rfl)) ?_
    exact ⟨q, rfl, hA4, hqg, hqv, len_pow hA4 (n := 0) hqv, own_lowN hO4 z2, he4⟩
  · have h0 : 0 < n := by omega
    have c3 := ih (n / 2) (by omega) (x := x) (w := w2) (N := N) (by omega) (hx.ext he02) hg h2 h7 (by omega)
    rw [show ((n / 2 : Nat) : Int) = (n : Int) / 2 by omega] at c3
    refine J.skip ?_
    refine J.seq ?_
    refine J.region ?_
    refine L.va rfl ((by first | exact X.loadAgg rfl (range_l hk12) Try.underlying80 rfl (by kernel_rfl) | exact X.loadAgg rfl (range_blk hk12) Try.underlying80 rfl (by kernel_rfl))) ?_
    refine L.va rfl (X.move (by conv => lhs; whnf)) ?_
    refine L.va rfl (X.quo rfl rfl (by omega)) ?_
    refine L.call rfl en_82 rfl (c3) ?_
    rintro e w3 ⟨h, rfl, hA3, hg3, hv3, hn3, _, he3⟩
    refine ⟨_, rfl, ?_⟩
    have he3 : Ext w2 w3 := he3
    have he03 := he02.trans he3
    refine L.alloc rfl zr_80 ?_
    intro b4 w4 hb4 hs4 hk4 he4
    refine L.storeAgg (vs := [_, _]) rfl rfl rfl rfl sz_80 (hk4) rfl ?_
    intro w5 hk5 hg5 hs5
    have he35 : Ext w3 w5 := he4.grw hg5 (by intro g hg; injection hg with hg; omega)
    have hk5 : Blk w5 b4 80 h.vs.toArray := hk5
    have hk15 := (hk12.ext he3).ext he35
    have hk25 := (hk2.ext he3).ext he35
    have he05 := he03.trans he35
    have z5 := he05.le
    have hA5 := (hA3.ext he35).more he35.le
    refine L.nil ?_
    refine J.seq ?_
    refine J.seq ?_
    refine J.region ?_
    refine L.va rfl (X.move (by conv => lhs; whnf)) ?_
    refine L.va rfl (X.rem rfl rfl (by omega)) ?_
    refine L.va rfl (X.eql rfl rfl) ?_
    refine L.nil ?_
    refine J.dec rfl (fun hodd => ?_) (fun hodd => ?_)
    · have ep : (2 : Int) ^ (n / 2) * 2 ^ (n / 2) * 2 = 2 ^ n := by
        rw [← Int.pow_add, ← Int.pow_succ]
        congr 1
        omega
      refine J.seq ?_
      refine J.draw (ℓ := 5) (S := Ext w5) mixed (fun w6 hS hS_h => ?_)
      have he06 := he05.trans hS
      have hA6 := (hA5.ext hS).more hS.le
      refine D.va 0 rfl (by kernel_rfl) (fun _ _ _ h => h) rfl (fun w' hw => X.loadAgg rfl (range_l (hk5.ext hw)) Try.underlying80 rfl (by kernel_rfl)) hS ?_
      refine D.va 1 rfl (by kernel_rfl) (fun _ _ _ h => h) rfl (fun w' hw => X.loadAgg rfl (range_l (hk5.ext hw)) Try.underlying80 rfl (by kernel_rfl)) hS ?_
      refine D.va 3 rfl (by kernel_rfl) (fun _ _ _ h => h) rfl (fun w' hw => X.loadAgg rfl (range_l (hk15.ext hw)) Try.underlying80 rfl (by kernel_rfl)) hS ?_
      have c7 := rmul (x := h) (y := h) (w := w6) (Nat.le_refl _) hA6 hA6 (by omega)
      refine D.one 2 (by kernel_rfl) rfl ?_
      refine L.call rfl en_65 rfl (c7) ?_
      rintro e w7 ⟨p, rfl, hpA, hpg, hpv, hpn, hpO, he7⟩
      refine ⟨_, rfl, ?_⟩
      have hS1 := hS.trans he7
      refine L.nil ?_
      refine ⟨fun _ => hS1, ?_⟩
      have he7 : Ext w6 w7 := he7
      have he07 := he06.trans he7
      have c8 := rmul (x := p) (y := x) (w := w7) (Nat.le_refl _) hpA ((hx.ext he07).more (by have := he07.le; omega)) (by omega)
      refine D.one 4 (by kernel_rfl) rfl ?_
      refine L.call rfl en_65 rfl (c8) ?_
      rintro e w8 ⟨t, rfl, htA, htg, htv, htn, htO, he8⟩
      refine ⟨_, rfl, ?_⟩
      have hS2 := (hS.trans he7).trans he8
      refine L.nil ?_
      refine ⟨fun _ => hS2, ?_⟩
      have he8 : Ext w7 w8 := he8
      have hk28 := hk25.ext ((hS.trans he7).trans he8)
      refine D.one 5 (by kernel_rfl) rfl ?_
      refine L.storeAgg (vs := [_, _]) rfl rfl rfl rfl sz_80 (hk28) rfl ?_
      intro w9 hk9 hg9 hs9
      refine L.nil ?_
      refine ⟨fun h => absurd rfl h, ?_⟩
      have he9 : Ext w w9 := (he07.trans he8).grw hg9 (by intro g hg; injection hg with hg; omega)
      have hO9 : t.Own w7.heap.size w9 := htO.kept hg9 (.inr (own_blk_ne htO hk28 (by decide)))
      have hA9 : t.At w9.heap.size w9 := ⟨Reads.of_own hO9, htA.dg, htA.cn, htA.sg, htA.cp, htA.sm⟩
      have hv9 : dv t.d = 2 ^ n := by rw [htv, hpv, hv3, h2, ep]
      have z7 := he07.le
      have hgp : p.g = false := by rw [hpg, hg3]; rfl
      refine D.done (by kernel_rfl) ?_
      refine J.ret ?_
      refine thn_ret <| ?_
      refine finC rfl (run_cell hk9 Try.underlying80 rfl (by kernel_rfl)) ?_
      exact ⟨t, rfl, hA9, by rw [htg, hgp, hg]; rfl, hv9, len_pow hA9 hv9, own_lowN hO9 z7, he9⟩
    · have ep : (2 : Int) ^ (n / 2) * 2 ^ (n / 2) = 2 ^ n := by
        rw [← Int.pow_add]
        congr 1
        omega
      refine J.skip ?_
      refine J.seq ?_
      refine J.region ?_
      refine L.va rfl (X.loadAgg rfl (range_l hk5) Try.underlying80 rfl (by kernel_rfl)) ?_
      refine L.va rfl (X.loadAgg rfl (range_l hk5) Try.underlying80 rfl (by kernel_rfl)) ?_
      have c7 := rmul (x := h) (y := h) (w := w5) (Nat.le_refl _) hA5 hA5 (by omega)
      refine L.call rfl en_65 rfl (c7) ?_
      rintro e w7 ⟨t, rfl, htA, htg, htv, htn, htO, he7⟩
      refine ⟨_, rfl, ?_⟩
      have he7 : Ext w5 w7 := he7
      have hk27 := hk25.ext he7
      refine L.storeAgg (vs := [_, _]) rfl rfl rfl rfl sz_80 (hk27) rfl ?_
      intro w9 hk9 hg9 hs9
      have he9 : Ext w w9 := (he05.trans he7).grw hg9 (by intro g hg; injection hg with hg; omega)
      have hO9 : t.Own w5.heap.size w9 := htO.kept hg9 (.inr (own_blk_ne htO hk27 (by decide)))
      have hA9 : t.At w9.heap.size w9 := ⟨Reads.of_own hO9, htA.dg, htA.cn, htA.sg, htA.cp, htA.sm⟩
      have hv9 : dv t.d = 2 ^ n := by rw [htv, hv3, ep]
      refine L.nil ?_
      refine J.ret ?_
      refine finC rfl (run_cell hk9 Try.underlying80 rfl (by kernel_rfl)) ?_
      exact ⟨t, rfl, hA9, by rw [htg, hg3]; rfl, hv9, len_pow hA9 hv9, own_lowN hO9 z5, he9⟩
theorem rtwo (n : Nat) (w : World) (hn : n ≤ 30000) : Calls Try.prog 69 #[.int .i64 (n : Int)] w fun e w' => ∃ t : Nu, e = .returned t.val ∧ t.At w'.heap.size w' ∧ t.g = false ∧ dv t.d = 2 ^ n ∧ t.n ≤ n + 1 ∧ t.Own w.heap.size w' ∧ Ext w w' := by
  refine enter Try.func69 rfl (by kernel_rfl) ?_
  refine J.seq ?_
  refine J.region ?_
  refine L.alloc rfl zr_80 ?_
  intro b1 w1 hb1 hs1 hk1 he1
  have z1 := he1.le
  refine L.nil ?_
  refine J.seq ?_
  refine J.region ?_
  refine L.call rfl en_66 rfl ((rnatZ 2 w1 (by decide))) ?_
  rintro e w2 ⟨q, rfl, hqg, hqA, hqv, hqn, _, he2⟩
  refine ⟨_, rfl, ?_⟩
  have he2 : Ext w1 w2 := he2
  have he02 := he1.trans he2
  have z2 := he02.le
  refine L.va rfl (X.move (by conv => lhs; whnf)) ?_
  have c3 := rpow n (x := q) (w := w2) (Nat.le_refl _) hqA hqg hqv (by omega) hn
  refine L.call rfl en_82 rfl (c3) ?_
  rintro e w3 ⟨t, rfl, htA, htg, htv, htn, htO, he3⟩
  refine ⟨_, rfl, ?_⟩
  have he3 : Ext w2 w3 := he3
  have hk3 := (hk1.ext he2).ext he3
  refine L.storeAgg (vs := [_, _]) rfl rfl rfl rfl sz_80 (hk3) rfl ?_
  intro w4 hk4 hg4 hs4
  have he4 : Ext w w4 := (he02.trans he3).grw hg4 (by intro g hg; injection hg with hg; omega)
  have hO4 : t.Own w2.heap.size w4 := htO.kept hg4 (.inr (own_blk_ne htO hk3 (by decide)))
  have hA4 : t.At w4.heap.size w4 := ⟨Reads.of_own hO4, htA.dg, htA.cn, htA.sg, htA.cp, htA.sm⟩
  refine L.nil ?_
  refine J.ret ?_
  refine finC rfl (run_cell hk4 Try.underlying80 rfl (by kernel_rfl)) ?_
  exact ⟨t, rfl, hA4, htg, htv, htn, own_lowN hO4 z2, he4⟩
end Go.Proofs.Ytnndkepnabddgaa
