/-
  Go's container/heap at any row of numbers that has the heap's methods: down, up, Init, Push, Pop, Fix.
-/
import Derived.Test.YtmnlaekcojblkaaHeapK
import Derived.Test.YtmnlaekcojblkaaLogic
import Derived.Test.YtmnlaekcojblkaaTyps
namespace Go.Proofs.Ytmnlaekcojblkaa
set_option maxRecDepth 100000
open Go.RowKit H HeapK
set_option linter.unusedVariables false
/-- a heap's methods: κ the key, T what a change touches, h what the heap is -/
structure HeapM (t : TypeId) (v : Value) (κ : Int → Int) (S : Nat → Prop) (h : World → List Int → Prop) : Prop where
  ext : ∀ {w w' : World} {l : List Int}, h w l → Ext w w' → h w' l
  big : ∀ {w : World} {l : List Int}, h w l → l.length ≤ 900000
  len : ∀ {w : World} {l : List Int}, h w l → ∃ rv c, Mtd Try.prog t v rv "Len" c w ∧ Calls Try.prog c #[rv] w fun e w' => e = .returned (.int .i64 (l.length : Int)) ∧ w = w'
  less : ∀ {w : World} {l : List Int} {i k : Nat}, h w l → i < l.length → k < l.length → ∃ rv c, Mtd Try.prog t v rv "Less" c w ∧ Calls Try.prog c #[rv, .int .i64 (i : Int), .int .i64 (k : Int)] w fun e w' => e = .returned (.bool (decide (κ (l.getD i 0) < κ (l.getD k 0)))) ∧ Ext w w'
  swap : ∀ {w : World} {l : List Int} {i k : Nat}, h w l → i < l.length → k < l.length → ∃ rv c, Mtd Try.prog t v rv "Swap" c w ∧ Calls Try.prog c #[rv, .int .i64 (i : Int), .int .i64 (k : Int)] w fun e w' => e = .returned (.tuple #[]) ∧ h w' (swp l i k) ∧ Chg S w w'
  pop : ∀ {w : World} {l : List Int}, h w l → 0 < l.length → ∃ rv c, Mtd Try.prog t v rv "Pop" c w ∧ Calls Try.prog c #[rv] w fun e w' => e = .returned (.iface 3 (.int .i64 (l.getD (l.length - 1) 0))) ∧ h w' (l.take (l.length - 1)) ∧ Chg S w w'
namespace HeapM
variable {t : TypeId} {v : Value} {κ : Int → Int} {S : Nat → Prop} {h : World → List Int → Prop}
theorem tr {a b c : World} (x : Chg S a b) (y : Chg S b c) : Chg S a c := x.trans y (fun _ _ hh => hh)
theorem down_ (K : HeapM t v κ S h) {w : World} {l : List Int} (h0 : h w l) (i n : Nat) (hn : n ≤ l.length) (hi : i ≤ l.length) : Calls Try.prog 137 #[.iface t v, .int .i64 (i : Int), .int .i64 (n : Int)] w fun e w' =>
    (∃ b, e = .returned (.bool b)) ∧ h w' (siftDk κ l.length l i n) ∧ Chg S w w' := by
  have hm := K.big h0
  refine enter Try.func137 rfl (by kernel_rfl) ?_
  refine J.seq ?_
  refine J.region ?_
  refine L.va rfl (X.assign (by conv => lhs; whnf)) ?_
  refine L.nil ?_
  refine J.seq ?_
  refine J.region ?_
  refine L.va rfl (X.move (by conv => lhs; whnf)) ?_
  refine L.va rfl (X.assign (by conv => lhs; whnf)) ?_
  refine L.nil ?_
  refine J.seq ?_
  refine J.block ?_
  -- loop
  refine J.loop (X := Nat × Nat × List Int) [7, 8, 9, 10, 12, 13, 14, 15, 16, 17, 18, 19, 20, 21, 22, 23, 24, 25, 26, 27, 28, 29, 30, 31, 32, 33, 34, 35, 36, 37, 38, 39, 40, 41, 42, 43, 44] (fun x => [(7, .int .i64 (x.1 : Int))]) (fun x w' => x.2.2.length = l.length ∧ x.1 ≤ l.length ∧ l.length ≤ x.1 + x.2.1 ∧ h w' x.2.2 ∧ Chg S w w' ∧ siftDk κ x.2.1 x.2.2 x.1 n = siftDk κ l.length l i n) (fun x => x.2.1) ((i, l.length, l)) (At1 (by first | rfl | exact at_int rfl (by omega) | exact at_slice rfl (by omega) | exact at_int rfl (by simp))) ?_ ?_
  · exact ⟨rfl, hi, by dsimp only; omega, h0, .of_ext (Ext.refl _), rfl⟩
  · rintro ⟨a, f, m⟩ g w2 ⟨hl, ha, hf, H, hG, hS⟩
    dsimp only at hl ha hf H hS
    have q1 : ((a, f, m) : Nat × Nat × List Int).1 = a := rfl
    refine J.block ?_
    refine J.seq ?_
    refine J.region ?_
    refine L.va rfl (X.move (by conv => lhs; whnf)) ?_
    refine L.va rfl (X.mul rfl rfl (by omega)) ?_
    refine L.va rfl (X.add rfl rfl (by omega)) ?_
    refine L.va rfl (X.assign (by conv => lhs; whnf)) ?_
    refine L.nil ?_
    refine J.seq ?_
    refine J.seq ?_
    refine J.region ?_
    refine L.va rfl (X.move (by conv => lhs; whnf)) ?_
    refine L.va rfl (X.move (by conv => lhs; whnf)) ?_
    refine L.va rfl (X.geq rfl rfl) ?_
    refine L.va rfl (X.move (by conv => lhs; whnf)) ?_
    -- case t18
    refine L.caseDec (k := 18) rfl (fun h1 => ?_) (fun h1 => ?_)
    · have e : siftDk κ f m a n = m := by
        cases f with
        | zero => rfl
        | succ f => unfold siftDk; rw [if_pos (by omega)]
      rw [e] at hS
      rw [hS] at H
      refine L.no rfl ?_
      refine L.no rfl ?_
      refine L.va rfl (X.pickT rfl (by conv => lhs; whnf)) ?_
      refine L.nil ?_
      -- cond
      refine J.iteT rfl ?_
      refine J.exit ?_
      refine J.seq ?_
      refine J.region ?_
      refine L.va rfl (X.move (by conv => lhs; whnf)) ?_
      refine L.va rfl (X.move (by conv => lhs; whnf)) ?_
      refine L.va rfl (X.gtr rfl rfl) ?_
      refine L.va rfl (X.assign (by conv => lhs; whnf)) ?_
      refine L.nil ?_
      -- ret
      refine J.ret ?_
      refine fin1 ?_
      exact ⟨⟨_, rfl⟩, H, hG⟩
    · have h1' : 2 * a + 1 < n := by omega
      obtain ⟨f', rfl⟩ : ∃ f', f = f' + 1 := ⟨f - 1, by omega⟩
      obtain ⟨p1, p2, p3⟩ := pickCk_lt (κ := κ) (l := m) h1'
      have eS : siftDk κ (f' + 1) m a n = if κ (m.getD (pickCk κ m a n) 0) < κ (m.getD a 0) then siftDk κ f' (swp m a (pickCk κ m a n)) (pickCk κ m a n) n else m := by
        rw [siftDk, if_neg (by omega)]
      rw [eS] at hS
      refine L.va rfl (X.move (by conv => lhs; whnf)) ?_
      refine L.va rfl (X.lss rfl rfl) ?_
      refine L.va rfl (X.pickF rfl (by conv => lhs; whnf)) ?_
      refine L.nil ?_
      -- cond
      refine J.decF rfl (by omega) ?_
      refine J.skip ?_
      refine J.seq ?_
      refine J.region ?_
      refine L.va rfl (X.move (by conv => lhs; whnf)) ?_
      refine L.va rfl (X.assign (by conv => lhs; whnf)) ?_
      refine L.nil ?_
      -- until
      refine J.cut (X := Unit) [9, 10, 23, 24, 25, 26, 27, 28, 29, 30, 31, 32, 33, 34] (fun _ => [(9, .int .i64 ((pickCk κ m a n : Nat) : Int))]) (fun _ w' => Ext w2 w') ?_ ?_
      · refine J.seq ?_
        refine J.region ?_
        refine L.va rfl (X.move (by conv => lhs; whnf)) ?_
        refine L.va rfl (X.add rfl rfl (by omega)) ?_
        refine L.va rfl (X.assign (by conv => lhs; whnf)) ?_
        refine L.nil ?_
        refine J.seq ?_
        refine J.region ?_
        refine L.va rfl (X.move (by conv => lhs; whnf)) ?_
        refine L.va rfl (X.move (by conv => lhs; whnf)) ?_
        refine L.va rfl (X.lss rfl rfl) ?_
        refine L.va rfl (X.move (by conv => lhs; whnf)) ?_
        -- case t28
        refine L.caseDec (k := 28) rfl (fun h2 => ?_) (fun h2 => ?_)
        · have h2' : 2 * a + 2 < n := by omega
          obtain ⟨rv, c, hM, hC⟩ := K.less (i := 2 * a + 2) (k := 2 * a + 1) H (by omega) (by omega)
          refine L.va rfl (X.move (by conv => lhs; whnf)) ?_
          refine L.va rfl (X.move (by conv => lhs; whnf)) ?_
          refine L.va rfl (X.move (by conv => lhs; whnf)) ?_
          -- invoke
          refine L.invoke rfl rfl (hM) rfl (hC) ?_
          rintro e w3 ⟨rfl, he3⟩
          refine ⟨_, rfl, ?_⟩
          have he3 : Ext w2 w3 := he3
          refine L.va rfl (X.pickT rfl (by conv => lhs; whnf)) ?_
          refine L.nil ?_
          -- cond
          by_cases h3 : κ (m.getD (2 * a + 2) 0) < κ (m.getD (2 * a + 1) 0)
          · rw [decide_eq_true h3]
            refine J.iteT rfl ?_
            refine J.region ?_
            refine L.va rfl (X.move (by conv => lhs; whnf)) ?_
            refine L.va rfl (X.assign (by conv => lhs; whnf)) ?_
            refine L.nil ?_
            -- cutend
            refine ⟨(), At1 (at_int rfl (by rw [pickCk, if_pos ⟨h2', h3⟩]; omega)), (by (iterate 15 refine Agr.lk rfl ?_); exact Agr.rfl'), ?_⟩
            exact he3
          · rw [decide_eq_false h3]
            refine J.iteF rfl ?_
            refine J.skip ?_
            -- cutend
            refine ⟨(), At1 (at_int rfl (by rw [pickCk, if_neg (fun hh => h3 hh.2)]; omega)), (by (iterate 13 refine Agr.lk rfl ?_); exact Agr.rfl'), ?_⟩
            exact he3
        · refine L.no rfl ?_
          refine L.no rfl ?_
          refine L.no rfl ?_
          refine L.no rfl ?_
          refine L.va rfl (X.pickF rfl (by conv => lhs; whnf)) ?_
          refine L.nil ?_
          -- cond
          refine J.iteF rfl ?_
          refine J.skip ?_
          -- cutend
          refine ⟨(), At1 (at_int rfl (by rw [pickCk, if_neg (fun hh => by omega)]; omega)), (by (iterate 13 refine Agr.lk rfl ?_); exact Agr.rfl'), ?_⟩
          exact Ext.refl _
      · rintro ⟨⟩ g w3 he3
        have H3 := K.ext H he3
        generalize pickCk κ m a n = j at *
        obtain ⟨rv, c, hM, hC⟩ := K.less (i := j) (k := a) H3 (by omega) (by omega)
        refine J.seq ?_
        refine J.seq ?_
        refine J.region ?_
        refine L.va rfl (X.move (by conv => lhs; whnf)) ?_
        refine L.va rfl (X.move (by conv => lhs; whnf)) ?_
        refine L.va rfl (X.move (by conv => lhs; whnf)) ?_
        -- invoke
        refine L.invoke rfl rfl (hM) rfl (hC) ?_
        rintro e w4 ⟨rfl, he4⟩
        refine ⟨_, rfl, ?_⟩
        have he4 : Ext w3 w4 := he4
        have H4 := K.ext H3 he4
        refine L.va rfl (X.not rfl) ?_
        refine L.nil ?_
        -- cond
        by_cases h3 : κ (m.getD j 0) < κ (m.getD a 0)
        · rw [decide_eq_true h3]
          rw [if_pos h3] at hS
          obtain ⟨rv, c, hM, hC⟩ := K.swap (i := a) (k := j) H4 (by omega) (by omega)
          refine J.iteF rfl ?_
          refine J.skip ?_
          refine J.seq ?_
          refine J.region ?_
          refine L.va rfl (X.move (by conv => lhs; whnf)) ?_
          refine L.va rfl (X.move (by conv => lhs; whnf)) ?_
          refine L.va rfl (X.move (by conv => lhs; whnf)) ?_
          -- invoke
          refine L.invoke rfl rfl (hM) rfl (hC) ?_
          rintro e w5 ⟨rfl, H5, hg5⟩
          refine ⟨_, rfl, ?_⟩
          refine L.nil ?_
          refine J.region ?_
          refine L.va rfl (X.move (by conv => lhs; whnf)) ?_
          refine L.va rfl (X.assign (by conv => lhs; whnf)) ?_
          refine L.nil ?_
          -- loopend
          refine ⟨(j, f', swp m a j), At1 (by first | rfl | exact at_int rfl (by omega) | exact at_slice rfl (by omega) | exact at_int rfl (by simp)), (by (iterate 11 refine Agr.lk rfl ?_); refine Agr.lk rfl ?_; refine Agr.hav rfl ?_; (iterate 14 refine Agr.lk rfl ?_); exact Agr.lk rfl (Agr.hav rfl Agr.rfl')), ?_⟩
          exact ⟨⟨by dsimp only; rw [swp_length]; exact hl, by dsimp only; omega, by dsimp only; omega, H5, tr hG (tr (.of_ext (he3.trans he4)) hg5), hS⟩, by dsimp only; omega⟩
        · rw [decide_eq_false h3]
          rw [if_neg h3] at hS
          rw [hS] at H4
          refine J.iteT rfl ?_
          refine J.exit ?_
          refine J.seq ?_
          refine J.region ?_
          refine L.va rfl (X.move (by conv => lhs; whnf)) ?_
          refine L.va rfl (X.move (by conv => lhs; whnf)) ?_
          refine L.va rfl (X.gtr rfl rfl) ?_
          refine L.va rfl (X.assign (by conv => lhs; whnf)) ?_
          refine L.nil ?_
          -- ret
          refine J.ret ?_
          refine fin1 ?_
          exact ⟨⟨_, rfl⟩, H4, tr hG (.of_ext (he3.trans he4))⟩
theorem up_ (K : HeapM t v κ S h) {w : World} {l : List Int} (h0 : h w l) (j : Nat) (hj : j < l.length) : Calls Try.prog 136 #[.iface t v, .int .i64 (j : Int)] w fun e w' =>
    e = .returned (.tuple #[]) ∧ h w' (siftUk κ (j + 1) l j) ∧ Chg S w w' := by
  have hm := K.big h0
  refine enter Try.func136 rfl (by kernel_rfl) ?_
  refine J.block ?_
  -- loop
  refine J.loop (X := Nat × Nat × List Int) [1, 4, 5, 6, 7, 8, 9, 10, 11, 12, 13, 14, 15, 16, 17, 18, 19, 20, 21, 22] (fun x => [(1, .int .i64 (x.1 : Int))]) (fun x w' => x.2.2.length = l.length ∧ x.1 < l.length ∧ x.1 < x.2.1 ∧ h w' x.2.2 ∧ Chg S w w' ∧ siftUk κ x.2.1 x.2.2 x.1 = siftUk κ (j + 1) l j) (fun x => x.2.1) ((j, j + 1, l)) (At1 (by first | rfl | exact at_int rfl (by omega) | exact at_slice rfl (by omega) | exact at_int rfl (by simp))) ?_ ?_
  · exact ⟨rfl, hj, by dsimp only; omega, h0, .of_ext (Ext.refl _), rfl⟩
  · rintro ⟨a, f, m⟩ g w2 ⟨hl, ha, hf, H, hG, hS⟩
    dsimp only at hl ha hf H hS
    have q1 : ((a, f, m) : Nat × Nat × List Int).1 = a := rfl
    obtain ⟨f', rfl⟩ : ∃ f', f = f' + 1 := ⟨f - 1, by omega⟩
    have eS : siftUk κ (f' + 1) m a = if a = 0 ∨ ¬ κ (m.getD a 0) < κ (m.getD ((a - 1) / 2) 0) then m else siftUk κ f' (swp m ((a - 1) / 2) a) ((a - 1) / 2) := by rw [siftUk]
    rw [eS] at hS
    have hdiv : ((a : Int) - 1).tdiv 2 = (((a - 1) / 2 : Nat) : Int) := by
      rcases Nat.eq_zero_or_pos a with h0 | h0
      · subst h0; rfl
      · rw [Int.tdiv_eq_ediv_of_nonneg (by omega)]; omega
    have hwr : IntKind.i64.wrap (((a - 1) / 2 : Nat) : Int) = (((a - 1) / 2 : Nat) : Int) := w64 (by omega)
    -- t7
    refine J.block ?_
    refine J.seq ?_
    refine J.region ?_
    refine L.va rfl (X.move (by conv => lhs; whnf)) ?_
    refine L.va rfl (X.sub rfl rfl (by omega)) ?_
    refine L.va rfl (X.quow rfl rfl (by decide)) ?_
    refine L.va rfl (X.assign (by conv => lhs; whnf)) ?_
    refine L.nil ?_
    -- until
    rw [hdiv, hwr]
    refine J.seq ?_
    refine J.seq ?_
    refine J.region ?_
    refine L.va rfl (X.move (by conv => lhs; whnf)) ?_
    refine L.va rfl (X.move (by conv => lhs; whnf)) ?_
    refine L.va rfl (X.eql rfl rfl) ?_
    refine L.va rfl (X.move (by conv => lhs; whnf)) ?_
    -- case t11
    by_cases h0 : a = 0
    · rw [if_pos (.inl h0)] at hS
      rw [hS] at H
      refine L.caseDecT (k := 11) rfl (by omega) ?_
      refine L.no rfl ?_
      refine L.no rfl ?_
      refine L.no rfl ?_
      refine L.no rfl ?_
      refine L.no rfl ?_
      refine L.va rfl (X.pickT rfl (by conv => lhs; whnf)) ?_
      refine L.nil ?_
      -- cond
      refine J.iteT rfl ?_
      refine J.exit ?_
      refine thn_exit <| inB_ne rfl <| thn_exit <| inB_eq ?_
      -- end
      refine fin0 (.inr rfl) ?_
      exact ⟨rfl, H, hG⟩
    · obtain ⟨rv, c, hM, hC⟩ := K.less (i := a) (k := (a - 1) / 2) H (by omega) (by omega)
      refine L.caseDecF (k := 11) rfl (by omega) ?_
      refine L.va rfl (X.move (by conv => lhs; whnf)) ?_
      refine L.va rfl (X.move (by conv => lhs; whnf)) ?_
      refine L.va rfl (X.move (by conv => lhs; whnf)) ?_
      -- invoke
      refine L.invoke rfl rfl (hM) rfl (hC) ?_
      rintro e w4 ⟨rfl, he4⟩
      refine ⟨_, rfl, ?_⟩
      have he4 : Ext w2 w4 := he4
      have H4 := K.ext H he4
      refine L.va rfl (X.not rfl) ?_
      refine L.va rfl (X.pickF rfl (by conv => lhs; whnf)) ?_
      refine L.nil ?_
      -- cond
      by_cases h3 : κ (m.getD a 0) < κ (m.getD ((a - 1) / 2) 0)
      · rw [decide_eq_true h3]
        rw [if_neg (by rintro (h | h) <;> contradiction)] at hS
        obtain ⟨rv, c, hM, hC⟩ := K.swap (i := (a - 1) / 2) (k := a) H4 (by omega) (by omega)
        refine J.iteF rfl ?_
        refine J.skip ?_
        refine J.seq ?_
        refine J.region ?_
        refine L.va rfl (X.move (by conv => lhs; whnf)) ?_
        refine L.va rfl (X.move (by conv => lhs; whnf)) ?_
        refine L.va rfl (X.move (by conv => lhs; whnf)) ?_
        -- invoke
        refine L.invoke rfl rfl (hM) rfl (hC) ?_
        rintro e w5 ⟨rfl, H5, hg5⟩
        refine ⟨_, rfl, ?_⟩
        refine L.nil ?_
        refine J.region ?_
        refine L.va rfl (X.move (by conv => lhs; whnf)) ?_
        refine L.va rfl (X.assign (by conv => lhs; whnf)) ?_
        refine L.nil ?_
        -- loopend
        refine ⟨((a - 1) / 2, f', swp m ((a - 1) / 2) a), At1 (by first | rfl | exact at_int rfl (by omega) | exact at_slice rfl (by omega) | exact at_int rfl (by simp)), (by (iterate 21 refine Agr.lk rfl ?_); exact Agr.lk rfl (Agr.hav rfl Agr.rfl')), ?_⟩
        exact ⟨⟨by dsimp only; rw [swp_length]; exact hl, by dsimp only; omega, by dsimp only; omega, H5, tr hG (tr (.of_ext he4) hg5), hS⟩, by dsimp only; omega⟩
      · rw [decide_eq_false h3]
        rw [if_pos (.inr h3)] at hS
        rw [hS] at H4
        refine J.iteT rfl ?_
        refine J.exit ?_
        refine thn_exit <| inB_ne rfl <| thn_exit <| inB_eq ?_
        -- end
        refine fin0 (.inr rfl) ?_
        exact ⟨rfl, H4, tr hG (.of_ext he4)⟩
theorem init_ (K : HeapM t v κ S h) {w : World} {l : List Int} (h0 : h w l) : Calls Try.prog 93 #[.iface t v] w fun e w' =>
    e = .returned (.tuple #[]) ∧ h w' (initHk κ l (l.length / 2)) ∧ Chg S w w' := by
  have hm := K.big h0
  have e0 : ((l.length : Nat) : Int) / 2 = ((l.length / 2 : Nat) : Int) := by omega
  obtain ⟨rv, c, hM, hC⟩ := K.len h0
  refine enter Try.func93 rfl (by kernel_rfl) ?_
  refine J.seq ?_
  refine J.region ?_
  refine L.va rfl (X.move (by conv => lhs; whnf)) ?_
  -- invoke
  refine L.invoke rfl rfl (hM) rfl (hC) ?_
  rintro e _ ⟨rfl, rfl⟩
  refine ⟨_, rfl, ?_⟩
  refine L.va rfl (X.assign (by conv => lhs; whnf)) ?_
  refine L.nil ?_
  refine J.seq ?_
  refine J.region ?_
  refine L.va rfl (X.move (by conv => lhs; whnf)) ?_
  refine L.va rfl (X.quo rfl rfl (by omega)) ?_
  refine L.va rfl (X.sub rfl rfl (by omega)) ?_
  refine L.va rfl (X.assign (by conv => lhs; whnf)) ?_
  refine L.nil ?_
  refine J.block ?_
  -- loop
  refine J.loop (X := Nat × List Int) [3, 9, 10, 11, 12, 13, 14, 15, 16] (fun x => [(3, .int .i64 ((x.1 : Int) - 1))]) (fun x w' => x.1 ≤ l.length ∧ x.2.length = l.length ∧ h w' x.2 ∧ Chg S w w' ∧ initHk κ x.2 x.1 = initHk κ l (l.length / 2)) (fun x => x.1) ((l.length / 2, l)) (At1 (by first | rfl | exact at_int rfl (by omega) | exact at_slice rfl (by omega) | exact at_int rfl (by simp))) ?_ ?_
  · exact ⟨by dsimp only; omega, rfl, h0, .of_ext (Ext.refl _), rfl⟩
  · rintro ⟨k, m⟩ g w2 ⟨hk, hl, H, hG, hS⟩
    dsimp only at hk hl H hS
    have q1 : ((k, m) : Nat × List Int).1 = k := rfl
    refine J.seq ?_
    refine J.seq ?_
    refine J.region ?_
    refine L.va rfl (X.move (by conv => lhs; whnf)) ?_
    refine L.va rfl (X.geq rfl rfl) ?_
    refine L.nil ?_
    -- cond
    refine J.dec rfl (fun hge => ?_) (fun hge => ?_)
    · obtain ⟨k', rfl⟩ : ∃ k', k = k' + 1 := ⟨k - 1, by dsimp only at hge; omega⟩
      have ek : ((k' + 1 : Nat) : Int) - 1 = (k' : Int) := by omega
      have cD := K.down_ H k' l.length (by omega) (by omega)
      rw [← ek] at cD
      refine J.skip ?_
      refine J.seq ?_
      refine J.block ?_
      refine J.region ?_
      refine L.va rfl (X.move (by conv => lhs; whnf)) ?_
      refine L.va rfl (X.move (by conv => lhs; whnf)) ?_
      refine L.va rfl (X.move (by conv => lhs; whnf)) ?_
      -- callfn container/heap.down
      refine L.call rfl en_137 rfl (cD) ?_
      rintro e w3 ⟨⟨b, rfl⟩, H3, hg3⟩
      refine ⟨_, rfl, ?_⟩
      refine L.nil ?_
      refine J.region ?_
      refine L.va rfl (X.move (by conv => lhs; whnf)) ?_
      refine L.va rfl (X.sub rfl rfl (by omega)) ?_
      refine L.va rfl (X.assign (by conv => lhs; whnf)) ?_
      refine L.nil ?_
      -- loopend
      refine ⟨(k', siftDk κ m.length m k' l.length), At1 (by first | rfl | exact at_int rfl (by omega) | exact at_slice rfl (by omega) | exact at_int rfl (by simp)), (by (iterate 9 refine Agr.lk rfl ?_); exact Agr.lk rfl (Agr.hav rfl Agr.rfl')), ?_⟩
      refine ⟨⟨by dsimp only; omega, by dsimp only; rw [siftDk_length]; exact hl, H3, tr hG hg3, ?_⟩, by dsimp only; omega⟩
      rw [← hS]
      show initHk κ (siftDk κ m.length m k' l.length) k' = initHk κ (siftDk κ m.length m k' m.length) k'
      rw [hl]
    · obtain rfl : k = 0 := by dsimp only at hge; omega
      have e : m = initHk κ l (l.length / 2) := hS
      rw [e] at H
      refine J.exit ?_
      refine thn_exit <| thn_exit <| inB_eq ?_
      -- end
      refine fin0 (.inr rfl) ?_
      exact ⟨rfl, H, hG⟩
theorem pop_ (K : HeapM t v κ S h) {w : World} {l : List Int} (h0 : h w l) (hpos : 0 < l.length) : Calls Try.prog 90 #[.iface t v] w fun e w' =>
    e = .returned (.iface 3 (.int .i64 (l.getD 0 0))) ∧ h w' ((siftDk κ l.length (swp l 0 (l.length - 1)) 0 (l.length - 1)).take (l.length - 1)) ∧ Chg S w w' := by
  have hm := K.big h0
  have hl1 : (swp l 0 (l.length - 1)).length = l.length := swp_length _ _ _
  have en : ((l.length : Nat) : Int) - 1 = ((l.length - 1 : Nat) : Int) := by omega
  obtain ⟨rv, c, hM, hC⟩ := K.len h0
  obtain ⟨rv1, d1, hM1, hC1⟩ := K.swap (i := 0) (k := l.length - 1) h0 (by omega) (by omega)
  rw [← en] at hC1
  refine enter Try.func90 rfl (by kernel_rfl) ?_
  refine J.seq ?_
  refine J.region ?_
  refine L.va rfl (X.assign (by conv => lhs; whnf)) ?_
  refine L.nil ?_
  refine J.seq ?_
  refine J.region ?_
  refine L.va rfl (X.move (by conv => lhs; whnf)) ?_
  -- invoke
  refine L.invoke rfl rfl (hM) rfl (hC) ?_
  rintro e _ ⟨rfl, rfl⟩
  refine ⟨_, rfl, ?_⟩
  refine L.va rfl (X.sub rfl rfl (by omega)) ?_
  refine L.va rfl (X.assign (by conv => lhs; whnf)) ?_
  refine L.nil ?_
  refine J.seq ?_
  refine J.region ?_
  refine L.va rfl (X.move (by conv => lhs; whnf)) ?_
  refine L.va rfl (X.move (by conv => lhs; whnf)) ?_
  -- invoke
  refine L.invoke rfl rfl (hM1) rfl (hC1) ?_
  rintro e w1 ⟨rfl, H1, hg1⟩
  refine ⟨_, rfl, ?_⟩
  have c2 := K.down_ H1 0 (l.length - 1) (by omega) (by omega)
  rw [← en] at c2
  refine L.nil ?_
  refine J.seq ?_
  refine J.region ?_
  refine L.va rfl (X.move (by conv => lhs; whnf)) ?_
  refine L.va rfl (X.move (by conv => lhs; whnf)) ?_
  -- callfn container/heap.down
  refine L.call rfl en_137 rfl (c2) ?_
  rintro e w2 ⟨⟨b, rfl⟩, H2, hg2⟩
  refine ⟨_, rfl, ?_⟩
  rw [hl1] at H2
  have hl2 : (siftDk κ l.length (swp l 0 (l.length - 1)) 0 (l.length - 1)).length = l.length := by rw [siftDk_length, swp_length]
  obtain ⟨rv3, d3, hM3, c3⟩ := K.pop H2 (by omega)
  rw [hl2, siftDk_past _ _ _ _ (by omega) _ (Nat.le_refl _), swp_at l (by omega) (by omega), if_pos rfl] at c3
  refine L.nil ?_
  refine J.seq ?_
  refine J.region ?_
  refine L.va rfl (X.move (by conv => lhs; whnf)) ?_
  -- invoke
  refine L.invoke rfl rfl (hM3) rfl (c3) ?_
  rintro e w3 ⟨rfl, H3, hg3⟩
  refine ⟨_, rfl, ?_⟩
  refine L.va rfl (X.assign (by conv => lhs; whnf)) ?_
  refine L.nil ?_
  -- ret
  refine J.ret ?_
  refine fin1 ?_
  exact ⟨rfl, H3, tr (tr hg1 hg2) hg3⟩
theorem fix_ (K : HeapM t v κ S h) {w : World} {l : List Int} (h0 : h w l) (hpos : 0 < l.length) : Calls Try.prog 89 #[.iface t v, .int .i64 0] w fun e w' =>
    e = .returned (.tuple #[]) ∧ h w' (siftDk κ l.length l 0 l.length) ∧ Chg S w w' := by
  have hm := K.big h0
  obtain ⟨rv, c, hM, hC⟩ := K.len h0
  have c2 := K.down_ h0 0 l.length (Nat.le_refl _) (by omega)
  refine enter Try.func89 rfl (by kernel_rfl) ?_
  refine J.seq ?_
  refine J.region ?_
  refine L.va rfl (X.move (by conv => lhs; whnf)) ?_
  refine L.va rfl (X.move (by conv => lhs; whnf)) ?_
  refine L.va rfl (X.move (by conv => lhs; whnf)) ?_
  -- invoke
  refine L.invoke rfl rfl (hM) rfl (hC) ?_
  rintro e _ ⟨rfl, rfl⟩
  refine ⟨_, rfl, ?_⟩
  -- callfn container/heap.down
  refine L.call rfl en_137 rfl (c2) ?_
  rintro e w2 ⟨⟨b, rfl⟩, H2, hg2⟩
  refine ⟨_, rfl, ?_⟩
  have c3 := K.up_ H2 0 (by rw [siftDk_length]; exact hpos)
  rw [show siftUk κ (0 + 1) (siftDk κ l.length l 0 l.length) 0 = siftDk κ l.length l 0 l.length from by rw [siftUk, if_pos (.inl rfl)]] at c3
  refine L.va rfl (X.not rfl) ?_
  refine L.nil ?_
  -- cond
  cases b
  · refine J.iteT rfl ?_
    refine J.region ?_
    refine L.va rfl (X.move (by conv => lhs; whnf)) ?_
    refine L.va rfl (X.move (by conv => lhs; whnf)) ?_
    -- callfn container/heap.up
    refine L.call rfl en_136 rfl (c3) ?_
    rintro e w3 ⟨rfl, H3, hg3⟩
    refine ⟨_, rfl, ?_⟩
    refine L.nil ?_
    -- end
    refine fin0 (.inr rfl) ?_
    exact ⟨rfl, H3, tr hg2 hg3⟩
  · refine J.iteF rfl ?_
    refine J.skip ?_
    -- end
    refine fin0 (.inr rfl) ?_
    exact ⟨rfl, H2, hg2⟩
theorem push_ {ι : Type} {h : ι → World → List Int → Prop} {S : ι → Nat → Prop} (K : ∀ a, HeapM t v κ (S a) (h a)) {a : ι} {w : World} {l : List Int} {x : Int} (h0 : h a w l)
    (hP : ∃ rv c, Mtd Try.prog t v rv "Push" c w ∧ Calls Try.prog c #[rv, .iface 3 (.int .i64 x)] w fun e w' => e = .returned (.tuple #[]) ∧ ∃ a', h a' w' (l ++ [x]) ∧ Chg (S a) w w' ∧ ∀ g, g < w.heap.size → S a' g → S a g) :
    Calls Try.prog 87 #[.iface t v, .iface 3 (.int .i64 x)] w fun e w' =>
    e = .returned (.tuple #[]) ∧ ∃ a', h a' w' (siftUk κ (l.length + 1) (l ++ [x]) l.length) ∧ Chg (S a) w w' ∧ ∀ g, g < w.heap.size → S a' g → S a g := by
  have hl : (l ++ [x]).length = l.length + 1 := by simp
  obtain ⟨rv, c, hM, hC⟩ := hP
  refine enter Try.func87 rfl (by kernel_rfl) ?_
  refine J.seq ?_
  refine J.region ?_
  refine L.va rfl (X.move (by conv => lhs; whnf)) ?_
  refine L.va rfl (X.move (by conv => lhs; whnf)) ?_
  -- invoke
  refine L.invoke rfl rfl (hM) rfl (hC) ?_
  rintro e w1 ⟨rfl, a', H1, K1, hA1⟩
  refine ⟨_, rfl, ?_⟩
  obtain ⟨rv2, c2, hM2, hC2⟩ := (K a').len H1
  have hb := (K a').big H1
  refine L.nil ?_
  refine J.region ?_
  refine L.va rfl (X.move (by conv => lhs; whnf)) ?_
  refine L.va rfl (X.move (by conv => lhs; whnf)) ?_
  -- invoke
  refine L.invoke rfl rfl (hM2) rfl (hC2) ?_
  rintro e _ ⟨rfl, rfl⟩
  refine ⟨_, rfl, ?_⟩
  have cU := (K a').up_ H1 l.length (by omega)
  rw [show ((l.length : Nat) : Int) = (((l ++ [x]).length : Nat) : Int) - 1 by omega] at cU
  refine L.va rfl (X.sub rfl rfl (by omega)) ?_
  -- callfn container/heap.up
  refine L.call rfl en_136 rfl (cU) ?_
  rintro e w2 ⟨rfl, H2, hg2⟩
  refine ⟨_, rfl, ?_⟩
  refine L.nil ?_
  -- end
  refine fin0 (.inr rfl) ?_
  exact ⟨rfl, a', H2, K1.trans hg2 hA1, hA1⟩
end HeapM
end Go.Proofs.Ytmnlaekcojblkaa
