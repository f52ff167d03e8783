import Derived.Test.YtpomklkfedpkfaaZDiffPatches2
/-
  What the law leans on, part 3: WPatC, LDiffPatches.
-/
namespace Go.Proofs.Ytpomklkfedpkfaa
set_option maxRecDepth 100000
open Go.RowKit H
open Dfp
set_option linter.unusedVariables false
def PatQ (la : List Ce) (l : List (Int × Int)) (lb : List Ce) (w : World) (e : Ending) (w' : World) : Prop :=
  ∃ t : Ces, e = .returned (.tuple #[t.val, .int .i64 (patE la l lb)]) ∧ t.At w'.heap.size w' ∧ t.n ≤ 1000 ∧ (∀ x ∈ t.l, x.Lt) ∧ (patE la l lb ≠ 0 → t.l = []) ∧ (patE la l lb = 0 → Pat la lb l t.l) ∧ Ext w w'
theorem PatQ.none_ {la lb : List Ce} {l : List (Int × Int)} {w w' : World} {e : Ending} {z : Int} (hz : patE la l lb = z) (h0 : z ≠ 0) (he : e = .returned (.tuple #[.slice none 0 0, .int .i64 z])) (hx : Ext w w') : PatQ la l lb w e w' :=
  ⟨⟨none, 0, 0, []⟩, by rw [he, hz], ⟨Reads.of_own (own_nil w' 0 0 4), (fun x hx => by cases hx), rfl, Nat.zero_le _⟩, Nat.zero_le _, (fun x hx => by cases hx), fun _ => rfl, fun h => absurd (hz.symm.trans h) h0, hx⟩
abbrev Lacks (la lb : List Ce) (x : Int × Int) : Prop := (x.2 ≠ 2 ∧ hasK la x.1 = false) ∨ (x.2 ≠ 1 ∧ hasK lb x.1 = false)
theorem fault_11 {la lb : List Ce} {x : Int × Int} (h : Lacks la lb x) : fault la lb x = 11 := if_pos h
theorem fault_9 {la lb : List Ce} {x : Int × Int} (h : ¬ Lacks la lb x) (h2 : x.2 = 2 ∧ hasK la x.1 = true) : fault la lb x = 9 := by unfold fault; rw [if_neg h, if_pos h2]
theorem fault_0 {la lb : List Ce} {x : Int × Int} (h : ¬ Lacks la lb x) (h2 : ¬ (x.2 = 2 ∧ hasK la x.1 = true)) : fault la lb x = 0 := by unfold fault; rw [if_neg h, if_neg h2]
theorem lacks_no {la lb : List Ce} {x : Int × Int} (h1 : x.2 = 2 ∨ hasK la x.1 = true) (h2 : x.2 = 1 ∨ hasK lb x.1 = true) : ¬ Lacks la lb x := by
  rintro (⟨a, b⟩ | ⟨a, b⟩)
  · rcases h1 with h | h
    · exact a h
    · rw [h] at b; cases b
  · rcases h2 with h | h
    · exact a h
    · rw [h] at b; cases b
structure KeepI (la : List Ce) (l : List (Int × Int)) (i : Nat) (o : List Ce) : Prop where
  ris : RisC o
  mem : ∀ c, c ∈ o ↔ c ∈ la.take i ∧ ∀ q ∈ l, q.1 ≠ c.key
structure PutI (la lb : List Ce) (l : List (Int × Int)) (k : Nat) (o : List Ce) : Prop where
  ris : RisC o
  mem : ∀ c, c ∈ o ↔ (c ∈ la ∧ ∀ q ∈ l, q.1 ≠ c.key) ∨ (c ∈ lb ∧ ∃ q ∈ l.take k, q.1 = c.key ∧ q.2 ≠ 1)
section
variable {la lb : List Ce} {l : List (Int × Int)} {i k : Nat} {o : List Ce}
theorem KeepI.fits (h : KeepI la l i o) (ha : RisC la) (hi : i < la.length) : ∀ q ∈ o, q.key ≠ (la.getD i ce0).key := fun q hq => by
  have := (risC_cut ha hi).1 q ((h.mem q).1 hq).1
  omega
theorem KeepI.keep (h : KeepI la l i o) (ha : RisC la) (hi : i < la.length) (hk : ∀ q ∈ l, q.1 ≠ (la.getD i ce0).key) : KeepI la l (i + 1) (insE o (la.getD i ce0)) := by
  obtain ⟨h1, h2⟩ := insE_ok (p := la.getD i ce0) h.ris (h.fits ha hi)
  refine ⟨h1, fun c => ?_⟩
  rw [h2, h.mem, take_one hi, List.mem_append, List.mem_singleton]
  constructor
  · rintro (⟨a, b⟩ | rfl)
    · exact ⟨.inl a, b⟩
    · exact ⟨.inr rfl, hk⟩
  · rintro ⟨a | rfl, b⟩
    · exact .inl ⟨a, b⟩
    · exact .inr rfl
theorem KeepI.drop (h : KeepI la l i o) (hi : i < la.length) {q : Int × Int} (hq : q ∈ l) (hk : q.1 = (la.getD i ce0).key) : KeepI la l (i + 1) o := by
  refine ⟨h.ris, fun c => ?_⟩
  rw [h.mem, take_one hi, List.mem_append, List.mem_singleton]
  constructor
  · rintro ⟨a, b⟩
    exact ⟨.inl a, b⟩
  · rintro ⟨a | rfl, b⟩
    · exact ⟨a, b⟩
    · exact absurd hk (b q hq)
theorem KeepI.all (h : KeepI la l la.length o) : PutI la lb l 0 o := ⟨h.ris, fun c => by rw [h.mem, List.take_length]; simp⟩
theorem PutI.fits (h : PutI la lb l k o) (hl : Ris l) (hk : k < l.length) : ∀ q ∈ o, q.key ≠ (l.getD k (0, 0)).1 := fun q hq => by
  rcases (h.mem q).1 hq with ⟨_, h1⟩ | ⟨_, p, hp, e, _⟩
  · exact fun e => h1 _ (memD (d := (0, 0)) hk) e.symm
  · have := (ris_cut hl hk).1 p hp
    omega
theorem PutI.put (h : PutI la lb l k o) (hb : RisC lb) (hl : Ris l) (hk : k < l.length) {y : Ce} (hy : y ∈ lb) (e : y.key = (l.getD k (0, 0)).1) (hx : (l.getD k (0, 0)).2 ≠ 1) : PutI la lb l (k + 1) (insE o y) := by
  obtain ⟨h1, h2⟩ := insE_ok (p := y) h.ris (by rw [e]; exact h.fits hl hk)
  have hone : ∀ z ∈ lb, z.key = y.key → z = y := fun z hz e => by
    obtain ⟨m, hm, rfl⟩ := List.getElem_of_mem hz
    obtain ⟨k, hk', rfl⟩ := List.getElem_of_mem hy
    rcases Nat.lt_trichotomy m k with h | rfl | h
    · have := List.pairwise_iff_getElem.1 hb m k hm hk' h
      omega
    · rfl
    · have := List.pairwise_iff_getElem.1 hb k m hk' hm h
      omega
  refine ⟨h1, fun c => ?_⟩
  rw [h2, h.mem, take_oneL hk]
  constructor
  · rintro ((a | ⟨a, q, hq, b⟩) | rfl)
    · exact .inl a
    · exact .inr ⟨a, q, List.mem_append_left _ hq, b⟩
    · exact .inr ⟨hy, _, List.mem_append_right _ (by simp), e.symm, hx⟩
  · rintro (a | ⟨a, q, hq, b1, b2⟩)
    · exact .inl (.inl a)
    · rcases List.mem_append.1 hq with h4 | h4
      · exact .inl (.inr ⟨a, q, h4, b1, b2⟩)
      · rw [List.mem_singleton] at h4
        subst h4
        exact .inr (hone c a (by omega))
theorem PutI.skip (h : PutI la lb l k o) (hk : k < l.length) (hx : (l.getD k (0, 0)).2 = 1) : PutI la lb l (k + 1) o := by
  refine ⟨h.ris, fun c => ?_⟩
  rw [h.mem, take_oneL hk]
  constructor
  · rintro (a | ⟨a, q, hq, b⟩)
    · exact .inl a
    · exact .inr ⟨a, q, List.mem_append_left _ hq, b⟩
  · rintro (a | ⟨a, q, hq, b1, b2⟩)
    · exact .inl a
    · rcases List.mem_append.1 hq with h4 | h4
      · exact .inr ⟨a, q, h4, b1, b2⟩
      · rw [List.mem_singleton] at h4
        subst h4
        exact absurd hx b2
theorem PutI.all (h : PutI la lb l l.length o) : Pat la lb l o := ⟨h.ris, fun c => by rw [h.mem, List.take_length]⟩
end
theorem rpatch {w : World} {N : Nat} (hN : N ≤ w.heap.size) (A : Option Addr) (c : Nat) (la : List Ce) (hra : Reads w N 4 A la.length (la.flatMap Ce.vs)) (P : Option Addr) (pc : Nat) (l : List (Int × Int)) (hrl : Reads w N 2 P l.length (l.flatMap chV)) (B : Option Addr) (d : Nat) (lb : List Ce) (hrb : Reads w N 4 B lb.length (lb.flatMap Ce.vs)) (hm : la.length ≤ 200 ∧ l.length ≤ 200 ∧ lb.length ≤ 200)
    (hLa : ∀ x ∈ la, x.At N w ∧ x.Lt) (hLb : ∀ x ∈ lb, x.At N w ∧ x.Lt) :
    Calls Try.prog 13 #[.slice A la.length c, .slice P l.length pc, .slice B lb.length d] w (PatQ la l lb w) := by
  refine enter Try.func13 rfl (by kernel_rfl) ?_
  refine J.seq ?_
  refine J.region ?_
  refine L.va rfl (X.assign (by conv => lhs; whnf)) ?_
  refine L.va rfl (X.assign (by conv => lhs; whnf)) ?_
  refine L.nil ?_
  refine J.seq ?_
  refine J.seq ?_
  refine J.region ?_
  refine L.va rfl (X.move (by conv => lhs; whnf)) ?_
  have c1 := rrising15 A c la hra hN (by omega)
  cases h1 : rise la
  · rw [h1] at c1
    refine L.call rfl en_23 rfl (c1) ?_
    rintro e w1 ⟨rfl, he1⟩
    refine ⟨_, rfl, ?_⟩
    refine L.va rfl (X.not rfl) ?_
    refine L.va rfl (X.move (by conv => lhs; whnf)) ?_
    refine L.caseBT (k := 19) rfl (by rfl) ?_
    refine L.no rfl ?_
    refine L.no rfl ?_
    refine L.no rfl ?_
    refine L.va rfl (X.pickT rfl (by conv => lhs; whnf)) ?_
    refine L.nil ?_
    refine J.iteT rfl ?_
    refine J.seq ?_
    refine J.region ?_
    refine L.va rfl (X.assign (by conv => lhs; whnf)) ?_
    refine L.va rfl (X.assign (by conv => lhs; whnf)) ?_
    refine L.nil ?_
    refine J.ret ?_
    refine thn_ret <| ?_
    refine fin2 ?_
    exact PatQ.none_ (patE_1 (by rw [h1]; rfl)) (by decide) rfl he1
  · rw [h1] at c1
    refine L.call rfl en_23 rfl (c1) ?_
    rintro e w1 ⟨rfl, he1⟩
    refine ⟨_, rfl, ?_⟩
    have he1 : Ext w w1 := he1
    have c2 := rrising15 (w := w1) B d lb (hrb.low (Below.mono he1 hN) (Nat.le_refl _)) (by have := he1.le; omega) (by omega)
    refine L.va rfl (X.not rfl) ?_
    refine L.va rfl (X.move (by conv => lhs; whnf)) ?_
    refine L.caseBF (k := 19) rfl (by rfl) ?_
    refine L.va rfl (X.move (by conv => lhs; whnf)) ?_
    cases h2 : rise lb
    · rw [h2] at c2
      refine L.call rfl en_23 rfl (c2) ?_
      rintro e w2 ⟨rfl, he2⟩
      refine ⟨_, rfl, ?_⟩
      refine L.va rfl (X.not rfl) ?_
      refine L.va rfl (X.pickF rfl (by conv => lhs; whnf)) ?_
      refine L.nil ?_
      refine J.iteT rfl ?_
      refine J.seq ?_
      refine J.region ?_
      refine L.va rfl (X.assign (by conv => lhs; whnf)) ?_
      refine L.va rfl (X.assign (by conv => lhs; whnf)) ?_
      refine L.nil ?_
      refine J.ret ?_
      refine thn_ret <| ?_
      refine fin2 ?_
      exact PatQ.none_ (patE_1 (by rw [h1, h2]; rfl)) (by decide) rfl (he1.trans he2)
    · rw [h2] at c2
      refine L.call rfl en_23 rfl (c2) ?_
      rintro e w2 ⟨rfl, he2⟩
      refine ⟨_, rfl, ?_⟩
      have he2 : Ext w1 w2 := he2
      have he02 := he1.trans he2
      have Ra := ris_of h1
      have Rb := ris_of h2
      refine L.va rfl (X.not rfl) ?_
      refine L.va rfl (X.pickF rfl (by conv => lhs; whnf)) ?_
      refine L.nil ?_
      refine J.iteF rfl ?_
      refine J.skip ?_
      refine J.cut (X := Unit) [6, 7, 8, 24, 25, 26, 27, 28, 29, 30, 31, 32, 33, 34, 35, 36, 37, 38, 39, 40, 41, 42, 43, 44, 45, 46, 47, 48, 49, 50, 51, 52, 53, 54, 55, 56, 57, 58, 59, 60, 61] (fun _ => []) (fun _ w' => riseC l = true ∧ (∀ j, j < l.length → okK (l.getD j (0, 0)) = true) ∧ Ext w w') ?_ ?_
      · refine J.seq ?_
        refine J.region ?_
        refine L.va rfl (X.assign (by conv => lhs; whnf)) ?_
        refine L.nil ?_
        refine J.block ?_
        refine J.loop (X := Nat) [6, 7, 8, 24, 25, 26, 27, 28, 29, 30, 31, 32, 33, 34, 35, 36, 37, 38, 39, 40, 41, 42, 43, 44, 45, 46, 47, 48, 49, 50, 51, 52, 53, 54, 55, 56, 57, 58, 59, 60, 61] (fun i => [(8, .int .i64 (i : Int))]) (fun i w' => i ≤ l.length ∧ (∀ j, j < i → okK (l.getD j (0, 0)) = true) ∧ (∀ j, j + 1 < i → (l.getD j ((0, 0) : Int × Int)).1 < (l.getD (j + 1) ((0, 0) : Int × Int)).1) ∧ Ext w w') (fun i => l.length - i) (0) (At1 (by first | rfl | exact at_int rfl (by omega) | exact at_slice rfl (by omega) | exact at_int rfl (by simp))) ?_ ?_
        · exact ⟨Nat.zero_le _, fun j hj => absurd hj (by omega), fun j hj => absurd hj (by omega), he02⟩
        · rintro i g w4 ⟨hi, hK, hR, he4⟩
          have z4 := he4.le
          refine J.seq ?_
          refine J.seq ?_
          refine J.region ?_
          refine L.va rfl (X.move (by conv => lhs; whnf)) ?_
          refine L.va rfl (X.move (by conv => lhs; whnf)) ?_
          refine L.va rfl (X.len rfl Try.underlying29) ?_
          refine L.va rfl (X.lss rfl rfl) ?_
          refine L.nil ?_
          refine J.dec rfl (fun hlt => ?_) (fun hlt => ?_)
          · have hin : i < l.length := by omega
            have hr4 := hrl.low (Below.mono he4 hN) (Nat.le_refl _)
            have hA := hr4.some_ (by omega)
            have gx := gtC hin
            obtain ⟨x, hx⟩ : ∃ x, x = l.getD i ((0, 0) : Int × Int) := ⟨_, rfl⟩
            rw [← hx] at gx
            have hrow := fun (w' : World) (hw : Ext w4 w') => hr4.ext hw
            have h46 : x.2 < 1 ∨ (1 ≤ x.2 ∧ 3 < x.2) ∨ (1 ≤ x.2 ∧ x.2 ≤ 3 ∧ i = 0) ∨ (1 ≤ x.2 ∧ x.2 ≤ 3 ∧ ∃ j, i = j + 1) := by
              rcases Int.lt_or_le x.2 1 with h4 | h4
              · exact .inl h4
              · rcases Int.lt_or_le 3 x.2 with h5 | h5
                · exact .inr (.inl ⟨h4, h5⟩)
                · rcases i with _ | j
                  · exact .inr (.inr (.inl ⟨h4, h5, rfl⟩))
                  · exact .inr (.inr (.inr ⟨h4, h5, j, rfl⟩))
            refine J.skip ?_
            refine J.seq ?_
            refine J.block ?_
            refine J.seq ?_
            refine J.draw (ℓ := 1000000) (S := Ext w4) mixed (fun w5 hS hS_h => ?_)
            refine D.va 0 rfl (by kernel_rfl) (fun _ _ _ h => h) rfl (fun w' hw => X.move (by conv => lhs; whnf)) hS ?_
            refine D.va 1 rfl (by kernel_rfl) (fun _ _ _ h => h) rfl (fun w' hw => X.move (by conv => lhs; whnf)) hS ?_
            refine D.va 2 rfl (by kernel_rfl) (fun _ _ _ h => h) rfl (fun w' hw => (by first | exact X.indexAddrn rfl rfl Try.underlying29 sz_39 (by first | exact Option.some_ne_none _ | exact hA) (by omega) | exact X.indexAddr rfl rfl Try.underlying29 sz_39 (by first | exact Option.some_ne_none _ | exact hA) (by omega))) hS ?_
            refine D.va 3 rfl (by kernel_rfl) (fun _ _ _ h => h) rfl (fun w' hw => X.fieldP rfl Try.underlying39 rfl sz_3 (by decide) (by first | exact Option.some_ne_none _ | exact hA)) hS ?_
            refine D.va 4 rfl (by kernel_rfl) (fun _ _ _ h => h) rfl (fun w' hw => X.load rfl sc_3 (by first | exact hA | exact Ld.flat2 ch_len (hrow w' hw) gx (r := 1) rfl)) hS ?_
            refine D.va 5 rfl (by kernel_rfl) (fun _ _ _ h => h) rfl (fun w' hw => X.lss rfl rfl) hS ?_
            refine D.va 6 rfl (by kernel_rfl) (fun _ _ _ h => h) rfl (fun w' hw => X.move (by conv => lhs; whnf)) hS ?_
            rcases h46 with h4 | ⟨h4, h5⟩ | ⟨h4, h5, rfl⟩ | ⟨h4, h5, j, rfl⟩
            · refine D.caseDecT (k := 36) rfl (by exact h4) ?_
              refine D.no 7 rfl (by kernel_rfl) (fun _ _ _ h => h) rfl hS ?_
              refine D.no 8 rfl (by kernel_rfl) (fun _ _ _ h => h) rfl hS ?_
              refine D.no 9 rfl (by kernel_rfl) (fun _ _ _ h => h) rfl hS ?_
              refine D.no 10 rfl (by kernel_rfl) (fun _ _ _ h => h) rfl hS ?_
              refine D.no 11 rfl (by kernel_rfl) (fun _ _ _ h => h) rfl hS ?_
              refine D.no 12 rfl (by kernel_rfl) (fun _ _ _ h => h) rfl hS ?_
              refine D.va 13 rfl (by kernel_rfl) (fun _ _ _ h => h) rfl (fun w' hw => X.pickT rfl (by conv => lhs; whnf)) hS ?_
              refine D.va 14 rfl (by kernel_rfl) (fun _ _ _ h => h) rfl (fun w' hw => X.move (by conv => lhs; whnf)) hS ?_
              refine D.no 15 rfl (by kernel_rfl) (fun _ _ _ h => h) rfl hS ?_
              refine D.no 16 rfl (by kernel_rfl) (fun _ _ _ h => h) rfl hS ?_
              refine D.no 17 rfl (by kernel_rfl) (fun _ _ _ h => h) rfl hS ?_
              refine D.no 18 rfl (by kernel_rfl) (fun _ _ _ h => h) rfl hS ?_
              refine D.no 19 rfl (by kernel_rfl) (fun _ _ _ h => h) rfl hS ?_
              refine D.no 20 rfl (by kernel_rfl) (fun _ _ _ h => h) rfl hS ?_
              refine D.no 21 rfl (by kernel_rfl) (fun _ _ _ h => h) rfl hS ?_
              refine D.no 22 rfl (by kernel_rfl) (fun _ _ _ h => h) rfl hS ?_
              refine D.no 23 rfl (by kernel_rfl) (fun _ _ _ h => h) rfl hS ?_
              refine D.no 24 rfl (by kernel_rfl) (fun _ _ _ h => h) rfl hS ?_
              refine D.no 25 rfl (by kernel_rfl) (fun _ _ _ h => h) rfl hS ?_
              refine D.no 26 rfl (by kernel_rfl) (fun _ _ _ h => h) rfl hS ?_
              refine D.no 27 rfl (by kernel_rfl) (fun _ _ _ h => h) rfl hS ?_
              refine D.no 28 rfl (by kernel_rfl) (fun _ _ _ h => h) rfl hS ?_
              refine D.no 29 rfl (by kernel_rfl) (fun _ _ _ h => h) rfl hS ?_
              refine D.no 30 rfl (by kernel_rfl) (fun _ _ _ h => h) rfl hS ?_
              refine D.va 31 rfl (by kernel_rfl) (fun _ _ _ h => h) rfl (fun w' hw => X.pickT rfl (by conv => lhs; whnf)) hS ?_
              refine D.done (by kernel_rfl) ?_
              refine J.iteT rfl ?_
              refine J.seq ?_
              refine J.region ?_
              refine L.va rfl (X.assign (by conv => lhs; whnf)) ?_
              refine L.va rfl (X.assign (by conv => lhs; whnf)) ?_
              refine L.nil ?_
              refine J.ret ?_
              refine inB_ret <|  thn_ret <|  thn_ret <|  inB_ret <|  thn_ret <| ?_
              refine fin2 ?_
              refine PatQ.none_ (patE_k hin ?_) (by decide) rfl (he4.trans hS)
              rw [← hx]
              unfold okK
              rw [decide_eq_false (by omega)]
              rfl
            · refine D.caseDecF (k := 36) rfl (by omega) ?_
              refine D.va 7 rfl (by kernel_rfl) (fun _ _ _ h => h) rfl (fun w' hw => X.move (by conv => lhs; whnf)) hS ?_
              refine D.va 8 rfl (by kernel_rfl) (fun _ _ _ h => h) rfl (fun w' hw => X.move (by conv => lhs; whnf)) hS ?_
              refine D.va 9 rfl (by kernel_rfl) (fun _ _ _ h => h) rfl (fun w' hw => (by first | exact X.indexAddrn rfl rfl Try.underlying29 sz_39 (by first | exact Option.some_ne_none _ | exact hA) (by omega) | exact X.indexAddr rfl rfl Try.underlying29 sz_39 (by first | exact Option.some_ne_none _ | exact hA) (by omega))) hS ?_
              refine D.va 10 rfl (by kernel_rfl) (fun _ _ _ h => h) rfl (fun w' hw => X.fieldP rfl Try.underlying39 rfl sz_3 (by decide) (by first | exact Option.some_ne_none _ | exact hA)) hS ?_
              refine D.va 11 rfl (by kernel_rfl) (fun _ _ _ h => h) rfl (fun w' hw => X.load rfl sc_3 (by first | exact hA | exact Ld.flat2 ch_len (hrow w' hw) gx (r := 1) rfl)) hS ?_
              refine D.va 12 rfl (by kernel_rfl) (fun _ _ _ h => h) rfl (fun w' hw => X.gtr rfl rfl) hS ?_
              refine D.va 13 rfl (by kernel_rfl) (fun _ _ _ h => h) rfl (fun w' hw => X.pickF rfl (by conv => lhs; whnf)) hS ?_
              refine D.va 14 rfl (by kernel_rfl) (fun _ _ _ h => h) rfl (fun w' hw => X.move (by conv => lhs; whnf)) hS ?_
              refine D.caseDecT (k := 44) rfl (by exact h5) ?_
              refine D.no 15 rfl (by kernel_rfl) (fun _ _ _ h => h) rfl hS ?_
              refine D.no 16 rfl (by kernel_rfl) (fun _ _ _ h => h) rfl hS ?_
              refine D.no 17 rfl (by kernel_rfl) (fun _ _ _ h => h) rfl hS ?_
              refine D.no 18 rfl (by kernel_rfl) (fun _ _ _ h => h) rfl hS ?_
              refine D.no 19 rfl (by kernel_rfl) (fun _ _ _ h => h) rfl hS ?_
              refine D.no 20 rfl (by kernel_rfl) (fun _ _ _ h => h) rfl hS ?_
              refine D.no 21 rfl (by kernel_rfl) (fun _ _ _ h => h) rfl hS ?_
              refine D.no 22 rfl (by kernel_rfl) (fun _ _ _ h => h) rfl hS ?_
              refine D.no 23 rfl (by kernel_rfl) (fun _ _ _ h => h) rfl hS ?_
              refine D.no 24 rfl (by kernel_rfl) (fun _ _ _ h => h) rfl hS ?_
              refine D.no 25 rfl (by kernel_rfl) (fun _ _ _ h => h) rfl hS ?_
              refine D.no 26 rfl (by kernel_rfl) (fun _ _ _ h => h) rfl hS ?_
              refine D.no 27 rfl (by kernel_rfl) (fun _ _ _ h => h) rfl hS ?_
              refine D.no 28 rfl (by kernel_rfl) (fun _ _ _ h => h) rfl hS ?_
              refine D.no 29 rfl (by kernel_rfl) (fun _ _ _ h => h) rfl hS ?_
              refine D.no 30 rfl (by kernel_rfl) (fun _ _ _ h => h) rfl hS ?_
              refine D.va 31 rfl (by kernel_rfl) (fun _ _ _ h => h) rfl (fun w' hw => X.pickT rfl (by conv => lhs; whnf)) hS ?_
              refine D.done (by kernel_rfl) ?_
              refine J.iteT rfl ?_
              refine J.seq ?_
              refine J.region ?_
              refine L.va rfl (X.assign (by conv => lhs; whnf)) ?_
              refine L.va rfl (X.assign (by conv => lhs; whnf)) ?_
              refine L.nil ?_
              refine J.ret ?_
              refine inB_ret <|  thn_ret <|  thn_ret <|  inB_ret <|  thn_ret <| ?_
              refine fin2 ?_
              refine PatQ.none_ (patE_k hin ?_) (by decide) rfl (he4.trans hS)
              rw [← hx]
              unfold okK
              rw [decide_eq_false (show ¬ x.2 ≤ 3 by omega), Bool.and_false]
            · refine D.caseDecF (k := 36) rfl (by omega) ?_
              refine D.va 7 rfl (by kernel_rfl) (fun _ _ _ h => h) rfl (fun w' hw => X.move (by conv => lhs; whnf)) hS ?_
              refine D.va 8 rfl (by kernel_rfl) (fun _ _ _ h => h) rfl (fun w' hw => X.move (by conv => lhs; whnf)) hS ?_
              refine D.va 9 rfl (by kernel_rfl) (fun _ _ _ h => h) rfl (fun w' hw => (by first | exact X.indexAddrn rfl rfl Try.underlying29 sz_39 (by first | exact Option.some_ne_none _ | exact hA) (by omega) | exact X.indexAddr rfl rfl Try.underlying29 sz_39 (by first | exact Option.some_ne_none _ | exact hA) (by omega))) hS ?_
              refine D.va 10 rfl (by kernel_rfl) (fun _ _ _ h => h) rfl (fun w' hw => X.fieldP rfl Try.underlying39 rfl sz_3 (by decide) (by first | exact Option.some_ne_none _ | exact hA)) hS ?_
              refine D.va 11 rfl (by kernel_rfl) (fun _ _ _ h => h) rfl (fun w' hw => X.load rfl sc_3 (by first | exact hA | exact Ld.flat2 ch_len (hrow w' hw) gx (r := 1) rfl)) hS ?_
              refine D.va 12 rfl (by kernel_rfl) (fun _ _ _ h => h) rfl (fun w' hw => X.gtr rfl rfl) hS ?_
              refine D.va 13 rfl (by kernel_rfl) (fun _ _ _ h => h) rfl (fun w' hw => X.pickF rfl (by conv => lhs; whnf)) hS ?_
              refine D.va 14 rfl (by kernel_rfl) (fun _ _ _ h => h) rfl (fun w' hw => X.move (by conv => lhs; whnf)) hS ?_
              refine D.caseDecF (k := 44) rfl (by omega) ?_
              refine D.va 15 rfl (by kernel_rfl) (fun _ _ _ h => h) rfl (fun w' hw => X.move (by conv => lhs; whnf)) hS ?_
              refine D.va 16 rfl (by kernel_rfl) (fun _ _ _ h => h) rfl (fun w' hw => X.gtr rfl rfl) hS ?_
              refine D.va 17 rfl (by kernel_rfl) (fun _ _ _ h => h) rfl (fun w' hw => X.move (by conv => lhs; whnf)) hS ?_
              refine D.caseDecF (k := 47) rfl (by omega) ?_
              refine D.no 18 rfl (by kernel_rfl) (fun _ _ _ h => h) rfl hS ?_
              refine D.no 19 rfl (by kernel_rfl) (fun _ _ _ h => h) rfl hS ?_
              refine D.no 20 rfl (by kernel_rfl) (fun _ _ _ h => h) rfl hS ?_
              refine D.no 21 rfl (by kernel_rfl) (fun _ _ _ h => h) rfl hS ?_
              refine D.no 22 rfl (by kernel_rfl) (fun _ _ _ h => h) rfl hS ?_
              refine D.no 23 rfl (by kernel_rfl) (fun _ _ _ h => h) rfl hS ?_
              refine D.no 24 rfl (by kernel_rfl) (fun _ _ _ h => h) rfl hS ?_
              refine D.no 25 rfl (by kernel_rfl) (fun _ _ _ h => h) rfl hS ?_
              refine D.no 26 rfl (by kernel_rfl) (fun _ _ _ h => h) rfl hS ?_
              refine D.no 27 rfl (by kernel_rfl) (fun _ _ _ h => h) rfl hS ?_
              refine D.no 28 rfl (by kernel_rfl) (fun _ _ _ h => h) rfl hS ?_
              refine D.no 29 rfl (by kernel_rfl) (fun _ _ _ h => h) rfl hS ?_
              refine D.va 30 rfl (by kernel_rfl) (fun _ _ _ h => h) rfl (fun w' hw => X.pickF rfl (by conv => lhs; whnf)) hS ?_
              refine D.va 31 rfl (by kernel_rfl) (fun _ _ _ h => h) rfl (fun w' hw => X.pickF rfl (by conv => lhs; whnf)) hS ?_
              refine D.done (by kernel_rfl) ?_
              refine J.iteF rfl ?_
              refine J.skip ?_
              refine J.region ?_
              refine L.va rfl (X.move (by conv => lhs; whnf)) ?_
              refine L.va rfl (X.add rfl rfl (by omega)) ?_
              refine L.va rfl (X.assign (by conv => lhs; whnf)) ?_
              refine L.nil ?_
              refine ⟨1, At1 (by first | rfl | exact at_int rfl (by omega) | exact at_slice rfl (by omega) | exact at_int rfl (by simp)), (by (iterate 42 refine Agr.lk rfl ?_); exact Agr.lk rfl (Agr.hav rfl Agr.rfl')), ?_⟩
              refine ⟨⟨by omega, fun j hj => ?_, fun j hj => absurd hj (by omega), he4.trans hS⟩, by omega⟩
              obtain rfl : j = 0 := by omega
              rw [← hx]
              unfold okK
              rw [decide_eq_true (by omega), decide_eq_true (by omega)]
              rfl
            · refine D.caseDecF (k := 36) rfl (by omega) ?_
              refine D.va 7 rfl (by kernel_rfl) (fun _ _ _ h => h) rfl (fun w' hw => X.move (by conv => lhs; whnf)) hS ?_
              refine D.va 8 rfl (by kernel_rfl) (fun _ _ _ h => h) rfl (fun w' hw => X.move (by conv => lhs; whnf)) hS ?_
              refine D.va 9 rfl (by kernel_rfl) (fun _ _ _ h => h) rfl (fun w' hw => (by first | exact X.indexAddrn rfl rfl Try.underlying29 sz_39 (by first | exact Option.some_ne_none _ | exact hA) (by omega) | exact X.indexAddr rfl rfl Try.underlying29 sz_39 (by first | exact Option.some_ne_none _ | exact hA) (by omega))) hS ?_
              refine D.va 10 rfl (by kernel_rfl) (fun _ _ _ h => h) rfl (fun w' hw => X.fieldP rfl Try.underlying39 rfl sz_3 (by decide) (by first | exact Option.some_ne_none _ | exact hA)) hS ?_
              refine D.va 11 rfl (by kernel_rfl) (fun _ _ _ h => h) rfl (fun w' hw => X.load rfl sc_3 (by first | exact hA | exact Ld.flat2 ch_len (hrow w' hw) gx (r := 1) rfl)) hS ?_
              refine D.va 12 rfl (by kernel_rfl) (fun _ _ _ h => h) rfl (fun w' hw => X.gtr rfl rfl) hS ?_
              refine D.va 13 rfl (by kernel_rfl) (fun _ _ _ h => h) rfl (fun w' hw => X.pickF rfl (by conv => lhs; whnf)) hS ?_
              refine D.va 14 rfl (by kernel_rfl) (fun _ _ _ h => h) rfl (fun w' hw => X.move (by conv => lhs; whnf)) hS ?_
              refine D.caseDecF (k := 44) rfl (by omega) ?_
              refine D.va 15 rfl (by kernel_rfl) (fun _ _ _ h => h) rfl (fun w' hw => X.move (by conv => lhs; whnf)) hS ?_
              refine D.va 16 rfl (by kernel_rfl) (fun _ _ _ h => h) rfl (fun w' hw => X.gtr rfl rfl) hS ?_
              refine D.va 17 rfl (by kernel_rfl) (fun _ _ _ h => h) rfl (fun w' hw => X.move (by conv => lhs; whnf)) hS ?_
              refine D.caseDecT (k := 47) rfl (by omega) ?_
              have gy := gtC (show j < l.length by omega)
              obtain ⟨y, hy⟩ : ∃ y, y = l.getD j ((0, 0) : Int × Int) := ⟨_, rfl⟩
              rw [← hy] at gy
              refine D.va 18 rfl (by kernel_rfl) (fun _ _ _ h => h) rfl (fun w' hw => X.move (by conv => lhs; whnf)) hS ?_
              refine D.va 19 rfl (by kernel_rfl) (fun _ _ _ h => h) rfl (fun w' hw => X.move (by conv => lhs; whnf)) hS ?_
              refine D.va 20 rfl (by kernel_rfl) (fun _ _ _ h => h) rfl (fun w' hw => (by first | exact X.indexAddrn rfl rfl Try.underlying29 sz_39 (by first | exact Option.some_ne_none _ | exact hA) (by omega) | exact X.indexAddr rfl rfl Try.underlying29 sz_39 (by first | exact Option.some_ne_none _ | exact hA) (by omega))) hS ?_
              refine D.va 21 rfl (by kernel_rfl) (fun _ _ _ h => h) rfl (fun w' hw => X.fieldP rfl Try.underlying39 rfl sz_36 (by decide) (by first | exact Option.some_ne_none _ | exact hA)) hS ?_
              refine D.va 22 rfl (by kernel_rfl) (fun _ _ _ h => h) rfl (fun w' hw => X.load rfl sc_36 (Ld.flat2 ch_len (hrow w' hw) gx (r := 0) rfl)) hS ?_
              refine D.va 23 rfl (by kernel_rfl) (fun _ _ _ h => h) rfl (fun w' hw => X.move (by conv => lhs; whnf)) hS ?_
              refine D.va 24 rfl (by kernel_rfl) (fun _ _ _ h => h) rfl (fun w' hw => X.move (by conv => lhs; whnf)) hS ?_
              refine D.va 25 rfl (by kernel_rfl) (fun _ _ _ h => h) rfl (fun w' hw => X.sub rfl rfl (by omega)) hS ?_
              refine D.va 26 rfl (by kernel_rfl) (fun _ _ _ h => h) rfl (fun w' hw => X.indexAddrn (j := j) rfl (show Value.int .i64 (((j + 1 : Nat) : Int) - 1) = _ by rw [show (((j + 1 : Nat) : Int) - 1) = (j : Int) by omega]) Try.underlying29 sz_39 hA (by omega)) hS ?_
              refine D.va 27 rfl (by kernel_rfl) (fun _ _ _ h => h) rfl (fun w' hw => X.fieldP rfl Try.underlying39 rfl sz_36 (by decide) hA) hS ?_
              refine D.va 28 rfl (by kernel_rfl) (fun _ _ _ h => h) rfl (fun w' hw => X.load rfl sc_36 (Ld.flat2 ch_len (hrow w' hw) gy (r := 0) rfl)) hS ?_
              refine D.va 29 rfl (by kernel_rfl) (fun _ _ _ h => h) rfl (fun w' hw => X.leq rfl rfl) hS ?_
              refine D.va 30 rfl (by kernel_rfl) (fun _ _ _ h => h) rfl (fun w' hw => X.pickT rfl (by conv => lhs; whnf)) hS ?_
              refine D.va 31 rfl (by kernel_rfl) (fun _ _ _ h => h) rfl (fun w' hw => X.pickF rfl (by conv => lhs; whnf)) hS ?_
              refine D.done (by kernel_rfl) ?_
              refine J.dec rfl (fun h6 => ?_) (fun h6 => ?_)
              · refine J.seq ?_
                refine J.region ?_
                refine L.va rfl (X.assign (by conv => lhs; whnf)) ?_
                refine L.va rfl (X.assign (by conv => lhs; whnf)) ?_
                refine L.nil ?_
                refine J.ret ?_
                refine inB_ret <|  thn_ret <|  thn_ret <|  inB_ret <|  thn_ret <| ?_
                refine fin2 ?_
                refine PatQ.none_ (patE_1 ?_) (by decide) rfl (he4.trans hS)
                cases h7 : riseC l
                · rw [h1, h2]; rfl
                · have := riseC_at.1 h7 j (by omega)
                  rw [← hx, ← hy] at this
                  omega
              · refine J.skip ?_
                refine J.region ?_
                refine L.va rfl (X.move (by conv => lhs; whnf)) ?_
                refine L.va rfl (X.add rfl rfl (by omega)) ?_
                refine L.va rfl (X.assign (by conv => lhs; whnf)) ?_
                refine L.nil ?_
                refine ⟨j + 2, At1 (by first | rfl | exact at_int rfl (by omega) | exact at_slice rfl (by omega) | exact at_int rfl (by simp)), (by (iterate 42 refine Agr.lk rfl ?_); exact Agr.lk rfl (Agr.hav rfl Agr.rfl')), ?_⟩
                refine ⟨⟨by omega, fun m hm => ?_, fun m hm => ?_, he4.trans hS⟩, by omega⟩
                · rcases Nat.lt_or_ge m (j + 1) with h | h
                  · exact hK m h
                  · obtain rfl : m = j + 1 := by omega
                    rw [← hx]
                    unfold okK
                    rw [decide_eq_true (by omega), decide_eq_true (by omega)]
                    rfl
                · rcases Nat.lt_or_ge (m + 1) (j + 1) with h | h
                  · exact hR m h
                  · obtain rfl : m = j := by omega
                    rw [← hx, ← hy]
                    omega
          · obtain rfl : i = l.length := by omega
            refine J.exit ?_
            refine ⟨(), At0 , (by (iterate 4 refine Agr.lk rfl ?_); refine Agr.lk rfl ?_; refine Agr.hav rfl ?_; (iterate 1 refine Agr.lk rfl ?_); exact Agr.rfl'), ?_⟩
            exact ⟨riseC_at.2 hR, hK, he4⟩
      · rintro ⟨⟩ g w4 ⟨h3, hK, he4⟩
        have hrs : (rise la && (rise lb && riseC l)) = true := by rw [h1, h2, h3]; rfl
        have Rl := risL_of h3
        refine J.cut (X := Unit) [6, 7, 9, 10, 62, 63, 64, 65, 66, 67, 68, 69, 70, 71, 72, 73, 74, 75, 76, 77, 78, 79, 80, 81, 82, 83, 84, 85, 86, 87, 88, 89, 90, 91, 92, 93, 94, 95, 96, 97, 98, 99, 100, 101, 102, 103] (fun _ => []) (fun _ w' => patE la l lb = 0 ∧ (∀ j, j < l.length → fault la lb (l.getD j (0, 0)) = 0) ∧ Ext w w') ?_ ?_
        · refine J.seq ?_
          refine J.region ?_
          refine L.va rfl (X.assign (by conv => lhs; whnf)) ?_
          refine L.nil ?_
          refine J.block ?_
          refine J.loop (X := Nat) [6, 7, 9, 10, 62, 63, 64, 65, 66, 67, 68, 69, 70, 71, 72, 73, 74, 75, 76, 77, 78, 79, 80, 81, 82, 83, 84, 85, 86, 87, 88, 89, 90, 91, 92, 93, 94, 95, 96, 97, 98, 99, 100, 101, 102, 103] (fun i => [(9, .int .i64 (i : Int))]) (fun i w' => i ≤ l.length ∧ (∀ j, j < i → fault la lb (l.getD j (0, 0)) = 0) ∧ Ext w w') (fun i => l.length - i) (0) (At1 (by first | rfl | exact at_int rfl (by omega) | exact at_slice rfl (by omega) | exact at_int rfl (by simp))) ?_ ?_
          · exact ⟨Nat.zero_le _, fun j hj => absurd hj (by omega), he4⟩
          · rintro i g w5 ⟨hi, hF, he5⟩
            have z5 := he5.le
            refine J.seq ?_
            refine J.seq ?_
            refine J.region ?_
            refine L.va rfl (X.move (by conv => lhs; whnf)) ?_
            refine L.va rfl (X.move (by conv => lhs; whnf)) ?_
            refine L.va rfl (X.len rfl Try.underlying29) ?_
            refine L.va rfl (X.lss rfl rfl) ?_
            refine L.nil ?_
            refine J.dec rfl (fun hlt => ?_) (fun hlt => ?_)
            · have hin : i < l.length := by omega
              have hr5 := hrl.low (Below.mono he5 hN) (Nat.le_refl _)
              have hA := hr5.some_ (by omega)
              have gx := gtC hin
              obtain ⟨x, hx⟩ : ∃ x, x = l.getD i ((0, 0) : Int × Int) := ⟨_, rfl⟩
              rw [← hx] at gx
              refine J.skip ?_
              refine J.seq ?_
              refine J.block ?_
              refine J.seq ?_
              refine J.region ?_
              refine L.va rfl (X.move (by conv => lhs; whnf)) ?_
              refine L.va rfl (X.move (by conv => lhs; whnf)) ?_
              refine L.va rfl ((by first | exact X.indexAddrn rfl rfl Try.underlying29 sz_39 (by first | exact Option.some_ne_none _ | exact hA) (by omega) | exact X.indexAddr rfl rfl Try.underlying29 sz_39 (by first | exact Option.some_ne_none _ | exact hA) (by omega))) ?_
              refine L.va rfl (X.loadRow (cs := chV x) rfl hr5 (fun r u hu => flat_row ch_len gx r u hu) (Nat.zero_lt_succ _) Try.underlying39 rfl (by kernel_rfl)) ?_
              refine L.alloc rfl zr_39 ?_
              intro b6 w6 hb6 hs6 hk6 he6
              refine L.storeAgg (vs := [_, _]) rfl rfl rfl rfl sz_39 (hk6) rfl ?_
              intro w7 hk7 hg7 hs7
              have he57 : Ext w5 w7 := he6.grw hg7 (by intro g hg; injection hg with hg; omega)
              have hk7 : Blk w7 b6 39 (chV x).toArray := hk7
              have he07 := he5.trans he57
              have cA := rhas43 (w := w7) A c la x.1 (hra.low (Below.mono he07 hN) (Nat.le_refl _)) (by omega)
              have cB := rhas43 (w := w7) B d lb x.1 (hrb.low (Below.mono he07 hN) (Nat.le_refl _)) (by omega)
              have bad : ∀ z : Int, z ≠ 0 → fault la lb x = z → patE la l lb = z := fun z hz e => by
                rw [hx] at e
                exact (patE_f hrs hK hin hF (by rw [e]; exact hz)).trans e
              refine L.nil ?_
              refine J.cut (X := Unit) [6, 7, 72, 73, 74, 75, 76, 77, 78, 79, 80, 81, 82, 83, 84, 85, 86, 87, 88, 89, 90, 91, 92, 93] (fun _ => []) (fun _ w' => ¬ Lacks la lb x ∧ w7 = w') ?_ ?_
              · refine J.seq ?_
                refine J.region ?_
                refine L.va rfl (X.fieldAddr rfl Try.underlying39 rfl sz_3 (by decide)) ?_
                refine L.va rfl (X.load rfl sc_3 (by first | exact Ld.blk hk7 rfl)) ?_
                refine L.va rfl (X.neq rfl rfl) ?_
                refine L.va rfl (X.move (by conv => lhs; whnf)) ?_
                refine L.caseNdec (k := 75) rfl (fun k2 => ?_) (fun k2 => ?_)
                · refine L.va rfl (X.move (by conv => lhs; whnf)) ?_
                  refine L.va rfl (X.fieldAddr rfl Try.underlying39 rfl sz_36 (by decide)) ?_
                  refine L.va rfl (X.load rfl sc_36 (by first | exact Ld.blk hk7 rfl)) ?_
                  refine L.call rfl en_24 rfl (cA) ?_
                  rintro e _ ⟨rfl, r, rfl, hr⟩
                  refine ⟨_, rfl, ?_⟩
                  refine L.va rfl (X.lss rfl rfl) ?_
                  refine L.va rfl (X.pickT rfl (by conv => lhs; whnf)) ?_
                  refine L.va rfl (X.move (by conv => lhs; whnf)) ?_
                  rcases hr with ⟨rfl, hno⟩ | ⟨j, rfl, hj, hjk⟩
                  · refine L.caseDecT (k := 82) rfl (by omega) ?_
                    refine L.no rfl ?_
                    refine L.no rfl ?_
                    refine L.no rfl ?_
                    refine L.no rfl ?_
                    refine L.no rfl ?_
                    refine L.no rfl ?_
                    refine L.no rfl ?_
                    refine L.no rfl ?_
                    refine L.no rfl ?_
                    refine L.no rfl ?_
                    refine L.va rfl (X.pickT rfl (by conv => lhs; whnf)) ?_
                    refine L.nil ?_
                    refine J.iteT rfl ?_
                    refine J.seq ?_
                    refine J.region ?_
                    refine L.va rfl (X.assign (by conv => lhs; whnf)) ?_
                    refine L.va rfl (X.assign (by conv => lhs; whnf)) ?_
                    refine L.nil ?_
                    refine J.ret ?_
                    refine thn_ret <|  inB_ret <|  thn_ret <|  thn_ret <|  inB_ret <|  thn_ret <| ?_
                    refine fin2 ?_
                    exact PatQ.none_ (bad 11 (by decide) (fault_11 (.inl ⟨k2, hasK_f.2 hno⟩))) (by decide) rfl he07
                  · have hA1 := hasK_t.2 ⟨_, memD hj, hjk⟩
                    refine L.caseDecF (k := 82) rfl (by omega) ?_
                    refine L.va rfl (X.fieldAddr rfl Try.underlying39 rfl sz_3 (by decide)) ?_
                    refine L.va rfl (X.load rfl sc_3 (by first | exact Ld.blk hk7 rfl)) ?_
                    refine L.va rfl (X.neq rfl rfl) ?_
                    refine L.va rfl (X.move (by conv => lhs; whnf)) ?_
                    refine L.caseNdec (k := 86) rfl (fun k1 => ?_) (fun k1 => ?_)
                    · refine L.va rfl (X.move (by conv => lhs; whnf)) ?_
                      refine L.va rfl (X.fieldAddr rfl Try.underlying39 rfl sz_36 (by decide)) ?_
                      refine L.va rfl (X.load rfl sc_36 (by first | exact Ld.blk hk7 rfl)) ?_
                      refine L.call rfl en_24 rfl (cB) ?_
                      rintro e _ ⟨rfl, r, rfl, hr⟩
                      refine ⟨_, rfl, ?_⟩
                      refine L.va rfl (X.lss rfl rfl) ?_
                      refine L.va rfl (X.pickT rfl (by conv => lhs; whnf)) ?_
                      refine L.va rfl (X.pickF rfl (by conv => lhs; whnf)) ?_
                      refine L.nil ?_
                      rcases hr with ⟨rfl, hno⟩ | ⟨m, rfl, hm1, hmk⟩
                      · refine J.decT rfl (by omega) ?_
                        refine J.seq ?_
                        refine J.region ?_
                        refine L.va rfl (X.assign (by conv => lhs; whnf)) ?_
                        refine L.va rfl (X.assign (by conv => lhs; whnf)) ?_
                        refine L.nil ?_
                        refine J.ret ?_
                        refine thn_ret <|  inB_ret <|  thn_ret <|  thn_ret <|  inB_ret <|  thn_ret <| ?_
                        refine fin2 ?_
                        exact PatQ.none_ (bad 11 (by decide) (fault_11 (.inr ⟨k1, hasK_f.2 hno⟩))) (by decide) rfl he07
                      · refine J.decF rfl (by omega) ?_
                        refine J.skip ?_
                        refine ⟨(), At0 , (by (iterate 25 refine Agr.lk rfl ?_); exact Agr.rfl'), ?_⟩
                        exact ⟨lacks_no (.inr hA1) (.inr (hasK_t.2 ⟨_, memD hm1, hmk⟩)), rfl⟩
                    · refine L.no rfl ?_
                      refine L.no rfl ?_
                      refine L.no rfl ?_
                      refine L.no rfl ?_
                      refine L.no rfl ?_
                      refine L.va rfl (X.pickF rfl (by conv => lhs; whnf)) ?_
                      refine L.va rfl (X.pickF rfl (by conv => lhs; whnf)) ?_
                      refine L.nil ?_
                      refine J.iteF rfl ?_
                      refine J.skip ?_
                      refine ⟨(), At0 , (by (iterate 25 refine Agr.lk rfl ?_); exact Agr.rfl'), ?_⟩
                      exact ⟨lacks_no (.inr hA1) (.inl k1), rfl⟩
                · refine L.no rfl ?_
                  refine L.no rfl ?_
                  refine L.no rfl ?_
                  refine L.no rfl ?_
                  refine L.no rfl ?_
                  refine L.va rfl (X.pickF rfl (by conv => lhs; whnf)) ?_
                  refine L.va rfl (X.move (by conv => lhs; whnf)) ?_
                  refine L.va rfl (X.fieldAddr rfl Try.underlying39 rfl sz_3 (by decide)) ?_
                  refine L.va rfl (X.load rfl sc_3 (by first | exact Ld.blk hk7 rfl)) ?_
                  refine L.va rfl (X.neq rfl rfl) ?_
                  refine L.va rfl (X.move (by conv => lhs; whnf)) ?_
                  refine L.caseNdecT (k := 86) rfl (by omega) ?_
                  refine L.va rfl (X.move (by conv => lhs; whnf)) ?_
                  refine L.va rfl (X.fieldAddr rfl Try.underlying39 rfl sz_36 (by decide)) ?_
                  refine L.va rfl (X.load rfl sc_36 (by first | exact Ld.blk hk7 rfl)) ?_
                  refine L.call rfl en_24 rfl (cB) ?_
                  rintro e _ ⟨rfl, r, rfl, hr⟩
                  refine ⟨_, rfl, ?_⟩
                  refine L.va rfl (X.lss rfl rfl) ?_
                  refine L.va rfl (X.pickT rfl (by conv => lhs; whnf)) ?_
                  refine L.va rfl (X.pickF rfl (by conv => lhs; whnf)) ?_
                  refine L.nil ?_
                  rcases hr with ⟨rfl, hno⟩ | ⟨m, rfl, hm1, hmk⟩
                  · refine J.decT rfl (by omega) ?_
                    refine J.seq ?_
                    refine J.region ?_
                    refine L.va rfl (X.assign (by conv => lhs; whnf)) ?_
                    refine L.va rfl (X.assign (by conv => lhs; whnf)) ?_
                    refine L.nil ?_
                    refine J.ret ?_
                    refine thn_ret <|  inB_ret <|  thn_ret <|  thn_ret <|  inB_ret <|  thn_ret <| ?_
                    refine fin2 ?_
                    exact PatQ.none_ (bad 11 (by decide) (fault_11 (.inr ⟨by omega, hasK_f.2 hno⟩))) (by decide) rfl he07
                  · refine J.decF rfl (by omega) ?_
                    refine J.skip ?_
                    refine ⟨(), At0 , (by (iterate 24 refine Agr.lk rfl ?_); exact Agr.rfl'), ?_⟩
                    exact ⟨lacks_no (.inl k2) (.inr (hasK_t.2 ⟨_, memD hm1, hmk⟩)), rfl⟩
              · rintro ⟨⟩ g w8 ⟨hnf, rfl⟩
                refine J.seq ?_
                refine J.region ?_
                refine L.va rfl (X.fieldAddr rfl Try.underlying39 rfl sz_3 (by decide)) ?_
                refine L.va rfl (X.load rfl sc_3 (by first | exact Ld.blk hk7 rfl)) ?_
                refine L.va rfl (X.eql rfl rfl) ?_
                refine L.va rfl (X.move (by conv => lhs; whnf)) ?_
                refine L.caseDec (k := 97) rfl (fun k2 => ?_) (fun k2 => ?_)
                · refine L.va rfl (X.move (by conv => lhs; whnf)) ?_
                  refine L.va rfl (X.fieldAddr rfl Try.underlying39 rfl sz_36 (by decide)) ?_
                  refine L.va rfl (X.load rfl sc_36 (by first | exact Ld.blk hk7 rfl)) ?_
                  refine L.call rfl en_24 rfl (cA) ?_
                  rintro e _ ⟨rfl, r, rfl, hr⟩
                  refine ⟨_, rfl, ?_⟩
                  refine L.va rfl (X.geq rfl rfl) ?_
                  refine L.va rfl (X.pickT rfl (by conv => lhs; whnf)) ?_
                  refine L.nil ?_
                  rcases hr with ⟨rfl, hno⟩ | ⟨j, rfl, hj, hjk⟩
                  · refine J.decF rfl (by omega) ?_
                    refine J.skip ?_
                    refine J.region ?_
                    refine L.va rfl (X.move (by conv => lhs; whnf)) ?_
                    refine L.va rfl (X.add rfl rfl (by omega)) ?_
                    refine L.va rfl (X.assign (by conv => lhs; whnf)) ?_
                    refine L.nil ?_
                    refine ⟨i + 1, At1 (by first | rfl | exact at_int rfl (by omega) | exact at_slice rfl (by omega) | exact at_int rfl (by simp)), (by (iterate 14 refine Agr.lk rfl ?_); refine Agr.lk rfl ?_; refine Agr.hav rfl ?_; (iterate 9 refine Agr.lk rfl ?_); exact Agr.lk rfl (Agr.hav rfl Agr.rfl')), ?_⟩
                    refine ⟨⟨by omega, fun j hj => ?_, he07⟩, by omega⟩
                    rcases Nat.lt_or_ge j i with h | h
                    · exact hF j h
                    · obtain rfl : j = i := by omega
                      rw [← hx]
                      refine fault_0 hnf fun h => ?_
                      rw [hasK_f.2 hno] at h
                      cases h.2
                  · refine J.decT rfl (by omega) ?_
                    refine J.seq ?_
                    refine J.region ?_
                    refine L.va rfl (X.assign (by conv => lhs; whnf)) ?_
                    refine L.va rfl (X.assign (by conv => lhs; whnf)) ?_
                    refine L.nil ?_
                    refine J.ret ?_
                    refine inB_ret <|  thn_ret <|  thn_ret <|  inB_ret <|  thn_ret <| ?_
                    refine fin2 ?_
                    exact PatQ.none_ (bad 9 (by decide) (fault_9 hnf ⟨k2, hasK_t.2 ⟨_, memD hj, hjk⟩⟩)) (by decide) rfl he07
                · refine L.no rfl ?_
                  refine L.no rfl ?_
                  refine L.no rfl ?_
                  refine L.no rfl ?_
                  refine L.no rfl ?_
                  refine L.va rfl (X.pickF rfl (by conv => lhs; whnf)) ?_
                  refine L.nil ?_
                  refine J.iteF rfl ?_
                  refine J.skip ?_
                  refine J.region ?_
                  refine L.va rfl (X.move (by conv => lhs; whnf)) ?_
                  refine L.va rfl (X.add rfl rfl (by omega)) ?_
                  refine L.va rfl (X.assign (by conv => lhs; whnf)) ?_
                  refine L.nil ?_
                  refine ⟨i + 1, At1 (by first | rfl | exact at_int rfl (by omega) | exact at_slice rfl (by omega) | exact at_int rfl (by simp)), (by (iterate 14 refine Agr.lk rfl ?_); refine Agr.lk rfl ?_; refine Agr.hav rfl ?_; (iterate 9 refine Agr.lk rfl ?_); exact Agr.lk rfl (Agr.hav rfl Agr.rfl')), ?_⟩
                  refine ⟨⟨by omega, fun j hj => ?_, he07⟩, by omega⟩
                  rcases Nat.lt_or_ge j i with h | h
                  · exact hF j h
                  · obtain rfl : j = i := by omega
                    rw [← hx]
                    exact fault_0 hnf fun h => k2 h.1
            · obtain rfl : i = l.length := by omega
              refine J.exit ?_
              refine ⟨(), At0 , (by (iterate 4 refine Agr.lk rfl ?_); refine Agr.lk rfl ?_; refine Agr.hav rfl ?_; (iterate 1 refine Agr.lk rfl ?_); exact Agr.rfl'), ?_⟩
              exact ⟨patE_0 hrs hK hF, hF, he5⟩
        · rintro ⟨⟩ g w5 ⟨hE, hF, he5⟩
          refine J.seq ?_
          refine J.region ?_
          refine L.va rfl (X.assign (by conv => lhs; whnf)) ?_
          refine L.nil ?_
          refine J.cut (X := Option Addr × Nat × Nat × List Ce) [11, 12, 13, 14, 104, 105, 106, 107, 108, 109, 110, 111, 112, 113, 114, 115, 116, 117, 118, 119, 120, 121, 122, 123, 124, 125, 126, 127, 128, 129, 130, 131, 132, 133, 134, 135, 136, 137, 138, 139] (fun (oA, m, oc, o) => [(11, .slice oA m oc)]) (fun (oA, m, oc, o) w' => o.length = m ∧ m ≤ la.length ∧ w'.ownsRow w.heap.size 61 4 (.slice oA m oc) m (o.flatMap Ce.vs) ∧ KeepI la l la.length o ∧ Ext w w') ?_ ?_
          · refine J.seq ?_
            refine J.region ?_
            refine L.va rfl (X.assign (by conv => lhs; whnf)) ?_
            refine L.nil ?_
            refine J.block ?_
            refine J.loop (X := Nat × Option Addr × Nat × Nat × List Ce) [11, 12, 13, 14, 104, 105, 106, 107, 108, 109, 110, 111, 112, 113, 114, 115, 116, 117, 118, 119, 120, 121, 122, 123, 124, 125, 126, 127, 128, 129, 130, 131, 132, 133, 134, 135, 136, 137, 138, 139] (fun (i, oA, m, oc, o) => [(12, .int .i64 (i : Int)), (11, .slice oA m oc)]) (fun (i, oA, m, oc, o) w' => i ≤ la.length ∧ o.length = m ∧ m ≤ i ∧ w'.ownsRow w.heap.size 61 4 (.slice oA m oc) m (o.flatMap Ce.vs) ∧ KeepI la l i o ∧ Ext w w') (fun (i, _) => la.length - i) ((0, none, 0, 0, [])) (At2 (by first | rfl | exact at_int rfl (by omega) | exact at_slice rfl (by omega) | exact at_int rfl (by simp)) (by first | rfl | exact at_int rfl (by omega) | exact at_slice rfl (by omega) | exact at_int rfl (by simp))) ?_ ?_
            · exact ⟨Nat.zero_le _, rfl, Nat.le_refl _, own_nil _ _ _ _, ⟨List.Pairwise.nil, fun c => by simp⟩, he5⟩
            · rintro ⟨i, oA, m, oc, o⟩ g w6 ⟨hi, rfl, hmi, ho, hI, he6⟩
              have z6 := he6.le
              refine J.seq ?_
              refine J.seq ?_
              refine J.region ?_
              refine L.va rfl (X.move (by conv => lhs; whnf)) ?_
              refine L.va rfl (X.move (by conv => lhs; whnf)) ?_
              refine L.va rfl (X.len rfl Try.underlying22) ?_
              refine L.va rfl (X.lss rfl rfl) ?_
              refine L.nil ?_
              refine J.dec rfl (fun hlt => ?_) (fun hlt => ?_)
              · have hin : i < la.length := by omega
                have hra6 := hra.low (Below.mono he6 hN) (Nat.le_refl _)
                have hAa := hra6.some_ (by omega)
                have gy := gtX hin
                obtain ⟨y, hy⟩ : ∃ y, y = la.getD i ce0 := ⟨_, rfl⟩
                rw [← hy] at gy
                refine J.skip ?_
                refine J.seq ?_
                refine J.block ?_
                refine J.seq ?_
                refine J.region ?_
                refine L.va rfl (X.assign (by conv => lhs; whnf)) ?_
                refine L.nil ?_
                refine J.cut (X := Bool) [13, 14, 110, 111, 112, 113, 114, 115, 116, 117, 118, 119, 120, 121, 122, 123, 124, 125, 126, 127, 128, 129] (fun z => [(13, .bool z)]) (fun z w' => (z = true ↔ ∀ q ∈ l, q.1 ≠ y.key) ∧ Ext w6 w') ?_ ?_
                · refine J.seq ?_
                  refine J.region ?_
                  refine L.va rfl (X.assign (by conv => lhs; whnf)) ?_
                  refine L.nil ?_
                  refine J.block ?_
                  refine J.loop (X := Nat × Bool) [13, 14, 110, 111, 112, 113, 114, 115, 116, 117, 118, 119, 120, 121, 122, 123, 124, 125, 126, 127, 128, 129] (fun (k, z) => [(14, .int .i64 (k : Int)), (13, .bool z)]) (fun (k, z) w' => k ≤ l.length ∧ (z = true ↔ ∀ q ∈ l.take k, q.1 ≠ y.key) ∧ Ext w6 w') (fun (k, _) => l.length - k) ((0, true)) (At2 (by first | rfl | exact at_int rfl (by omega) | exact at_slice rfl (by omega) | exact at_int rfl (by simp)) (by first | rfl | exact at_int rfl (by omega) | exact at_slice rfl (by omega) | exact at_int rfl (by simp))) ?_ ?_
                  · exact ⟨Nat.zero_le _, by simp, Ext.refl _⟩
                  · rintro ⟨k, z⟩ g w7 ⟨hk, hz, he7⟩
                    have he07 := he6.trans he7
                    have z7 := he07.le
                    refine J.seq ?_
                    refine J.seq ?_
                    refine J.region ?_
                    refine L.va rfl (X.move (by conv => lhs; whnf)) ?_
                    refine L.va rfl (X.move (by conv => lhs; whnf)) ?_
                    refine L.va rfl (X.len rfl Try.underlying29) ?_
                    refine L.va rfl (X.lss rfl rfl) ?_
                    refine L.nil ?_
                    refine J.dec rfl (fun hlt2 => ?_) (fun hlt2 => ?_)
                    · have hkn : k < l.length := by omega
                      have hrl7 := hrl.low (Below.mono he07 hN) (Nat.le_refl _)
                      have hra7 := hra.low (Below.mono he07 hN) (Nat.le_refl _)
                      have hAl := hrl7.some_ (by omega)
                      have gx := gtC hkn
                      obtain ⟨x, hx⟩ : ∃ x, x = l.getD k ((0, 0) : Int × Int) := ⟨_, rfl⟩
                      rw [← hx] at gx
                      have et := take_oneL hkn
                      rw [← hx] at et
                      refine J.skip ?_
                      refine J.seq ?_
                      refine J.block ?_
                      cases z
                      · refine J.draw (ℓ := 1000000) (S := Ext w7) mixed (fun w8 hS hS_h => ?_)
                        refine D.va 0 rfl (by kernel_rfl) (fun _ _ _ h => h) rfl (fun w' hw => X.move (by conv => lhs; whnf)) hS ?_
                        refine D.va 1 rfl (by kernel_rfl) (fun _ _ _ h => h) rfl (fun w' hw => X.move (by conv => lhs; whnf)) hS ?_
                        refine D.caseBF (k := 117) rfl (by rfl) ?_
                        refine D.no 2 rfl (by kernel_rfl) (fun _ _ _ h => h) rfl hS ?_
                        refine D.no 3 rfl (by kernel_rfl) (fun _ _ _ h => h) rfl hS ?_
                        refine D.no 4 rfl (by kernel_rfl) (fun _ _ _ h => h) rfl hS ?_
                        refine D.no 5 rfl (by kernel_rfl) (fun _ _ _ h => h) rfl hS ?_
                        refine D.no 6 rfl (by kernel_rfl) (fun _ _ _ h => h) rfl hS ?_
                        refine D.no 7 rfl (by kernel_rfl) (fun _ _ _ h => h) rfl hS ?_
                        refine D.no 8 rfl (by kernel_rfl) (fun _ _ _ h => h) rfl hS ?_
                        refine D.no 9 rfl (by kernel_rfl) (fun _ _ _ h => h) rfl hS ?_
                        refine D.no 10 rfl (by kernel_rfl) (fun _ _ _ h => h) rfl hS ?_
                        refine D.no 11 rfl (by kernel_rfl) (fun _ _ _ h => h) rfl hS ?_
                        refine D.no 12 rfl (by kernel_rfl) (fun _ _ _ h => h) rfl hS ?_
                        refine D.va 13 rfl (by kernel_rfl) (fun _ _ _ h => h) rfl (fun w' hw => X.pickF rfl (by conv => lhs; whnf)) hS ?_
                        refine D.va 14 rfl (by kernel_rfl) (fun _ _ _ h => h) rfl (fun w' hw => X.assign (by conv => lhs; whnf)) hS ?_
                        refine D.done (by kernel_rfl) ?_
                        refine J.region ?_
                        refine L.va rfl (X.move (by conv => lhs; whnf)) ?_
                        refine L.va rfl (X.add rfl rfl (by omega)) ?_
                        refine L.va rfl (X.assign (by conv => lhs; whnf)) ?_
                        refine L.nil ?_
                        refine ⟨(k + 1, false), At2 (by first | rfl | exact at_int rfl (by omega) | exact at_slice rfl (by omega) | exact at_int rfl (by simp)) (by first | rfl | exact at_int rfl (by omega) | exact at_slice rfl (by omega) | exact at_int rfl (by simp)), (by (iterate 23 refine Agr.lk rfl ?_); exact Agr.lk rfl (Agr.hav rfl Agr.rfl')), ?_⟩
                        refine ⟨⟨by omega, ⟨fun h => (by cases h), fun h => ?_⟩, he7.trans hS⟩, by show l.length - (k + 1) < l.length - k; omega⟩
                        rw [et] at h
                        exact hz.2 fun q hq => h q (List.mem_append_left _ hq)
                      · refine J.draw (ℓ := 1000000) (S := Ext w7) mixed (fun w8 hS hS_h => ?_)
                        refine D.va 0 rfl (by kernel_rfl) (fun _ _ _ h => h) rfl (fun w' hw => X.move (by conv => lhs; whnf)) hS ?_
                        refine D.va 1 rfl (by kernel_rfl) (fun _ _ _ h => h) rfl (fun w' hw => X.move (by conv => lhs; whnf)) hS ?_
                        refine D.caseBT (k := 117) rfl (by rfl) ?_
                        refine D.va 2 rfl (by kernel_rfl) (fun _ _ _ h => h) rfl (fun w' hw => X.move (by conv => lhs; whnf)) hS ?_
                        refine D.va 3 rfl (by kernel_rfl) (fun _ _ _ h => h) rfl (fun w' hw => X.move (by conv => lhs; whnf)) hS ?_
                        refine D.va 4 rfl (by kernel_rfl) (fun _ _ _ h => h) rfl (fun w' hw => (by first | exact X.indexAddrn rfl rfl Try.underlying29 sz_39 (by first | exact Option.some_ne_none _ | exact hAl | exact hAa) (by omega) | exact X.indexAddr rfl rfl Try.underlying29 sz_39 (by first | exact Option.some_ne_none _ | exact hAl | exact hAa) (by omega))) hS ?_
                        refine D.va 5 rfl (by kernel_rfl) (fun _ _ _ h => h) rfl (fun w' hw => X.fieldP rfl Try.underlying39 rfl sz_36 (by decide) (by first | exact Option.some_ne_none _ | exact hAl | exact hAa)) hS ?_
                        refine D.va 6 rfl (by kernel_rfl) (fun _ _ _ h => h) rfl (fun w' hw => X.load rfl sc_36 (Ld.flat2 ch_len (hrl7.ext hw) gx (r := 0) rfl)) hS ?_
                        refine D.va 7 rfl (by kernel_rfl) (fun _ _ _ h => h) rfl (fun w' hw => X.move (by conv => lhs; whnf)) hS ?_
                        refine D.va 8 rfl (by kernel_rfl) (fun _ _ _ h => h) rfl (fun w' hw => X.move (by conv => lhs; whnf)) hS ?_
                        refine D.va 9 rfl (by kernel_rfl) (fun _ _ _ h => h) rfl (fun w' hw => (by first | exact X.indexAddrn rfl rfl Try.underlying22 sz_61 (by first | exact Option.some_ne_none _ | exact hAl | exact hAa) (by omega) | exact X.indexAddr rfl rfl Try.underlying22 sz_61 (by first | exact Option.some_ne_none _ | exact hAl | exact hAa) (by omega))) hS ?_
                        refine D.va 10 rfl (by kernel_rfl) (fun _ _ _ h => h) rfl (fun w' hw => X.fieldP rfl Try.underlying61 rfl sz_36 (by decide) (by first | exact Option.some_ne_none _ | exact hAl | exact hAa)) hS ?_
                        refine D.va 11 rfl (by kernel_rfl) (fun _ _ _ h => h) rfl (fun w' hw => X.load rfl sc_36 (Ld.flat2 ce_len (hra7.ext hw) gy (r := 0) rfl)) hS ?_
                        refine D.va 12 rfl (by kernel_rfl) (fun _ _ _ h => h) rfl (fun w' hw => X.neq rfl rfl) hS ?_
                        refine D.va 13 rfl (by kernel_rfl) (fun _ _ _ h => h) rfl (fun w' hw => X.pickT rfl (by conv => lhs; whnf)) hS ?_
                        refine D.va 14 rfl (by kernel_rfl) (fun _ _ _ h => h) rfl (fun w' hw => X.assign (by conv => lhs; whnf)) hS ?_
                        refine D.done (by kernel_rfl) ?_
                        refine J.region ?_
                        refine L.va rfl (X.move (by conv => lhs; whnf)) ?_
                        refine L.va rfl (X.add rfl rfl (by omega)) ?_
                        refine L.va rfl (X.assign (by conv => lhs; whnf)) ?_
                        refine L.nil ?_
                        refine ⟨(k + 1, !decide (x.1 = (y.k : Int))), At2 (by first | rfl | exact at_int rfl (by omega) | exact at_slice rfl (by omega) | exact at_int rfl (by simp)) (by first | rfl | exact at_int rfl (by omega) | exact at_slice rfl (by omega) | exact at_int rfl (by simp)), (by (iterate 23 refine Agr.lk rfl ?_); exact Agr.lk rfl (Agr.hav rfl Agr.rfl')), ?_⟩
                        refine ⟨⟨by omega, ?_, he7.trans hS⟩, by show l.length - (k + 1) < l.length - k; omega⟩
                        rw [et]
                        constructor
                        · intro h q hq
                          rcases List.mem_append.1 hq with h1 | h1
                          · exact hz.1 rfl q h1
                          · rw [List.mem_singleton] at h1
                            rw [h1]
                            simpa using h
                        · intro h
                          have := h x (by simp)
                          simpa using this
                    · obtain rfl : k = l.length := by omega
                      rw [List.take_length] at hz
                      refine J.exit ?_
                      refine ⟨z, At1 (by first | rfl | exact at_int rfl (by omega) | exact at_slice rfl (by omega) | exact at_int rfl (by simp)), (by (iterate 4 refine Agr.lk rfl ?_); refine Agr.lk rfl ?_; refine Agr.hav rfl ?_; (iterate 1 refine Agr.lk rfl ?_); exact Agr.rfl'), ?_⟩
                      exact ⟨hz, he7⟩
                · rintro z g w7 ⟨hz, he7⟩
                  have he07 := he6.trans he7
                  have z7 := he07.le
                  have ho7 := ho.ext he7
                  have hra7 := hra.low (Below.mono he07 hN) (Nat.le_refl _)
                  have hb := own_bd ho7
                  cases z
                  · refine J.seq ?_
                    refine J.region ?_
                    refine L.va rfl (X.move (by conv => lhs; whnf)) ?_
                    refine L.nil ?_
                    refine J.iteF rfl ?_
                    refine J.skip ?_
                    refine J.region ?_
                    refine L.va rfl (X.move (by conv => lhs; whnf)) ?_
                    refine L.va rfl (X.add rfl rfl (by omega)) ?_
                    refine L.va rfl (X.assign (by conv => lhs; whnf)) ?_
                    refine L.nil ?_
                    refine ⟨(i + 1, oA, o.length, oc, o), At2 (by first | rfl | exact at_int rfl (by omega) | exact at_slice rfl (by omega) | exact at_int rfl (by simp)) (by first | rfl | exact at_int rfl (by omega) | exact at_slice rfl (by omega) | exact at_int rfl (by simp)), (by (iterate 4 refine Agr.lk rfl ?_); refine Agr.lk rfl ?_; refine Agr.hav rfl ?_; (iterate 5 refine Agr.lk rfl ?_); exact Agr.lk rfl (Agr.hav rfl Agr.rfl')), ?_⟩
                    have hq : ∃ q ∈ l, q.1 = y.key := by
                      apply Decidable.byContradiction
                      intro h
                      have := hz.2 fun q hq e => h ⟨q, hq, e⟩
                      cases this
                    obtain ⟨q, hq1, hq2⟩ := hq
                    exact ⟨⟨by omega, rfl, by omega, ho7, hI.drop hin hq1 (by rw [← hy]; exact hq2), he07⟩, by show la.length - (i + 1) < la.length - i; omega⟩
                  · refine J.seq ?_
                    refine J.region ?_
                    refine L.va rfl (X.move (by conv => lhs; whnf)) ?_
                    refine L.nil ?_
                    refine J.iteT rfl ?_
                    have c8 := rwith15 oA o.length oc o y (hLa y (by rw [hy]; exact memD hin)).1.k (Reads.of_own ho7) rfl (by omega) hb.1 hb.2 (by rw [hy]; exact hI.fits Ra hin)
                    refine J.region ?_
                    refine L.va rfl (X.move (by conv => lhs; whnf)) ?_
                    refine L.va rfl (X.move (by conv => lhs; whnf)) ?_
                    refine L.va rfl (X.move (by conv => lhs; whnf)) ?_
                    refine L.va rfl ((by first | exact X.indexAddrn rfl rfl Try.underlying22 sz_61 (by first | exact Option.some_ne_none _ | exact hAa) (by omega) | exact X.indexAddr rfl rfl Try.underlying22 sz_61 (by first | exact Option.some_ne_none _ | exact hAa) (by omega))) ?_
                    refine L.va rfl (X.loadRow (cs := y.vs) rfl hra7 (fun r u hu => flat_row ce_len gy r u hu) (Nat.zero_lt_succ _) Try.underlying61 rfl (by kernel_rfl)) ?_
                    refine L.call rfl en_31 rfl (c8) ?_
                    rintro e w8 ⟨A8, c8, rfl, ho8, he8⟩
                    refine ⟨_, rfl, ?_⟩
                    refine L.va rfl (X.move (by conv => lhs; whnf)) ?_
                    refine L.va rfl (X.extract rfl rfl) ?_
                    refine L.va rfl (X.extract rfl rfl) ?_
                    refine L.va rfl (X.assign (by conv => lhs; whnf)) ?_
                    refine L.nil ?_
                    refine J.region ?_
                    refine L.va rfl (X.move (by conv => lhs; whnf)) ?_
                    refine L.va rfl (X.add rfl rfl (by omega)) ?_
                    refine L.va rfl (X.assign (by conv => lhs; whnf)) ?_
                    refine L.nil ?_
                    refine ⟨(i + 1, A8, o.length + 1, c8, insE o y), At2 (by first | rfl | exact at_int rfl (by omega) | exact at_slice rfl (by omega) | exact at_int rfl (by simp)) (by first | rfl | exact at_int rfl (by omega) | exact at_slice rfl (by omega) | exact at_int rfl (by simp)), (by (iterate 14 refine Agr.lk rfl ?_); refine Agr.lk rfl ?_; refine Agr.hav rfl ?_; (iterate 5 refine Agr.lk rfl ?_); exact Agr.lk rfl (Agr.hav rfl Agr.rfl')), ?_⟩
                    refine ⟨⟨by omega, insE_len _ _, by omega, own_lowB ho8 z7, ?_, he07.trans he8⟩, by show la.length - (i + 1) < la.length - i; omega⟩
                    have := hI.keep Ra hin (by rw [← hy]; exact hz.1 rfl)
                    rw [← hy] at this
                    exact this
              · obtain rfl : i = la.length := by omega
                refine J.exit ?_
                refine ⟨(oA, o.length, oc, o), At1 (by first | rfl | exact at_int rfl (by omega) | exact at_slice rfl (by omega) | exact at_int rfl (by simp)), (by (iterate 4 refine Agr.lk rfl ?_); refine Agr.lk rfl ?_; refine Agr.hav rfl ?_; (iterate 1 refine Agr.lk rfl ?_); exact Agr.rfl'), ?_⟩
                exact ⟨rfl, hmi, ho, hI, he6⟩
          · rintro ⟨oA, m, oc, o⟩ g w6 ⟨rfl, hmi, ho, hI, he6⟩
            refine J.seq ?_
            refine J.seq ?_
            refine J.region ?_
            refine L.va rfl (X.assign (by conv => lhs; whnf)) ?_
            refine L.nil ?_
            refine J.block ?_
            refine J.loop (X := Nat × Option Addr × Nat × Nat × List Ce) [11, 15, 140, 141, 142, 143, 144, 145, 146, 147, 148, 149, 150, 151, 152, 153, 154, 155, 156, 157, 158, 159, 160, 161, 162, 163, 164, 165, 166] (fun (k, oA, m, oc, o) => [(15, .int .i64 (k : Int)), (11, .slice oA m oc)]) (fun (k, oA, m, oc, o) w' => k ≤ l.length ∧ o.length = m ∧ m ≤ la.length + k ∧ w'.ownsRow w.heap.size 61 4 (.slice oA m oc) m (o.flatMap Ce.vs) ∧ PutI la lb l k o ∧ Ext w w') (fun (k, _) => l.length - k) ((0, oA, o.length, oc, o)) (At2 (by first | rfl | exact at_int rfl (by omega) | exact at_slice rfl (by omega) | exact at_int rfl (by simp)) (by first | rfl | exact at_int rfl (by omega) | exact at_slice rfl (by omega) | exact at_int rfl (by simp))) ?_ ?_
            · exact ⟨Nat.zero_le _, rfl, by omega, ho, hI.all, he6⟩
            · rintro ⟨k, oA, m, oc, o⟩ g w7 ⟨hk, rfl, hmk, ho, hI, he7⟩
              have z7 := he7.le
              refine J.seq ?_
              refine J.seq ?_
              refine J.region ?_
              refine L.va rfl (X.move (by conv => lhs; whnf)) ?_
              refine L.va rfl (X.move (by conv => lhs; whnf)) ?_
              refine L.va rfl (X.len rfl Try.underlying29) ?_
              refine L.va rfl (X.lss rfl rfl) ?_
              refine L.nil ?_
              refine J.dec rfl (fun hlt => ?_) (fun hlt => ?_)
              · have hkn : k < l.length := by omega
                have hrl7 := hrl.low (Below.mono he7 hN) (Nat.le_refl _)
                have hrb7 := hrb.low (Below.mono he7 hN) (Nat.le_refl _)
                have hAl := hrl7.some_ (by omega)
                have gx := gtC hkn
                have hf := hF k hkn
                obtain ⟨x, hx⟩ : ∃ x, x = l.getD k ((0, 0) : Int × Int) := ⟨_, rfl⟩
                rw [← hx] at gx hf
                have hb := own_bd ho
                refine J.skip ?_
                refine J.seq ?_
                refine J.block ?_
                refine J.seq ?_
                refine J.region ?_
                refine L.va rfl (X.move (by conv => lhs; whnf)) ?_
                refine L.va rfl (X.move (by conv => lhs; whnf)) ?_
                refine L.va rfl ((by first | exact X.indexAddrn rfl rfl Try.underlying29 sz_39 (by first | exact Option.some_ne_none _ | exact hAl) (by omega) | exact X.indexAddr rfl rfl Try.underlying29 sz_39 (by first | exact Option.some_ne_none _ | exact hAl) (by omega))) ?_
                refine L.va rfl (X.fieldP rfl Try.underlying39 rfl sz_3 (by decide) (by first | exact Option.some_ne_none _ | exact hAl)) ?_
                refine L.va rfl (X.load rfl sc_3 (by first | exact hAl | exact Ld.flat2 ch_len hrl7 gx (r := 1) rfl)) ?_
                refine L.va rfl (X.neq rfl rfl) ?_
                refine L.nil ?_
                refine J.ndec rfl (fun k1 => ?_) (fun k1 => ?_)
                · have cB := rhas43 (w := w7) B d lb x.1 hrb7 (by omega)
                  refine J.region ?_
                  refine L.va rfl (X.move (by conv => lhs; whnf)) ?_
                  refine L.va rfl (X.move (by conv => lhs; whnf)) ?_
                  refine L.va rfl (X.move (by conv => lhs; whnf)) ?_
                  refine L.va rfl (X.move (by conv => lhs; whnf)) ?_
                  refine L.va rfl (X.move (by conv => lhs; whnf)) ?_
                  refine L.va rfl ((by first | exact X.indexAddrn rfl rfl Try.underlying29 sz_39 (by first | exact Option.some_ne_none _ | exact hAl) (by omega) | exact X.indexAddr rfl rfl Try.underlying29 sz_39 (by first | exact Option.some_ne_none _ | exact hAl) (by omega))) ?_
                  refine L.va rfl (X.fieldP rfl Try.underlying39 rfl sz_36 (by decide) (by first | exact Option.some_ne_none _ | exact hAl)) ?_
                  refine L.va rfl (X.load rfl sc_36 (by first | exact hAl | exact Ld.flat2 ch_len hrl7 gx (r := 0) rfl)) ?_
                  refine L.call rfl en_24 rfl (cB) ?_
                  rintro e _ ⟨rfl, r, rfl, hr⟩
                  refine ⟨_, rfl, ?_⟩
                  have hr : ∃ j : Nat, r = (j : Int) ∧ j < lb.length ∧ (lb.getD j ce0).key = x.1 := by
                    rcases hr with ⟨_, hno⟩ | h
                    · rw [fault_11 (.inr ⟨k1, hasK_f.2 hno⟩)] at hf
                      cases hf
                    · exact h
                  obtain ⟨j, rfl, hj, hjk⟩ := hr
                  have hAb := hrb7.some_ (by omega)
                  have gy := gtX hj
                  obtain ⟨y, hy⟩ : ∃ y, y = lb.getD j ce0 := ⟨_, rfl⟩
                  have my := memD (l := lb) (i := j) (d := ce0) hj
                  rw [← hy] at gy hjk my
                  have c8 := rwith15 oA o.length oc o y (hLb y my).1.k (Reads.of_own ho) rfl (by omega) hb.1 hb.2 (by rw [hjk, hx]; exact hI.fits Rl hkn)
                  refine L.va rfl ((by first | exact X.indexAddrn rfl rfl Try.underlying22 sz_61 (by first | exact Option.some_ne_none _ | exact hAb) (by omega) | exact X.indexAddr rfl rfl Try.underlying22 sz_61 (by first | exact Option.some_ne_none _ | exact hAb) (by omega))) ?_
                  refine L.va rfl (X.loadRow (cs := y.vs) rfl hrb7 (fun r u hu => flat_row ce_len gy r u hu) (Nat.zero_lt_succ _) Try.underlying61 rfl (by kernel_rfl)) ?_
                  refine L.call rfl en_31 rfl (c8) ?_
                  rintro e w8 ⟨A8, c8, rfl, ho8, he8⟩
                  refine ⟨_, rfl, ?_⟩
                  refine L.va rfl (X.move (by conv => lhs; whnf)) ?_
                  refine L.va rfl (X.extract rfl rfl) ?_
                  refine L.va rfl (X.extract rfl rfl) ?_
                  refine L.va rfl (X.assign (by conv => lhs; whnf)) ?_
                  refine L.nil ?_
                  refine J.region ?_
                  refine L.va rfl (X.move (by conv => lhs; whnf)) ?_
                  refine L.va rfl (X.add rfl rfl (by omega)) ?_
                  refine L.va rfl (X.assign (by conv => lhs; whnf)) ?_
                  refine L.nil ?_
                  refine ⟨(k + 1, A8, o.length + 1, c8, insE o y), At2 (by first | rfl | exact at_int rfl (by omega) | exact at_slice rfl (by omega) | exact at_int rfl (by simp)) (by first | rfl | exact at_int rfl (by omega) | exact at_slice rfl (by omega) | exact at_int rfl (by simp)), (by (iterate 29 refine Agr.lk rfl ?_); exact Agr.lk rfl (Agr.hav rfl Agr.rfl')), ?_⟩
                  exact ⟨⟨by omega, insE_len _ _, by omega, own_lowB ho8 z7, hI.put Rb Rl hkn my (by rw [← hx]; exact hjk) (by rw [← hx]; exact k1), he7.trans he8⟩, by show l.length - (k + 1) < l.length - k; omega⟩
                · refine J.skip ?_
                  refine J.region ?_
                  refine L.va rfl (X.move (by conv => lhs; whnf)) ?_
                  refine L.va rfl (X.add rfl rfl (by omega)) ?_
                  refine L.va rfl (X.assign (by conv => lhs; whnf)) ?_
                  refine L.nil ?_
                  refine ⟨(k + 1, oA, o.length, oc, o), At2 (by first | rfl | exact at_int rfl (by omega) | exact at_slice rfl (by omega) | exact at_int rfl (by simp)) (by first | rfl | exact at_int rfl (by omega) | exact at_slice rfl (by omega) | exact at_int rfl (by simp)), (by (iterate 13 refine Agr.lk rfl ?_); exact Agr.lk rfl (Agr.hav rfl Agr.rfl')), ?_⟩
                  exact ⟨⟨by omega, rfl, by omega, ho, hI.skip hkn (by rw [← hx]; exact k1), he7⟩, by show l.length - (k + 1) < l.length - k; omega⟩
              · obtain rfl : k = l.length := by omega
                refine J.exit ?_
                refine J.seq ?_
                refine J.region ?_
                refine L.va rfl (X.move (by conv => lhs; whnf)) ?_
                refine L.va rfl (X.assign (by conv => lhs; whnf)) ?_
                refine L.va rfl (X.assign (by conv => lhs; whnf)) ?_
                refine L.nil ?_
                refine J.ret ?_
                refine fin2 ?_
                have hall : ∀ y ∈ o, y.At N w ∧ y.Lt := fun y hy => by
                  rcases (hI.mem y).1 hy with ⟨h, _⟩ | ⟨h, _⟩
                  · exact hLa y h
                  · exact hLb y h
                refine ⟨⟨oA, o.length, oc, o⟩, ?_, ⟨Reads.of_own ho, fun y hy => (((hall y hy).1.ext he7).more (by omega)), rfl, by show o.length ≤ maxLen; unfold maxLen; omega⟩, by show o.length ≤ 1000; omega, fun y hy => (hall y hy).2, fun h => absurd hE h, fun _ => hI.all, he7⟩
                rw [hE]
                rfl
end Go.Proofs.Ytpomklkfedpkfaa
namespace Go.Proofs.Ytpomklkfedpkfaa
set_option maxRecDepth 100000
open Go.RowKit H
open Dfp
set_option linter.unusedVariables false
theorem chs_of {w : World} {B n : Nat} {A : Option Addr} {xs : List ((Nm .u64) × (Nm .i64))} (h : LiesSlice w B A n xs) : ∃ l : List (Int × Int), l.length = n ∧ Reads w B 2 A n (l.flatMap chV) := by
  obtain ⟨l, h1, h2, h3⟩ := h.rows (X := Int × Int) (f := chV) (g := fun _ => True) (fun _ => rfl) (fun us a hl => by
    obtain ⟨u1, u2, rfl, k1, k2⟩ := hl
    refine ⟨(a.1.z, a.2.z), ?_, trivial⟩
    rw [show u1 = [.int .u64 a.1.z] from k1, show u2 = [.int .i64 a.2.z] from k2]
    rfl)
  exact ⟨l, h1, h2⟩
theorem law_DiffPatches (w : World) (A0 : Option Addr) (n0 c0 : Nat) (xs0 : List CeT) (hn0 : n0 ≤ c0) (hc0 : c0 ≤ maxLen) (hA0 : A0 = none → c0 = 0) (hl0 : LiesSlice w w.heap.size A0 n0 xs0) (A1 : Option Addr) (n1 c1 : Nat) (xs1 : List CeT) (hn1 : n1 ≤ c1) (hc1 : c1 ≤ maxLen) (hA1 : A1 = none → c1 = 0) (hl1 : LiesSlice w w.heap.size A1 n1 xs1) (A2 : Option Addr) (n2 c2 : Nat) (xs2 : List ((Nm .u64) × (Nm .i64))) (hn2 : n2 ≤ c2) (hc2 : c2 ≤ maxLen) (hA2 : A2 = none → c2 = 0) (hl2 : LiesSlice w w.heap.size A2 n2 xs2) :
    Calls Try.prog 4 #[.slice A0 n0 c0, .slice A1 n1 c1, .slice A2 n2 c2] w fun e w' => e = .returned (.bool true) ∧ Below w.heap.size w w' := by
  obtain ⟨la, Ha⟩ := ces_of (c := c0) hl0 (Nat.le_trans hn0 hc0)
  obtain ⟨lb, Hb⟩ := ces_of (c := c1) hl1 (Nat.le_trans hn1 hc1)
  obtain rfl : la.length = n0 := Ha.l
  obtain rfl : lb.length = n1 := Hb.l
  obtain ⟨l, rfl, hrl⟩ := chs_of hl2
  have ra : Reads w w.heap.size 4 A0 la.length (la.flatMap Ce.vs) := Ha.r
  have rb : Reads w w.heap.size 4 A1 lb.length (lb.flatMap Ce.vs) := Hb.r
  have hm2 : l.length ≤ maxLen := Nat.le_trans hn2 hc2
  unfold maxLen at hm2
  refine enter Try.func4 rfl (by kernel_rfl) ?_
  refine J.seq ?_
  refine J.region ?_
  refine L.va rfl (X.assign (by conv => lhs; whnf)) ?_
  refine L.nil ?_
  refine J.seq ?_
  refine J.seq ?_
  refine J.region ?_
  refine L.va rfl (X.move (by conv => lhs; whnf)) ?_
  have K01 := rlight15 (s := Ces.mk A0 la.length c0 la) Ha (Nat.le_refl _)
  refine L.call rfl en_6 rfl (K01) ?_
  rintro e w1 ⟨he1, z1, rfl, hz1⟩
  refine ⟨_, rfl, ?_⟩
  have he1 : Ext w w1 := he1
  refine L.va rfl (X.not rfl) ?_
  refine L.va rfl (X.move (by conv => lhs; whnf)) ?_
  by_cases k1 : z1 = true
  · subst k1
    obtain ⟨La, LLa⟩ := hz1 rfl
    have La : la.length ≤ 60 := La
    have LLa : ∀ x ∈ la, x.Lt := LLa
    refine L.caseBF (k := 16) rfl (by rfl) ?_
    refine L.va rfl (X.move (by conv => lhs; whnf)) ?_
    have K02 := rlight15 (s := Ces.mk A1 lb.length c1 lb) (Hb.ext he1) he1.le
    refine L.call rfl en_6 rfl (K02) ?_
    rintro e w2 ⟨he2, z2, rfl, hz2⟩
    refine ⟨_, rfl, ?_⟩
    have he02 : Ext w w2 := he1.trans he2
    refine L.va rfl (X.not rfl) ?_
    refine L.va rfl (X.pickF rfl (by conv => lhs; whnf)) ?_
    refine L.va rfl (X.move (by conv => lhs; whnf)) ?_
    by_cases k2 : z2 = true
    · subst k2
      obtain ⟨Lb, LLb⟩ := hz2 rfl
      have Lb : lb.length ≤ 60 := Lb
      have LLb : ∀ x ∈ lb, x.Lt := LLb
      have q2 := he02.le
      refine L.caseBF (k := 21) rfl (by rfl) ?_
      refine L.va rfl (X.move (by conv => lhs; whnf)) ?_
      refine L.va rfl (X.len rfl Try.underlying25) ?_
      refine L.va rfl (X.gtr rfl rfl) ?_
      refine L.va rfl (X.pickF rfl (by conv => lhs; whnf)) ?_
      refine L.nil ?_
      refine J.dec rfl (fun h3 => ?_) (fun h3 => ?_)
      · refine J.seq ?_
        refine J.region ?_
        refine L.call rfl en_7 rfl (awake43 w2) ?_
        rintro e w3 ⟨rfl, he3⟩
        refine ⟨_, rfl, ?_⟩
        refine L.va rfl (X.assign (by conv => lhs; whnf)) ?_
        refine L.nil ?_
        refine J.ret ?_
        refine thn_ret <| ?_
        refine fin1 ?_
        exact ⟨rfl, he02.trans he3⟩
      · have Ll : l.length ≤ 60 := by omega
        refine J.skip ?_
        refine J.seq ?_
        refine J.region ?_
        refine L.va rfl (X.assign (by conv => lhs; whnf)) ?_
        refine L.nil ?_
        refine J.cut (X := Option Addr × Nat) [7, 8, 27, 28, 29, 30, 31, 32, 33, 34, 35, 36, 37, 38, 39, 40, 41, 42, 43, 44, 45, 46] (fun (oA, oc) => [(7, .slice oA l.length oc)]) (fun (oA, oc) w' => w'.ownsRow w.heap.size 39 2 (.slice oA l.length oc) l.length (l.flatMap chV) ∧ Ext w w') ?_ ?_
        · refine J.seq ?_
          refine J.region ?_
          refine L.va rfl (X.assign (by conv => lhs; whnf)) ?_
          refine L.nil ?_
          refine J.block ?_
          refine J.loop (X := Nat × Option Addr × Nat) [7, 8, 27, 28, 29, 30, 31, 32, 33, 34, 35, 36, 37, 38, 39, 40, 41, 42, 43, 44, 45, 46] (fun (i, oA, oc) => [(8, .int .i64 (i : Int)), (7, .slice oA i oc)]) (fun (i, oA, oc) w' => i ≤ l.length ∧ w'.ownsRow w.heap.size 39 2 (.slice oA i oc) i ((l.take i).flatMap chV) ∧ Ext w w') (fun (i, _) => l.length - i) ((0, none, 0)) (At2 (by first | rfl | exact at_int rfl (by omega) | exact at_slice rfl (by omega) | exact at_int rfl (by simp)) (by first | rfl | exact at_int rfl (by omega) | exact at_slice rfl (by omega) | exact at_int rfl (by simp))) ?_ ?_
          · exact ⟨Nat.zero_le _, own_nil _ _ _ _, he02⟩
          · rintro ⟨i, oA, oc⟩ g w3 ⟨hi, ho, he3⟩
            have z3 := he3.le
            refine J.seq ?_
            refine J.seq ?_
            refine J.region ?_
            refine L.va rfl (X.move (by conv => lhs; whnf)) ?_
            refine L.va rfl (X.move (by conv => lhs; whnf)) ?_
            refine L.va rfl (X.len rfl Try.underlying25) ?_
            refine L.va rfl (X.lss rfl rfl) ?_
            refine L.nil ?_
            refine J.dec rfl (fun hlt => ?_) (fun hlt => ?_)
            · have hin : i < l.length := by omega
              have hA := hrl.some_ (by omega)
              have gx := gtC hin
              obtain ⟨x, hx⟩ : ∃ x, x = l.getD i ((0, 0) : Int × Int) := ⟨_, rfl⟩
              rw [← hx] at gx
              have et := take_oneL hin
              rw [← hx] at et
              refine J.skip ?_
              refine J.seq ?_
              refine J.block ?_
              refine J.draw (ℓ := 1000000) (S := (fun w' => Ext w w')) mixed (fun w4 hSE hS_h => ?_)
              have hS : ((fun w' => Ext w w')) w4 := he3.trans hSE
              have ho4 := ho.ext hSE
              have z4 := hS.le
              refine D.va 0 rfl (by kernel_rfl) (fun _ _ _ h => h) rfl (fun w' hw => X.move (by conv => lhs; whnf)) hS ?_
              refine D.va 1 rfl (by kernel_rfl) (fun _ _ _ h => h) rfl (fun w' hw => X.move (by conv => lhs; whnf)) hS ?_
              refine D.va 2 rfl (by kernel_rfl) (fun _ _ _ h => h) rfl (fun w' hw => X.move (by conv => lhs; whnf)) hS ?_
              refine D.va 3 rfl (by kernel_rfl) (fun _ _ _ h => h) rfl (fun w' hw => (by first | exact X.indexAddrn rfl rfl Try.underlying25 sz_38 (by first | exact Option.some_ne_none _ | exact hA) (by omega) | exact X.indexAddr rfl rfl Try.underlying25 sz_38 (by first | exact Option.some_ne_none _ | exact hA) (by omega))) hS ?_
              refine D.va 4 rfl (by kernel_rfl) (fun _ _ _ h => h) rfl (fun w' hw => X.fieldP rfl Try.underlying38 rfl sz_36 (by decide) (by first | exact Option.some_ne_none _ | exact hA)) hS ?_
              refine D.va 5 rfl (by kernel_rfl) (fun _ _ _ h => h) rfl (fun w' hw => X.load rfl sc_36 (by first | exact hA | exact Ld.flat2 ch_len (hrl.ext hw) gx (r := 0) rfl | exact Ld.flat2 ch_len (hrl.ext hw) gx (r := 1) rfl)) hS ?_
              refine D.va 6 rfl (by kernel_rfl) (fun _ _ _ h => h) rfl (fun w' hw => X.move (by conv => lhs; whnf)) hS ?_
              refine D.va 7 rfl (by kernel_rfl) (fun _ _ _ h => h) rfl (fun w' hw => X.move (by conv => lhs; whnf)) hS ?_
              refine D.va 8 rfl (by kernel_rfl) (fun _ _ _ h => h) rfl (fun w' hw => (by first | exact X.indexAddrn rfl rfl Try.underlying25 sz_38 (by first | exact Option.some_ne_none _ | exact hA) (by omega) | exact X.indexAddr rfl rfl Try.underlying25 sz_38 (by first | exact Option.some_ne_none _ | exact hA) (by omega))) hS ?_
              refine D.va 9 rfl (by kernel_rfl) (fun _ _ _ h => h) rfl (fun w' hw => X.fieldP rfl Try.underlying38 rfl sz_3 (by decide) (by first | exact Option.some_ne_none _ | exact hA)) hS ?_
              refine D.va 10 rfl (by kernel_rfl) (fun _ _ _ h => h) rfl (fun w' hw => X.load rfl sc_3 (by first | exact hA | exact Ld.flat2 ch_len (hrl.ext hw) gx (r := 0) rfl | exact Ld.flat2 ch_len (hrl.ext hw) gx (r := 1) rfl)) hS ?_
              refine D.va 11 rfl (by kernel_rfl) (fun _ _ _ h => h) rfl (fun w' hw => X.build (l := [_, _]) (Evs.cons (by conv => lhs; whnf) (Evs.cons (by conv => lhs; whnf) Evs.nil)) (bld_run Try.underlying39 (bp_39 Try.underlying39) zr_39 rfl)) hS ?_
              refine D.one 12 (by kernel_rfl) rfl ?_
              refine L.bslice1 (l := [_, _]) rfl rfl rfl Try.underlying29 sz_39 zr_39 rfl ?_
              intro b5 w5 hb5 hs5 hk5 he5
              have hS1 := hS.trans he5
              refine L.nil ?_
              refine ⟨fun _ => hS1, ?_⟩
              have ho5 := ho4.ext he5
              have z5 := hS1.le
              refine D.one 13 (by kernel_rfl) rfl ?_
              refine L.appendV (q := i + 1) (ys := ((l.take i ++ [x]).flatMap chV)) rfl rfl rfl Try.underlying29 el_39 (ho5) ((blk_readsN (sz := 2) (q := 1) (l := chV x) hk5 hk5.lt rfl)) (by first | rfl | exact strs_ones _ | assumption) (by omega) (by simp) (by unfold maxLen; omega) (by omega) ?_
              intro A6 c6 w6 ho6 hg6 hb6 hor6
              have hS2 := hS1.grw hg6 (fun g hg ↦ (ho5.lt g hg).1)
              refine L.nil ?_
              refine ⟨fun _ => hS2, ?_⟩
              refine D.va 14 rfl (by kernel_rfl) (fun _ _ _ h => h) rfl (fun w' hw => X.assign (by conv => lhs; whnf)) hS2 ?_
              refine D.done (by kernel_rfl) ?_
              refine J.region ?_
              refine L.va rfl (X.move (by conv => lhs; whnf)) ?_
              refine L.va rfl (X.add rfl rfl (by omega)) ?_
              refine L.va rfl (X.assign (by conv => lhs; whnf)) ?_
              refine L.nil ?_
              refine ⟨(i + 1, A6, c6), At2 (by first | rfl | exact at_int rfl (by omega) | exact at_slice rfl (by omega) | exact at_int rfl (by simp)) (by first | rfl | exact at_int rfl (by omega) | exact at_slice rfl (by omega) | exact at_int rfl (by simp)), (by (iterate 22 refine Agr.lk rfl ?_); exact Agr.lk rfl (Agr.hav rfl Agr.rfl')), ?_⟩
              rw [← et] at ho6
              exact ⟨⟨by omega, ho6, hS2⟩, by show l.length - (i + 1) < l.length - i; omega⟩
            · obtain rfl : i = l.length := by omega
              rw [List.take_length] at ho
              refine J.exit ?_
              refine ⟨(oA, oc), At1 (by first | rfl | exact at_int rfl (by omega) | exact at_slice rfl (by omega) | exact at_int rfl (by simp)), (by (iterate 4 refine Agr.lk rfl ?_); refine Agr.lk rfl ?_; refine Agr.hav rfl ?_; (iterate 1 refine Agr.lk rfl ?_); exact Agr.rfl'), ?_⟩
              exact ⟨ho, he3⟩
        · rintro ⟨oA, oc⟩ g w3 ⟨ho, he03⟩
          have q3 := he03.le
          have K3 := dpatch (w := w3) (N := w.heap.size) q3 A0 c0 la (ra.ext he03) hn0 A2 c2 l (hrl.ext he03) A1 c1 lb (rb.ext he03) (by omega) (fun x hx => ⟨(Ha.h x hx).ext he03, LLa x hx⟩) (fun x hx => ⟨(Hb.h x hx).ext he03, LLb x hx⟩)
          refine J.seq ?_
          refine J.region ?_
          refine L.va rfl (X.move (by conv => lhs; whnf)) ?_
          refine L.va rfl (X.move (by conv => lhs; whnf)) ?_
          refine L.va rfl (X.move (by conv => lhs; whnf)) ?_
          refine L.call rfl en_11 rfl (K3) ?_
          rintro e w4 ⟨t, rfl, hat, htc, ht1, htL, hbad, hok, he4⟩
          refine ⟨_, rfl, ?_⟩
          have he4 : Ext w3 w4 := he4
          have he04 := he03.trans he4
          have q4 := he04.le
          have q34 := he4.le
          have K4 := rpatch (w := w4) (N := w3.heap.size) q34 A0 c0 la ((ra.ext he04).more q3) oA oc l ((Reads.of_own ho).ext he4) A1 c1 lb ((rb.ext he04).more q3) (by omega) (fun x hx => ⟨((Ha.h x hx).ext he04).more q3, LLa x hx⟩) (fun x hx => ⟨((Hb.h x hx).ext he04).more q3, LLb x hx⟩)
          refine L.va rfl (X.move (by conv => lhs; whnf)) ?_
          refine L.va rfl (X.extract rfl rfl) ?_
          refine L.va rfl (X.extract rfl rfl) ?_
          refine L.va rfl (X.assign (by conv => lhs; whnf)) ?_
          refine L.va rfl (X.assign (by conv => lhs; whnf)) ?_
          refine L.nil ?_
          refine J.seq ?_
          refine J.region ?_
          refine L.va rfl (X.move (by conv => lhs; whnf)) ?_
          refine L.va rfl (X.move (by conv => lhs; whnf)) ?_
          refine L.va rfl (X.move (by conv => lhs; whnf)) ?_
          refine L.call rfl en_13 rfl (K4) ?_
          rintro e w5 ⟨u, rfl, hau, hu1, huL, hbadu, hoku, he5⟩
          refine ⟨_, rfl, ?_⟩
          have he5 : Ext w4 w5 := he5
          have he05 := he04.trans he5
          have q5 := he5.le
          have hcon : t.con = u.con := by
            by_cases hE : patE la l lb = 0
            · obtain ⟨o, hPo, hc⟩ := hok hE
              rw [hc, hPo.one (hoku hE)]
            · rw [hbad hE]
              show [] = u.l.map Ce.con
              rw [hbadu hE]
              rfl
          have hs1 : sameL t.con u.con = true := by rw [hcon]; exact sameL_refl _
          have K5 := rsame15 (a := t) (b := u) ((hat.ext he5).more q5) hau (Nat.le_refl _) (by omega) (fun x hx => by have := (htL x hx).i; have := (htL x hx).r; omega)
          rw [hs1] at K5
          refine L.va rfl (X.move (by conv => lhs; whnf)) ?_
          refine L.va rfl (X.extract rfl rfl) ?_
          refine L.va rfl (X.extract rfl rfl) ?_
          refine L.va rfl (X.assign (by conv => lhs; whnf)) ?_
          refine L.va rfl (X.assign (by conv => lhs; whnf)) ?_
          refine L.nil ?_
          refine J.seq ?_
          refine J.region ?_
          refine L.va rfl (X.move (by conv => lhs; whnf)) ?_
          refine L.va rfl (X.move (by conv => lhs; whnf)) ?_
          refine L.va rfl (X.eql rfl rfl) ?_
          refine L.va rfl (X.move (by conv => lhs; whnf)) ?_
          refine L.caseDecT (k := 64) rfl (by rfl) ?_
          refine L.va rfl (X.move (by conv => lhs; whnf)) ?_
          refine L.va rfl (X.move (by conv => lhs; whnf)) ?_
          refine L.call rfl en_12 rfl (K5) ?_
          rintro e w6 ⟨rfl, he6⟩
          refine ⟨_, rfl, ?_⟩
          have he06 := he05.trans he6
          refine L.va rfl (X.pickT rfl (by conv => lhs; whnf)) ?_
          refine L.va rfl (X.move (by conv => lhs; whnf)) ?_
          refine L.caseBT (k := 69) rfl (by rfl) ?_
          refine L.call rfl en_7 rfl (awake43 w6) ?_
          rintro e w7 ⟨rfl, he7⟩
          refine ⟨_, rfl, ?_⟩
          refine L.va rfl (X.pickT rfl (by conv => lhs; whnf)) ?_
          refine L.va rfl (X.assign (by conv => lhs; whnf)) ?_
          refine L.nil ?_
          refine J.ret ?_
          refine fin1 ?_
          exact ⟨rfl, he06.trans he7⟩
    · have k2 : z2 = false := by simpa using k2
      subst k2
      refine L.caseBT (k := 21) rfl (by rfl) ?_
      refine L.no rfl ?_
      refine L.no rfl ?_
      refine L.no rfl ?_
      refine L.va rfl (X.pickT rfl (by conv => lhs; whnf)) ?_
      refine L.nil ?_
      refine J.iteT rfl ?_
      refine J.seq ?_
      refine J.region ?_
      refine L.call rfl en_7 rfl (awake43 w2) ?_
      rintro e w3 ⟨rfl, he3⟩
      refine ⟨_, rfl, ?_⟩
      refine L.va rfl (X.assign (by conv => lhs; whnf)) ?_
      refine L.nil ?_
      refine J.ret ?_
      refine thn_ret <| ?_
      refine fin1 ?_
      exact ⟨rfl, he02.trans he3⟩
  · have k1 : z1 = false := by simpa using k1
    subst k1
    refine L.caseBT (k := 16) rfl (by rfl) ?_
    refine L.no rfl ?_
    refine L.no rfl ?_
    refine L.no rfl ?_
    refine L.va rfl (X.pickT rfl (by conv => lhs; whnf)) ?_
    refine L.va rfl (X.move (by conv => lhs; whnf)) ?_
    refine L.no rfl ?_
    refine L.no rfl ?_
    refine L.no rfl ?_
    refine L.va rfl (X.pickT rfl (by conv => lhs; whnf)) ?_
    refine L.nil ?_
    refine J.iteT rfl ?_
    refine J.seq ?_
    refine J.region ?_
    refine L.call rfl en_7 rfl (awake43 w1) ?_
    rintro e w2 ⟨rfl, he2⟩
    refine ⟨_, rfl, ?_⟩
    refine L.va rfl (X.assign (by conv => lhs; whnf)) ?_
    refine L.nil ?_
    refine J.ret ?_
    refine thn_ret <| ?_
    refine fin1 ?_
    exact ⟨rfl, he1.trans he2⟩
end Go.Proofs.Ytpomklkfedpkfaa
