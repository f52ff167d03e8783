/-
  The first of many, by a heap of places: plain mathematics.
-/
import Derived.Test.YtmnlaekcojblkaaHeapK
import Derived.Test.YtmnlaekcojblkaaOrdPlain
namespace Go.Proofs.Ytmnlaekcojblkaa
set_option linter.unusedVariables false
namespace Tou
open HeapK
theorem countP_lt {α : Type} {p q : α → Bool} : ∀ {l : List α}, (∀ x ∈ l, p x = true → q x = true) → (∃ x ∈ l, q x = true ∧ p x = false) → l.countP p < l.countP q
  | [], _, h => by obtain ⟨x, hx, _⟩ := h; cases hx
  | a :: l, h, h' => by
    obtain ⟨x, hx, h1, h2⟩ := h'
    have hm : l.countP p ≤ l.countP q := List.countP_mono_left fun y hy => h y (List.mem_cons_of_mem _ hy)
    rw [List.countP_cons, List.countP_cons]
    rcases List.mem_cons.1 hx with rfl | hx
    · rw [h1, h2]
      simp only [if_true, Bool.false_eq_true, if_false]
      omega
    · have := countP_lt (l := l) (fun y hy => h y (List.mem_cons_of_mem _ hy)) ⟨x, hx, h1, h2⟩
      have ha := h a (List.mem_cons_self ..)
      cases hp : p a with
      | false => simp only [Bool.false_eq_true, if_false]; omega
      | true => rw [ha hp]; simp only [if_true]; omega
theorem nodup_sub {α : Type} [DecidableEq α] : ∀ (l m : List α), l.Nodup → (∀ x ∈ l, x ∈ m) → l.length ≤ m.length
  | [], m, _, _ => Nat.zero_le _
  | a :: l, m, hd, h => by
    have hm := h a (List.mem_cons_self ..)
    have h1 := nodup_sub l (m.erase a) (List.nodup_cons.1 hd).2 (fun x hx => (List.mem_erase_of_ne (fun e : x = a => (List.nodup_cons.1 hd).1 (by rw [← e]; exact hx))).2 (h x (List.mem_cons_of_mem _ hx)))
    rw [List.length_erase_of_mem hm] at h1
    have := List.length_pos_of_mem hm
    simp only [List.length_cons]
    omega
theorem nodup_map {α β : Type} {f : α → β} : ∀ {l : List α}, l.Nodup → (∀ x ∈ l, ∀ y ∈ l, f x = f y → x = y) → (l.map f).Nodup
  | [], _, _ => List.nodup_nil
  | a :: l, hd, h => by
    rw [List.map_cons, List.nodup_cons]
    rw [List.nodup_cons] at hd
    refine ⟨fun hm => ?_, nodup_map hd.2 fun x hx y hy => h x (List.mem_cons_of_mem _ hx) y (List.mem_cons_of_mem _ hy)⟩
    obtain ⟨y, hy, e⟩ := List.mem_map.1 hm
    have := h y (List.mem_cons_of_mem _ hy) a (List.mem_cons_self ..) e
    subst this
    exact hd.1 hy
/-- a strict order of places -/
structure Ord (R : Nat → Nat → Bool) : Prop where
  irr : ∀ a, R a a = false
  tr : ∀ {a b c}, R a b = true → R b c = true → R a c = true
  tot : ∀ {a b}, a ≠ b → R a b = false → R b a = true
/-- how many stand ahead -/
def pos (R : Nat → Nat → Bool) (n i : Nat) : Nat := (List.range n).countP fun j => R j i
variable {R : Nat → Nat → Bool}
theorem Ord.asym (h : Ord R) {a b : Nat} (k : R a b = true) : R b a = false := by
  cases k2 : R b a with
  | false => rfl
  | true =>
    have := h.tr k k2
    rw [h.irr] at this
    cases this
theorem Ord.pos_lt (h : Ord R) {n a b : Nat} (ha : a < n) (k : R a b = true) : pos R n a < pos R n b :=
  countP_lt (fun x _ hx => h.tr hx k) ⟨a, List.mem_range.2 ha, k, h.irr a⟩
theorem Ord.lt_iff (h : Ord R) {n a b : Nat} (ha : a < n) (hb : b < n) : pos R n a < pos R n b ↔ R a b = true := by
  constructor
  · intro k
    cases e : R a b with
    | true => rfl
    | false =>
      by_cases hab : a = b
      · subst hab; omega
      · have := h.pos_lt hb (h.tot hab e)
        omega
  · exact h.pos_lt ha
theorem Ord.inj (h : Ord R) {n a b : Nat} (ha : a < n) (hb : b < n) (e : pos R n a = pos R n b) : a = b := by
  apply Decidable.byContradiction
  intro hne
  cases k : R a b with
  | true => have := h.pos_lt ha k; omega
  | false => have := h.pos_lt hb (h.tot hne k); omega
/-- the key of a heap that has the last on top -/
def kap (R : Nat → Nat → Bool) (n : Nat) (x : Int) : Int := -((pos R n x.toNat : Nat) : Int)
theorem kap_lt {n : Nat} {x y : Int} : kap R n x < kap R n y ↔ pos R n y.toNat < pos R n x.toNat := by unfold kap; omega
theorem kap_le {n : Nat} {x y : Int} : kap R n x ≤ kap R n y ↔ pos R n y.toNat ≤ pos R n x.toNat := by unfold kap; omega
theorem getD_el {l : List Int} {j : Nat} (h : j < l.length) : l.getD j 0 = l[j] := by simp [List.getD, h]
theorem root_last {n : Nat} {l : List Int} (h : Heapk (kap R n) 0 l.length l) : ∀ x ∈ l, pos R n x.toNat ≤ pos R n (l.getD 0 0).toNat := by
  intro x hx
  obtain ⟨j, hj, rfl⟩ := List.getElem_of_mem hx
  have := heapk_root h j hj
  rw [kap_le, getD_el hj] at this
  exact this
/-- the places that stand first among i places -/
structure In1 (R : Nat → Nat → Bool) (n i k : Nat) (l : List Int) : Prop where
  nd : l.Nodup
  el : ∀ x ∈ l, 0 ≤ x ∧ x < (i : Int)
  hp : Heapk (kap R n) 0 l.length l
  ln : l.length = min i k
  ou : ∀ y : Int, 0 ≤ y → y < (i : Int) → y ∈ l ∨ (l.length = k ∧ ∀ x ∈ l, pos R n x.toNat < pos R n y.toNat)
theorem In1.nil (k : Nat) (n : Nat) : In1 R n 0 k [] :=
  ⟨List.nodup_nil, (fun x hx => by cases hx), (fun k h1 h2 => absurd h2 (by simp)), by simp, fun y h0 h1 => absurd h1 (by omega)⟩
theorem In1.add {n i k : Nat} {l : List Int} (h : In1 R n i k l) (hlt : l.length < k) : In1 R n (i + 1) k (siftUk (kap R n) (l.length + 1) (l ++ [(i : Int)]) l.length) := by
  have hl : (l ++ [(i : Int)]).length = l.length + 1 := by simp
  have hat : ∀ k, k < l.length → (l ++ [(i : Int)]).getD k 0 = l.getD k 0 := fun k hk => by simp only [List.getD, List.getElem?_append_left hk]
  have hP := siftUk_perm (κ := kap R n) (l.length + 1) (l ++ [(i : Int)]) l.length (by omega)
  have hi : (i : Int) ∉ l := fun hm => by have := (h.el _ hm).2; omega
  have hm : ∀ x, x ∈ siftUk (kap R n) (l.length + 1) (l ++ [(i : Int)]) l.length ↔ x ∈ l ∨ x = (i : Int) := fun x => by
    rw [hP.mem_iff, List.mem_append, List.mem_singleton]
  have hln := h.ln
  refine ⟨?_, ?_, ?_, ?_, ?_⟩
  · rw [hP.nodup_iff, List.nodup_append]
    refine ⟨h.nd, by simp, fun a ha b hb e => ?_⟩
    rw [List.mem_singleton] at hb
    subst hb
    subst e
    exact hi ha
  · intro x hx
    rcases (hm x).1 hx with hx | rfl
    · have := h.el x hx; omega
    · omega
  · rw [siftUk_length]
    refine siftUk_heap _ _ _ (by omega) (by omega) (fun k hk0 hkn hne => ?_) (fun hj0 k hk0 hkn hp => ?_)
    · rw [hl] at hkn
      rw [hat _ (by omega), hat _ (by omega)]
      exact h.hp k hk0 (by omega) (Nat.zero_le _)
    · rw [hl] at hkn
      omega
  · rw [siftUk_length, hl]
    omega
  · intro y h0 hy
    refine .inl ((hm y).2 ?_)
    by_cases hyi : y = (i : Int)
    · exact .inr hyi
    · rcases h.ou y h0 (by omega) with k | ⟨k, _⟩
      · exact .inl k
      · omega
theorem mem_put {l : List Int} {v x : Int} (hd : l.Nodup) (hpos : 0 < l.length) : x ∈ l.set 0 v ↔ (x ∈ l ∧ x ≠ l.getD 0 0) ∨ x = v := by
  cases l with
  | nil => exact absurd hpos (by simp)
  | cons a l =>
    rw [List.nodup_cons] at hd
    rw [show (a :: l).getD 0 0 = a from rfl, List.set_cons_zero, List.mem_cons, List.mem_cons]
    constructor
    · rintro (h | h)
      · exact .inr h
      · exact .inl ⟨.inr h, fun e => hd.1 (e ▸ h)⟩
    · rintro (⟨h | h, h2⟩ | h)
      · exact absurd h h2
      · exact .inr h
      · exact .inl h
theorem nodup_put {l : List Int} {v : Int} (hd : l.Nodup) (hv : v ∉ l) : (l.set 0 v).Nodup := by
  cases l with
  | nil => simp
  | cons a l =>
    rw [List.nodup_cons] at hd
    rw [List.set_cons_zero, List.nodup_cons]
    exact ⟨fun h => hv (List.mem_cons_of_mem _ h), hd.2⟩
theorem getD_mem {l : List Int} {j : Nat} (h : j < l.length) : l.getD j 0 ∈ l := by rw [getD_el h]; exact List.getElem_mem _
theorem In1.put {n i k : Nat} {l : List Int} (hR : Ord R) (h : In1 R n i k l) (hin : i < n) (hk : l.length = k) (hk0 : 0 < k) (ha : R i (l.getD 0 0).toNat = true) : In1 R n (i + 1) k (siftDk (kap R n) l.length (l.set 0 (i : Int)) 0 l.length) := by
  have hpos : 0 < l.length := by omega
  have hP := siftDk_perm (κ := kap R n) l.length (l.set 0 (i : Int)) 0 l.length (by simp)
  have hi : (i : Int) ∉ l := fun hm => by have := (h.el _ hm).2; omega
  have hm : ∀ x, x ∈ siftDk (kap R n) l.length (l.set 0 (i : Int)) 0 l.length ↔ (x ∈ l ∧ x ≠ l.getD 0 0) ∨ x = (i : Int) := fun x => by rw [hP.mem_iff, mem_put h.nd hpos]
  have hr := root_last h.hp
  have hrm := getD_mem hpos
  have hrn := h.el _ hrm
  have hlt : pos R n i < pos R n (l.getD 0 0).toNat := hR.pos_lt hin ha
  have hln := h.ln
  have hL : (siftDk (kap R n) l.length (l.set 0 (i : Int)) 0 l.length).length = l.length := by rw [siftDk_length, List.length_set]
  have hlow : ∀ x, x ∈ siftDk (kap R n) l.length (l.set 0 (i : Int)) 0 l.length → pos R n x.toNat < pos R n (l.getD 0 0).toNat := by
    intro x hx
    rcases (hm x).1 hx with ⟨hx, hne⟩ | rfl
    · have h1 := hr x hx
      have h2 := h.el x hx
      rcases Nat.lt_or_eq_of_le h1 with h1 | h1
      · exact h1
      · have := hR.inj (n := n) (a := x.toNat) (b := (l.getD 0 0).toNat) (by omega) (by omega) h1
        omega
    · rw [Int.toNat_natCast]; exact hlt
  refine ⟨?_, ?_, ?_, ?_, ?_⟩
  · rw [hP.nodup_iff]
    exact nodup_put h.nd hi
  · intro x hx
    rcases (hm x).1 hx with ⟨hx, _⟩ | rfl
    · have := h.el x hx; omega
    · omega
  · rw [hL]
    refine siftDk_heap _ _ _ _ _ (by simp) (by omega) (fun k hk0 hkn _ hne => ?_) (fun h0 => absurd h0 (by omega))
    rw [getD_set _ _ _ _ hpos, getD_set _ _ _ _ hpos, if_neg (by omega), if_neg (by omega)]
    exact h.hp k hk0 (by omega) (Nat.zero_le _)
  · rw [hL]
    omega
  · intro y h0 hy
    by_cases hyi : y = (i : Int)
    · exact .inl ((hm y).2 (.inr hyi))
    · by_cases hyr : y = l.getD 0 0
      · refine .inr ⟨by rw [hL]; exact hk, fun x hx => ?_⟩
        rw [hyr]
        exact hlow x hx
      · rcases h.ou y h0 (by omega) with k | ⟨k1, k2⟩
        · exact .inl ((hm y).2 (.inl ⟨k, hyr⟩))
        · refine .inr ⟨by rw [hL]; exact hk, fun x hx => ?_⟩
          have := hlow x hx
          have := k2 _ hrm
          omega
theorem In1.skip {n i k : Nat} {l : List Int} (hR : Ord R) (h : In1 R n i k l) (hin : i < n) (hk : l.length = k) (hk0 : 0 < k) (ha : R i (l.getD 0 0).toNat = false) : In1 R n (i + 1) k l := by
  have hpos : 0 < l.length := by omega
  have hrm := getD_mem hpos
  have hrn := h.el _ hrm
  have hr := root_last h.hp
  have hln := h.ln
  have hlt : pos R n (l.getD 0 0).toNat < pos R n i := hR.pos_lt (by omega) (hR.tot (by omega) ha)
  refine ⟨h.nd, fun x hx => ?_, h.hp, by omega, fun y h0 hy => ?_⟩
  · have := h.el x hx; omega
  · by_cases hyi : y = (i : Int)
    · subst hyi
      refine .inr ⟨hk, fun x hx => ?_⟩
      have := hr x hx
      rw [Int.toNat_natCast]
      omega
    · exact h.ou y h0 (by omega)
/-- the places that are left, all of the first ones -/
structure In2 (R : Nat → Nat → Bool) (n q : Nat) (l : List Int) : Prop where
  nd : l.Nodup
  el : ∀ x ∈ l, 0 ≤ x ∧ x < (n : Int) ∧ pos R n x.toNat < q
  hp : Heapk (kap R n) 0 l.length l
  ln : l.length = q
theorem In1.last {n k : Nat} {l : List Int} (hR : Ord R) (h : In1 R n n k l) : In2 R n l.length l := by
  refine ⟨h.nd, fun x hx => ?_, h.hp, rfl⟩
  have hx2 := h.el x hx
  refine ⟨hx2.1, hx2.2, ?_⟩
  -- those ahead of x all lie in l
  have h1 : pos R n x.toNat = ((List.range n).filter fun j => R j x.toNat).length := List.countP_eq_length_filter ..
  rw [h1]
  have h2 : (((List.range n).filter fun j => R j x.toNat).map fun j : Nat => (j : Int)).length ≤ (l.erase x).length := by
    refine nodup_sub _ _ (nodup_map (List.nodup_range.filter _) fun a _ b _ e => by omega) fun y hy => ?_
    obtain ⟨j, hj, rfl⟩ := List.mem_map.1 hy
    rw [List.mem_filter, List.mem_range] at hj
    have hjx : (j : Int) ≠ x := fun e => by
      have := hj.2
      rw [← e, Int.toNat_natCast, hR.irr] at this
      cases this
    rw [List.mem_erase_of_ne hjx]
    rcases h.ou (j : Int) (by omega) (by omega) with k | ⟨_, k⟩
    · exact k
    · have k1 := k x hx
      have k2 := hR.pos_lt (n := n) hj.1 hj.2
      rw [Int.toNat_natCast] at k1
      omega
  rw [List.length_map, List.length_erase_of_mem hx] at h2
  have := List.length_pos_of_mem hx
  omega
theorem In2.pop {n q : Nat} {l : List Int} (hR : Ord R) (h : In2 R n (q + 1) l) :
    (0 ≤ l.getD 0 0 ∧ l.getD 0 0 < (n : Int) ∧ pos R n (l.getD 0 0).toNat = q) ∧ In2 R n q ((siftDk (kap R n) l.length (swp l 0 (l.length - 1)) 0 (l.length - 1)).take (l.length - 1)) := by
  have hln := h.ln
  have hpos : 0 < l.length := by omega
  have hrm := getD_mem hpos
  have hre := h.el _ hrm
  have hr := root_last h.hp
  have hq : q + 1 ≤ pos R n (l.getD 0 0).toNat + 1 := by
    have hnd : (l.map fun x : Int => pos R n x.toNat).Nodup := nodup_map h.nd fun x hx y hy e => by
      have h1 := h.el x hx
      have h2 := h.el y hy
      have := hR.inj (n := n) (by omega) (by omega) e
      omega
    have := nodup_sub (l.map fun x : Int => pos R n x.toNat) (List.range (pos R n (l.getD 0 0).toNat + 1)) hnd (fun y hy => by
      obtain ⟨x, hx, rfl⟩ := List.mem_map.1 hy
      have := hr x hx
      rw [List.mem_range]
      omega)
    rw [List.length_map, List.length_range] at this
    omega
  have hpq : pos R n (l.getD 0 0).toNat = q := by omega
  refine ⟨⟨hre.1, hre.2.1, hpq⟩, ?_⟩
  have hl : (siftDk (kap R n) l.length (swp l 0 (l.length - 1)) 0 (l.length - 1)).length = l.length := by rw [siftDk_length, swp_length]
  have hpm : (siftDk (kap R n) l.length (swp l 0 (l.length - 1)) 0 (l.length - 1)).Perm l := (siftDk_perm _ _ _ _ (by rw [swp_length]; omega)).trans (swp_perm l hpos (by omega))
  have hlast : (siftDk (kap R n) l.length (swp l 0 (l.length - 1)) 0 (l.length - 1)).getD (l.length - 1) 0 = l.getD 0 0 := by
    rw [siftDk_past _ _ _ _ (by rw [swp_length]; omega) _ (Nat.le_refl _), swp_at l hpos (by omega), if_pos rfl]
  have hheap : Heapk (kap R n) 0 (l.length - 1) (siftDk (kap R n) l.length (swp l 0 (l.length - 1)) 0 (l.length - 1)) := by
    refine siftDk_heap _ _ _ _ _ (by rw [swp_length]; omega) (by omega) (fun k hk0 hkn _ hne => ?_) (fun h0 => absurd h0 (by omega))
    rw [swp_at l hpos (by omega), swp_at l hpos (by omega), if_neg (by omega), if_neg hne, if_neg (by omega), if_neg (by omega)]
    exact h.hp k hk0 (by omega) (Nat.zero_le _)
  generalize siftDk (kap R n) l.length (swp l 0 (l.length - 1)) 0 (l.length - 1) = F at *
  obtain ⟨r, hrr⟩ : ∃ r, r = l.getD 0 0 := ⟨_, rfl⟩
  rw [← hrr] at hlast hrm hre hr hpq
  have e : F = F.take (l.length - 1) ++ [r] := by
    conv => lhs; rw [← List.take_append_drop (l.length - 1) F]
    congr 1
    rw [List.drop_eq_getElem_cons (by omega), List.drop_eq_nil_of_le (by omega)]
    congr 1
    exact (getD_el _).symm.trans hlast
  have hnF : F.Nodup := hpm.nodup_iff.2 h.nd
  have hlt : (F.take (l.length - 1)).length = l.length - 1 := by rw [List.length_take]; omega
  rw [e, List.nodup_append] at hnF
  refine ⟨hnF.1, fun x hx => ?_, ?_, by omega⟩
  · have hxl : x ∈ l := by rw [← hpm.mem_iff, e]; exact List.mem_append_left _ hx
    have h1 := h.el x hxl
    refine ⟨h1.1, h1.2.1, ?_⟩
    have hne : x ≠ r := hnF.2.2 x hx r (by simp)
    have : pos R n x.toNat ≠ q := fun ee => by
      have := hR.inj (n := n) (a := x.toNat) (b := r.toNat) (by omega) (by omega) (by omega)
      omega
    omega
  · intro k hk0 hkn hlo
    rw [hlt] at hkn
    have := hheap k hk0 (by omega) hlo
    have t : ∀ j, j < l.length - 1 → (F.take (l.length - 1)).getD j 0 = F.getD j 0 := fun j hj => by
      simp only [List.getD, List.getElem?_take, if_pos hj]
    rw [t _ (by omega), t _ (by omega)]
    exact this
/-- the first m places, in order -/
def Firsts (R : Nat → Nat → Bool) (n m : Nat) (o : List Int) : Prop := o.length = m ∧ ∀ j, j < m → 0 ≤ o.getD j 0 ∧ o.getD j 0 < (n : Int) ∧ pos R n (o.getD j 0).toNat = j
theorem Firsts.unique {n m : Nat} {a b : List Int} (hR : Ord R) (ha : Firsts R n m a) (hb : Firsts R n m b) : a = b := by
  apply List.ext_getElem (by rw [ha.1, hb.1])
  intro j h1 h2
  have k1 := ha.2 j (by rw [← ha.1]; exact h1)
  have k2 := hb.2 j (by rw [← hb.1]; exact h2)
  rw [getD_el h1] at k1
  rw [getD_el h2] at k2
  have := hR.inj (n := n) (a := (a[j]).toNat) (b := (b[j]).toNat) (by omega) (by omega) (by omega)
  omega
/-- as the reference places them -/
theorem Firsts.ref {n m : Nat} {a b : List Int} (ha : Firsts R n m a) (hb : b.length = m) (hp : ∀ x, x < n → pos R n x < m → b.getD (pos R n x) 0 = (x : Int)) : a = b := by
  apply List.ext_getElem (by rw [ha.1, hb])
  intro j h1 h2
  have hj : j < m := by rw [← ha.1]; exact h1
  have k1 := ha.2 j hj
  rw [getD_el h1] at k1
  have k2 := hp (a[j]).toNat (by omega) (by omega)
  rw [k1.2.2, getD_el h2] at k2
  omega
end Tou
end Go.Proofs.Ytmnlaekcojblkaa
