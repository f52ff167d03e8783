/-
  Codes in plain form, in plain mathematics: lists that rise strictly, what two of them have in common, filters in plain form.
-/
import Derived.Test.YtlipeplfjkgamaaSrtPlain
namespace Go.Proofs.Ytlipeplfjkgamaa
set_option linter.unusedVariables false
namespace Nrm
/-- rising strictly -/
def Up (l : List Int) : Prop := l.Pairwise (fun a b => a < b)
theorem up_eq : ∀ {l m : List Int}, Up l → Up m → (∀ x, x ∈ l ↔ x ∈ m) → l = m
  | [], [], _, _, _ => rfl
  | [], b :: t, _, _, h => absurd ((h b).2 (by simp)) (by simp)
  | a :: s, [], _, _, h => absurd ((h a).1 (by simp)) (by simp)
  | a :: s, b :: t, hl, hm, h => by
    have hl' := List.pairwise_cons.1 hl
    have hm' := List.pairwise_cons.1 hm
    have hab : a = b := by
      rcases List.mem_cons.1 ((h a).1 (by simp)) with h1 | h1
      · exact h1
      · rcases List.mem_cons.1 ((h b).2 (by simp)) with h2 | h2
        · exact h2.symm
        · have k1 := hm'.1 a h1
          have k2 := hl'.1 b h2
          omega
    subst hab
    rw [up_eq hl'.2 hm'.2 (fun x => ?_)]
    constructor
    · intro hx
      rcases List.mem_cons.1 ((h x).1 (List.mem_cons_of_mem _ hx)) with k | k
      · subst k; have := hl'.1 x hx; omega
      · exact k
    · intro hx
      rcases List.mem_cons.1 ((h x).2 (List.mem_cons_of_mem _ hx)) with k | k
      · subst k; have := hm'.1 x hx; omega
      · exact k
/-- the numbers below n of which something holds -/
def sel (n : Nat) (p : Int → Bool) : List Int := ((List.range n).map Int.ofNat).filter p
theorem up_sel (n : Nat) (p : Int → Bool) : Up (sel n p) := by
  unfold sel Up
  refine List.Pairwise.filter _ ?_
  rw [List.pairwise_map]
  refine List.Pairwise.imp ?_ List.pairwise_lt_range
  intro a b h
  exact Int.ofNat_lt.2 h
theorem mem_sel {n : Nat} {p : Int → Bool} {x : Int} : x ∈ sel n p ↔ (0 ≤ x ∧ x < (n : Int)) ∧ p x = true := by
  unfold sel
  rw [List.mem_filter, List.mem_map]
  constructor
  · rintro ⟨⟨k, hk, rfl⟩, h⟩
    have hk := List.mem_range.1 hk
    exact ⟨⟨Int.natCast_nonneg k, Int.ofNat_lt.2 hk⟩, h⟩
  · rintro ⟨⟨h0, h1⟩, h⟩
    exact ⟨⟨x.toNat, List.mem_range.2 (by omega), by show ((x.toNat : Nat) : Int) = x; omega⟩, h⟩
theorem eq_sel {l : List Int} {n : Nat} {p : Int → Bool} (h : Up l) (hm : ∀ x, x ∈ l ↔ (0 ≤ x ∧ x < (n : Int)) ∧ p x = true) : l = sel n p :=
  up_eq h (up_sel n p) fun x => (hm x).trans mem_sel.symm
theorem sel_congr {n : Nat} {p q : Int → Bool} (h : ∀ x, 0 ≤ x → x < (n : Int) → p x = q x) : sel n p = sel n q :=
  eq_sel (up_sel n p) fun x => by
    rw [mem_sel]
    constructor
    · rintro ⟨k, hp⟩; exact ⟨k, by rw [← h x k.1 k.2]; exact hp⟩
    · rintro ⟨k, hp⟩; exact ⟨k, by rw [h x k.1 k.2]; exact hp⟩
theorem sel_all (n : Nat) {p : Int → Bool} (h : ∀ x, 0 ≤ x → x < (n : Int) → p x = true) : (sel n p).length = n := by
  unfold sel
  rw [List.filter_eq_self.2]
  · simp
  · intro x hx
    obtain ⟨k, hk, rfl⟩ := List.mem_map.1 hx
    have hk := List.mem_range.1 hk
    exact h _ (Int.natCast_nonneg k) (Int.ofNat_lt.2 hk)
theorem sel_le (n : Nat) (p : Int → Bool) : (sel n p).length ≤ n := by
  unfold sel
  have := List.length_filter_le p ((List.range n).map Int.ofNat)
  simpa using this
/-- all of them: where as many are left as there were -/
theorem all_sel {n : Nat} {p : Int → Bool} (h : ¬ (sel n p).length < n) : ∀ x, 0 ≤ x → x < (n : Int) → p x = true := by
  have hle := sel_le n p
  have he : (sel n p).length = ((List.range n).map Int.ofNat).length := by simp; omega
  intro x h0 h1
  refine List.length_filter_eq_length_iff.1 he x ?_
  exact List.mem_map.2 ⟨x.toNat, List.mem_range.2 (by omega), by show ((x.toNat : Nat) : Int) = x; omega⟩
theorem take_next {α : Type} (l : List α) (d : α) {p : Nat} (hp : p < l.length) : l.take (p + 1) = l.take p ++ [l.getD p d] := by
  rw [List.take_succ_eq_append_getElem hp, List.getD, List.getElem?_eq_getElem hp]
  rfl
theorem sel_next (n : Nat) (p : Int → Bool) : sel (n + 1) p = sel n p ++ (if p (n : Int) = true then [(n : Int)] else []) := by
  unfold sel
  rw [List.range_succ, List.map_append, List.filter_append]
  congr 1
  simp only [List.map_cons, List.map_nil, List.filter_cons, List.filter_nil]
  rfl
/-- the first p of a sorted list without doubles -/
structure Dd (l : List Int) (p : Nat) (y : List Int) : Prop where
  up : Up y
  mem : ∀ x, x ∈ y ↔ x ∈ l.take p
  top : ∀ x, x ∈ y → x ≤ l.getD (p - 1) 0
variable {l m y : List Int} {n p : Nat}
theorem Dd.one (h : 1 ≤ l.length) : Dd l 1 (l.take 1) := by
  have e : l.take 1 = [l.getD 0 0] := by rw [show (1 : Nat) = 0 + 1 from rfl, take_next l 0 (by omega)]; rfl
  refine ⟨by rw [e]; simp [Up], fun x => Iff.rfl, fun x hx => ?_⟩
  rw [e] at hx
  have : x = l.getD 0 0 := by simpa using hx
  rw [this]
  exact Int.le_refl _
theorem Dd.same (h : Dd l p y) (h1 : 1 ≤ p) (hp : p < l.length) (e : l.getD p 0 = l.getD (p - 1) 0) : Dd l (p + 1) y := by
  refine ⟨h.up, fun x => ?_, fun x hx => by rw [Nat.add_sub_cancel, e]; exact h.top x hx⟩
  rw [take_next l 0 hp, List.mem_append, ← h.mem x]
  constructor
  · exact .inl
  · rintro (k | k)
    · exact k
    · have k : x = l.getD p 0 := by simpa using k
      rw [h.mem, k, e]
      have hlt : p - 1 < (l.take p).length := by rw [List.length_take]; omega
      have : (l.take p)[p - 1]'hlt = l.getD (p - 1) 0 := by
        rw [List.getElem_take, List.getD, List.getElem?_eq_getElem (by omega)]; rfl
      rw [← this]
      exact List.getElem_mem _
theorem Dd.new (h : Dd l p y) (hp : p < l.length) (e : l.getD (p - 1) 0 < l.getD p 0) : Dd l (p + 1) (y ++ [l.getD p 0]) := by
  refine ⟨?_, fun x => ?_, fun x hx => ?_⟩
  · unfold Up
    rw [List.pairwise_append]
    refine ⟨h.up, by simp, fun a ha b hb => ?_⟩
    have hb : b = l.getD p 0 := by simpa using hb
    have := h.top a ha
    omega
  · rw [take_next l 0 hp, List.mem_append, List.mem_append, h.mem x]
  · rw [Nat.add_sub_cancel]
    rcases List.mem_append.1 hx with k | k
    · have := h.top x k; omega
    · have k : x = l.getD p 0 := by simpa using k
      omega
theorem Dd.mems (h : Dd l p y) (hp : l.length ≤ p) (x : Int) : x ∈ y ↔ x ∈ l := by rw [h.mem x, List.take_of_length_le hp]
/-- in the midst of finding what two lists have in common -/
structure Cmn (la lb a b out : List Int) : Prop where
  uo : Up out
  ua : Up a
  ub : Up b
  oa : ∀ x, x ∈ out → ∀ z, z ∈ a → x < z
  ob : ∀ x, x ∈ out → ∀ z, z ∈ b → x < z
  m : ∀ x, (x ∈ out ∨ x ∈ a ∧ x ∈ b) ↔ (x ∈ la ∧ x ∈ lb)
variable {la lb a b out : List Int} {u v : Int}
theorem Cmn.start (ha : Up la) (hb : Up lb) : Cmn la lb la lb [] := ⟨by simp [Up], ha, hb, by simp, by simp, by simp⟩
theorem Cmn.left (h : Cmn la lb (u :: a) (v :: b) out) (hlt : u < v) : Cmn la lb a (v :: b) out := by
  refine ⟨h.uo, (List.pairwise_cons.1 h.ua).2, h.ub, fun x hx z hz => h.oa x hx z (List.mem_cons_of_mem _ hz), h.ob, fun x => ?_⟩
  rw [← h.m x]
  constructor
  · rintro (k | ⟨k1, k2⟩)
    · exact .inl k
    · exact .inr ⟨List.mem_cons_of_mem _ k1, k2⟩
  · rintro (k | ⟨k1, k2⟩)
    · exact .inl k
    · rcases List.mem_cons.1 k1 with k1 | k1
      · subst k1
        rcases List.mem_cons.1 k2 with k2 | k2
        · omega
        · have := (List.pairwise_cons.1 h.ub).1 x k2; omega
      · exact .inr ⟨k1, k2⟩
theorem Cmn.turn (h : Cmn la lb a b out) : Cmn lb la b a out := by
  refine ⟨h.uo, h.ub, h.ua, h.ob, h.oa, fun x => ?_⟩
  rw [And.comm (a := x ∈ b), And.comm (a := x ∈ lb)]
  exact h.m x
theorem Cmn.right (h : Cmn la lb (u :: a) (v :: b) out) (hlt : v < u) : Cmn la lb (u :: a) b out := (Cmn.left h.turn hlt).turn
theorem Cmn.both (h : Cmn la lb (u :: a) (u :: b) out) : Cmn la lb a b (out ++ [u]) := by
  have pa := List.pairwise_cons.1 h.ua
  have pb := List.pairwise_cons.1 h.ub
  refine ⟨?_, pa.2, pb.2, ?_, ?_, fun x => ?_⟩
  · unfold Up
    rw [List.pairwise_append]
    refine ⟨h.uo, by simp, fun x hx z hz => ?_⟩
    have hz : z = u := by simpa using hz
    subst hz
    exact h.oa x hx z (by simp)
  · intro x hx z hz
    rcases List.mem_append.1 hx with k | k
    · exact h.oa x k z (List.mem_cons_of_mem _ hz)
    · have k : x = u := by simpa using k
      subst k; exact pa.1 z hz
  · intro x hx z hz
    rcases List.mem_append.1 hx with k | k
    · exact h.ob x k z (List.mem_cons_of_mem _ hz)
    · have k : x = u := by simpa using k
      subst k; exact pb.1 z hz
  · rw [← h.m x, List.mem_append]
    constructor
    · rintro ((k | k) | ⟨k1, k2⟩)
      · exact .inl k
      · have k : x = u := by simpa using k
        subst k; exact .inr ⟨by simp, by simp⟩
      · exact .inr ⟨List.mem_cons_of_mem _ k1, List.mem_cons_of_mem _ k2⟩
    · rintro (k | ⟨k1, k2⟩)
      · exact .inl (.inl k)
      · rcases List.mem_cons.1 k1 with k1 | k1
        · subst k1; exact .inl (.inr (by simp))
        · rcases List.mem_cons.1 k2 with k2 | k2
          · subst k2; exact .inl (.inr (by simp))
          · exact .inr ⟨k1, k2⟩
theorem Cmn.stop (h : Cmn la lb a b out) (hz : a = [] ∨ b = []) (x : Int) : x ∈ out ↔ (x ∈ la ∧ x ∈ lb) := by
  rw [← h.m x]
  constructor
  · exact .inl
  · rintro (k | ⟨k1, k2⟩)
    · exact k
    · rcases hz with rfl | rfl
      · exact absurd k1 (by simp)
      · exact absurd k2 (by simp)
/-- filters, without the places where they lie: a dimension, and codes -/
abbrev Ks : Type := List (Int × List Int)
/-- a code passes the filters of a dimension -/
def kp (l : Ks) (d c : Int) : Bool := l.all fun f => !decide (f.1 = d) || f.2.contains c
theorem kp_iff {l : Ks} {d c : Int} : kp l d c = true ↔ ∀ f, f ∈ l → f.1 = d → c ∈ f.2 := by
  unfold kp
  rw [List.all_eq_true]
  constructor
  · intro h f hf e
    have := h f hf
    simpa [e] using this
  · intro h f hf
    by_cases e : f.1 = d
    · simp [e, h f hf e]
    · simp [e]
theorem kp_next (l : Ks) (f : Int × List Int) (d c : Int) : kp (l ++ [f]) d c = (kp l d c && (!decide (f.1 = d) || f.2.contains c)) := by
  unfold kp
  simp
/-- whether there are any of a dimension -/
def sm (l : Ks) (d : Int) : Bool := l.any fun f => decide (f.1 = d)
theorem sm_next (l : Ks) (f : Int × List Int) (d : Int) : sm (l ++ [f]) d = (sm l d || decide (f.1 = d)) := by
  unfold sm
  simp
theorem kp_none {l : Ks} {d : Int} (h : sm l d = false) (c : Int) : kp l d c = true := by
  rw [kp_iff]
  intro f hf e
  unfold sm at h
  rw [List.any_eq_false] at h
  exact absurd (h f hf) (by simp [e])
/-- of one dimension -/
def nf (l : Ks) (d : Nat) (n : Nat) : Ks := if (sel n (kp l d)).length < n then [((d : Int), sel n (kp l d))] else []
/-- the plain form: of the sizes of a schema's dimensions, from dimension d on -/
def nrm (l : Ks) : Nat → List Nat → Ks
  | _, [] => []
  | d, n :: t => nf l d n ++ nrm l (d + 1) t
theorem nrm_snoc (l : Ks) : ∀ (ns : List Nat) (d n : Nat), nrm l d (ns ++ [n]) = nrm l d ns ++ nf l (d + ns.length) n
  | [], d, n => by simp [nrm]
  | k :: t, d, n => by
    show nf l d k ++ nrm l (d + 1) (t ++ [n]) = nf l d k ++ nrm l (d + 1) t ++ nf l (d + (t.length + 1)) n
    rw [nrm_snoc l t (d + 1) n, List.append_assoc, show d + 1 + t.length = d + (t.length + 1) by omega]
theorem nf_none {l : Ks} {d : Nat} (h : sm l d = false) (n : Nat) : nf l d n = [] := by
  unfold nf
  rw [if_neg]
  rw [sel_all n (fun x _ _ => kp_none h x)]
  omega
theorem nf_len (l : Ks) (d n : Nat) : (nf l d n).length ≤ 1 := by
  unfold nf
  split
  · exact Nat.le_refl _
  · exact Nat.zero_le _
theorem nrm_len (l : Ks) : ∀ (ns : List Nat) (d : Nat), (nrm l d ns).length ≤ ns.length
  | [], _ => Nat.le_refl _
  | n :: t, d => by
    show (nf l d n ++ nrm l (d + 1) t).length ≤ t.length + 1
    rw [List.length_append]
    have := nf_len l d n
    have := nrm_len l t (d + 1)
    omega
theorem nrm_mem (l : Ks) : ∀ (ns : List Nat) (d : Nat) (f : Int × List Int), f ∈ nrm l d ns ↔ ∃ k, k < ns.length ∧ f = (((d + k : Nat) : Int), sel (ns.getD k 0) (kp l ((d + k : Nat) : Int))) ∧ (sel (ns.getD k 0) (kp l ((d + k : Nat) : Int))).length < ns.getD k 0
  | [], d, f => ⟨fun h => absurd h (by simp [nrm]), fun ⟨k, hk, _⟩ => absurd hk (by simp)⟩
  | n :: t, d, f => by
    show f ∈ nf l d n ++ nrm l (d + 1) t ↔ _
    rw [List.mem_append, nrm_mem l t (d + 1) f]
    constructor
    · rintro (h | ⟨k, hk, e, hlt⟩)
      · unfold nf at h
        split at h
        · exact ⟨0, by simp, by simpa using h, by assumption⟩
        · exact absurd h (by simp)
      · rw [show d + 1 + k = d + (k + 1) by omega] at e hlt
        exact ⟨k + 1, by simpa using hk, e, hlt⟩
    · rintro ⟨k, hk, e, hlt⟩
      cases k with
      | zero =>
        left
        unfold nf
        have hlt : (sel n (kp l (d : Int))).length < n := hlt
        rw [if_pos hlt]
        have e : f = ((d : Int), sel n (kp l (d : Int))) := e
        rw [e]
        exact List.mem_singleton.2 rfl
      | succ k =>
        right
        rw [show d + (k + 1) = d + 1 + k by omega] at e hlt
        exact ⟨k, by simpa using hk, e, hlt⟩
/-- a code that may be passes the plain form's filters of its dimension as it passes the filters themselves -/
theorem kp_nrm (l : Ks) (ns : List Nat) {d : Nat} (hd : d < ns.length) {c : Int} (hc : 0 ≤ c ∧ c < ((ns.getD d 0 : Nat) : Int)) : kp (nrm l 0 ns) d c = kp l d c := by
  rw [Bool.eq_iff_iff, kp_iff]
  constructor
  · intro h
    by_cases hlt : (sel (ns.getD d 0) (kp l (d : Int))).length < ns.getD d 0
    · have := h ((d : Int), sel (ns.getD d 0) (kp l (d : Int))) ((nrm_mem l ns 0 _).2 ⟨d, hd, by rw [Nat.zero_add], by rw [Nat.zero_add]; exact hlt⟩) rfl
      exact (mem_sel.1 this).2
    · exact all_sel hlt c hc.1 hc.2
  · rintro h f hf e
    obtain ⟨k, hk, rfl, hlt⟩ := (nrm_mem l ns 0 _).1 hf
    rw [Nat.zero_add] at e ⊢
    have e : k = d := by have : ((k : Nat) : Int) = (d : Int) := e; omega
    subst e
    exact mem_sel.2 ⟨hc, h⟩
/-- the plain form of a plain form is itself -/
theorem nrm_nrm (l : Ks) (ns : List Nat) : nrm (nrm l 0 ns) 0 ns = nrm l 0 ns := by
  have : ∀ (ms : List Nat) (d : Nat), (∀ k, k < ms.length → d + k < ns.length ∧ ms.getD k 0 = ns.getD (d + k) 0) → nrm (nrm l 0 ns) d ms = nrm l d ms := by
    intro ms
    induction ms with
    | nil => intro d _; rfl
    | cons n t ih =>
      intro d h
      obtain ⟨h1, h2⟩ := h 0 (by simp)
      have h1 : d < ns.length := h1
      have h2 : n = ns.getD d 0 := h2
      show nf (nrm l 0 ns) d n ++ nrm (nrm l 0 ns) (d + 1) t = nf l d n ++ nrm l (d + 1) t
      rw [ih (d + 1) (fun k hk => by
        have := h (k + 1) (by simpa using hk)
        rw [show d + 1 + k = d + (k + 1) by omega]
        exact this)]
      have e : sel n (kp (nrm l 0 ns) (d : Int)) = sel n (kp l (d : Int)) := sel_congr fun x h0 hn => kp_nrm l ns h1 (by rw [← h2]; exact ⟨h0, hn⟩)
      unfold nf
      rw [e]
  exact this ns 0 fun k hk => by rw [Nat.zero_add]; exact ⟨hk, rfl⟩
/-- codes pass filters -/
def pk (l : Ks) (cs : List Int) : Bool := l.all fun f => decide (0 ≤ f.1 ∧ f.1 < cs.length) && f.2.contains (cs.getD f.1.toNat 0)
theorem pk_iff {l : Ks} {cs : List Int} : pk l cs = true ↔ ∀ f, f ∈ l → (0 ≤ f.1 ∧ f.1 < cs.length) ∧ cs.getD f.1.toNat 0 ∈ f.2 := by
  unfold pk
  rw [List.all_eq_true]
  constructor
  · intro h f hf
    have := h f hf
    rw [Bool.and_eq_true, decide_eq_true_eq] at this
    exact ⟨this.1, by simpa using this.2⟩
  · intro h f hf
    have := h f hf
    rw [Bool.and_eq_true, decide_eq_true_eq]
    exact ⟨this.1, by simpa using this.2⟩
/-- of filters that may be the same codes pass the plain form -/
theorem pk_nrm {l : Ks} {ns : List Nat} {cs : List Int} (hl : ∀ f, f ∈ l → 0 ≤ f.1 ∧ f.1 < ns.length) (hn : cs.length = ns.length) (hc : ∀ i, i < cs.length → 0 ≤ cs.getD i 0 ∧ cs.getD i 0 < ((ns.getD i 0 : Nat) : Int)) : pk (nrm l 0 ns) cs = pk l cs := by
  have all : ∀ m : Ks, (∀ f, f ∈ m → 0 ≤ f.1 ∧ f.1 < ns.length) → (pk m cs = true ↔ ∀ d, d < ns.length → kp m (d : Nat) (cs.getD d 0) = true) := by
    intro m hm
    rw [pk_iff]
    constructor
    · intro h d hd
      rw [kp_iff]
      intro f hf e
      have := (h f hf).2
      rw [e] at this
      exact this
    · intro h f hf
      obtain ⟨h0, h1⟩ := hm f hf
      refine ⟨⟨h0, by rw [hn]; exact h1⟩, ?_⟩
      have := h f.1.toNat (by omega)
      rw [kp_iff] at this
      exact this f hf (by omega)
  rw [Bool.eq_iff_iff, all l hl, all (nrm l 0 ns) (fun f hf => by
    obtain ⟨k, hk, rfl, _⟩ := (nrm_mem l ns 0 _).1 hf
    show 0 ≤ ((0 + k : Nat) : Int) ∧ ((0 + k : Nat) : Int) < (ns.length : Int)
    omega)]
  constructor
  · intro h d hd
    rw [← kp_nrm l ns hd (hc d (by omega))]; exact h d hd
  · intro h d hd
    rw [kp_nrm l ns hd (hc d (by omega))]; exact h d hd
end Nrm
end Go.Proofs.Ytlipeplfjkgamaa
