/-
  Plain mathematics: the views worth keeping.
-/
import Derived.Test.YtmnlaekcojblkaaBase
namespace Go.Proofs.Ytmnlaekcojblkaa
namespace Ad
open Mk
def lastS (ss : List Int) : Int := ss.getD (ss.length - 1) 0
/-- the least size that answers w, by the base and views -/
def mn (ss : List Int) (vs : List Nat) (w : Nat) : Int := vs.foldl (fun l v => if sb w v then min l (ss.getD v 0) else l) (lastS ss)
def outs (ss : List Int) (vs : List Nat) : List Int := (List.range ss.length).map (mn ss vs)
def costL (ss : List Int) (vs : List Nat) : Int := (outs ss vs).sum
def stp (s : Int) (p : List Int × Int) (w : Nat) : List Int × Int := if 0 < p.1.getD w 0 - s then (p.1.set w s, p.2 + (p.1.getD w 0 - s)) else p
def ly (ss : List Int) (v : Nat) (out : List Int) : List Int × Int := (subs v).foldl (stp (ss.getD v 0)) (out, 0)
/-- numbers that may be -/
def Ok (l : List Int) : Prop := ∀ z ∈ l, 1 ≤ z ∧ z ≤ 1099511627776
theorem Ok.at_ {l : List Int} (h : Ok l) {i : Nat} (hi : i < l.length) : 1 ≤ l.getD i 0 ∧ l.getD i 0 ≤ 1099511627776 := by
  simp only [List.getD, List.getElem?_eq_getElem hi, Option.getD_some]
  exact h _ (List.getElem_mem hi)
theorem Ok.sum {l : List Int} (h : Ok l) : 0 ≤ l.sum ∧ l.sum ≤ l.length * 1099511627776 := by
  induction l with
  | nil => simp
  | cons a l ih =>
    have h1 := h a (by simp)
    have h2 := ih (fun z hz => h z (by simp [hz]))
    simp only [List.sum_cons, List.length_cons]
    omega
theorem sum_set (l : List Int) (i : Nat) (s : Int) (h : i < l.length) : (l.set i s).sum = l.sum - l.getD i 0 + s := by
  induction l generalizing i with
  | nil => simp at h
  | cons a l ih =>
    cases i with
    | zero => simp; omega
    | succ i =>
      have := ih i (by simpa using h)
      simp only [List.set_cons_succ, List.sum_cons, List.getD_cons_succ]
      omega
theorem Ok.set {l : List Int} (h : Ok l) (i : Nat) {s : Int} (hs : 1 ≤ s ∧ s ≤ 1099511627776) : Ok (l.set i s) := by
  intro z hz
  rcases List.mem_or_eq_of_mem_set hz with h1 | rfl
  · exact h z h1
  · exact hs
theorem getD_set (l : List Int) (i w : Nat) (s : Int) (h : i < l.length) : (l.set i s).getD w 0 = if w = i then s else l.getD w 0 := by
  simp only [List.getD]
  rw [List.getElem?_set]
  by_cases hw : i = w
  · subst hw; simp [h]
  · have : ¬ w = i := fun e => hw e.symm
    simp [hw, this]
/-- laying a view, set by set -/
theorem fold_stp (s : Int) (hs : 1 ≤ s ∧ s ≤ 1099511627776) : ∀ (l : List Nat) (p : List Int × Int), (∀ w ∈ l, w < p.1.length) → Ok p.1 →
    (l.foldl (stp s) p).1.length = p.1.length ∧ (l.foldl (stp s) p).2 + (l.foldl (stp s) p).1.sum = p.2 + p.1.sum ∧ p.2 ≤ (l.foldl (stp s) p).2 ∧ Ok (l.foldl (stp s) p).1 ∧
    ∀ w, (l.foldl (stp s) p).1.getD w 0 = if w ∈ l then min (p.1.getD w 0) s else p.1.getD w 0
  | [], p, _, ho => ⟨rfl, rfl, Int.le_refl _, ho, fun w => by simp⟩
  | a :: l, p, hl, ho => by
    have ha := hl a (by simp)
    have h1 : (stp s p a).1.length = p.1.length := by unfold stp; split <;> simp
    have h2 : (stp s p a).2 + (stp s p a).1.sum = p.2 + p.1.sum := by
      unfold stp; split
      · simp only; rw [sum_set _ _ _ ha]; omega
      · rfl
    have h3 : p.2 ≤ (stp s p a).2 := by
      unfold stp; split
      · simp only; omega
      · omega
    have h4 : Ok (stp s p a).1 := by
      unfold stp; split
      · exact ho.set _ hs
      · exact ho
    have h5 : ∀ w, (stp s p a).1.getD w 0 = if w = a then min (p.1.getD w 0) s else p.1.getD w 0 := by
      intro w
      unfold stp; split
      · simp only; rw [getD_set _ _ _ _ ha]
        split
        · rename_i hd hw; subst hw; rw [Int.min_def]; split <;> omega
        · rfl
      · split
        · rename_i hd hw; subst hw; rw [Int.min_def]; split <;> omega
        · rfl
    obtain ⟨i1, i2, i3, i4, i5⟩ := fold_stp s hs l (stp s p a) (fun w hw => by rw [h1]; exact hl w (by simp [hw])) h4
    simp only [List.foldl_cons]
    refine ⟨by rw [i1, h1], by rw [i2, h2], by omega, i4, fun w => ?_⟩
    rw [i5, h5]
    simp only [List.mem_cons]
    by_cases hwa : w = a
    · subst hwa
      simp only [if_true, true_or]
      split
      · simp only [Int.min_def]; repeat' split <;> omega
      · rfl
    · simp [hwa]
theorem lastS_ok {ss : List Int} (h : Ok ss) (hn : 0 < ss.length) : 1 ≤ lastS ss ∧ lastS ss ≤ 1099511627776 := h.at_ (by omega)
theorem mn_ok {ss : List Int} (h : Ok ss) (hn : 0 < ss.length) (vs : List Nat) (hv : ∀ v ∈ vs, v < ss.length) (w : Nat) : 1 ≤ mn ss vs w ∧ mn ss vs w ≤ 1099511627776 := by
  unfold mn
  have h0 := lastS_ok h hn
  generalize lastS ss = z at h0
  induction vs generalizing z with
  | nil => exact h0
  | cons v vs ih =>
    simp only [List.foldl_cons]
    refine ih (fun u hu => hv u (by simp [hu])) _ ?_
    have := h.at_ (hv v (by simp))
    split
    · rw [Int.min_def]; split <;> omega
    · exact h0
theorem outs_ok {ss : List Int} (h : Ok ss) (hn : 0 < ss.length) (vs : List Nat) (hv : ∀ v ∈ vs, v < ss.length) : Ok (outs ss vs) := by
  intro z hz
  simp only [outs, List.mem_map] at hz
  obtain ⟨w, _, rfl⟩ := hz
  exact mn_ok h hn vs hv w
theorem outs_length (ss : List Int) (vs : List Nat) : (outs ss vs).length = ss.length := by simp [outs]
theorem outs_at (ss : List Int) (vs : List Nat) (w : Nat) (h : w < ss.length) : (outs ss vs).getD w 0 = mn ss vs w := by simp [outs, List.getD, h]
theorem mn_snoc (ss : List Int) (vs : List Nat) (v w : Nat) : mn ss (vs ++ [v]) w = if sb w v then min (mn ss vs w) (ss.getD v 0) else mn ss vs w := by
  unfold mn; rw [List.foldl_append]; rfl
theorem ext_getD {a b : List Int} (hl : a.length = b.length) (h : ∀ i, i < a.length → a.getD i 0 = b.getD i 0) : a = b := by
  apply List.ext_getElem hl
  intro i h1 h2
  have := h i h1
  simpa [List.getD, h1, h2] using this
/-- laying a view on what other views have left -/
theorem ly_outs {ss : List Int} (h : Ok ss) (hn : 0 < ss.length) (vs : List Nat) (hv : ∀ v ∈ vs, v < ss.length) (v : Nat) (hvl : v < ss.length) :
    ly ss v (outs ss vs) = (outs ss (vs ++ [v]), costL ss vs - costL ss (vs ++ [v])) ∧ costL ss (vs ++ [v]) ≤ costL ss vs := by
  obtain ⟨i1, i2, i3, i4, i5⟩ := fold_stp (ss.getD v 0) (h.at_ hvl) (subs v) (outs ss vs, 0) (fun w hw => by rw [outs_length]; have := sb_le (mem_subs.1 hw); omega) (outs_ok h hn vs hv)
  have e : ((subs v).foldl (stp (ss.getD v 0)) (outs ss vs, 0)).1 = outs ss (vs ++ [v]) := by
    apply ext_getD
    · rw [i1, outs_length, outs_length]
    · intro w hw
      rw [i1, outs_length] at hw
      rw [i5, outs_at _ _ _ hw, outs_at _ _ _ hw, mn_snoc]
      by_cases hs : sb w v = true
      · rw [if_pos (mem_subs.2 hs), if_pos hs]
      · rw [if_neg (fun hm => hs (mem_subs.1 hm)), if_neg hs]
  rw [e] at i2
  simp only at i2 i3
  unfold costL
  constructor
  · unfold ly
    apply Prod.ext
    · exact e
    · simp only; omega
  · omega
/-- by how much a view would help -/
def wth (ss : List Int) (out : List Int) (v : Nat) : Int := (ly ss v out).2
/-- the view that helps most -/
def top (ss : List Int) (out : List Int) : Nat → Nat × Int
  | 0 => (0, 0)
  | n + 1 => if (top ss out n).2 < wth ss out n then (n, wth ss out n) else top ss out n
theorem top_spec (ss out : List Int) : ∀ n, 0 ≤ (top ss out n).2 ∧ (∀ v, v < n → wth ss out v ≤ (top ss out n).2) ∧ (0 < (top ss out n).2 → (top ss out n).1 < n ∧ wth ss out (top ss out n).1 = (top ss out n).2)
  | 0 => ⟨Int.le_refl _, fun v hv => absurd hv (Nat.not_lt_zero _), fun h => absurd h (by simp [top])⟩
  | n + 1 => by
    obtain ⟨h1, h2, h3⟩ := top_spec ss out n
    simp only [top]
    split
    · rename_i hlt
      refine ⟨by simp only; omega, fun v hv => ?_, fun _ => ⟨by simp, rfl⟩⟩
      simp only
      by_cases he : v = n
      · subst he; omega
      · have := h2 v (by omega); omega
    · rename_i hlt
      refine ⟨h1, fun v hv => ?_, fun hp => ?_⟩
      · by_cases he : v = n
        · subst he; omega
        · exact h2 v (by omega)
      · obtain ⟨k1, k2⟩ := h3 hp
        exact ⟨by omega, k2⟩
/-- views, one by one the one that helps most -/
def grd (ss : List Int) : Nat → List Nat → List Nat
  | 0, vs => vs
  | k + 1, vs => if (top ss (outs ss vs) ss.length).2 = 0 then vs else grd ss k (vs ++ [(top ss (outs ss vs) ss.length).1])
theorem grd_lt (ss : List Int) : ∀ (k : Nat) (vs : List Nat), (∀ v ∈ vs, v < ss.length) → ∀ v ∈ grd ss k vs, v < ss.length
  | 0, vs, h => h
  | k + 1, vs, h => by
    simp only [grd]
    split
    · exact h
    · rename_i hne
      refine grd_lt ss k _ fun v hv => ?_
      rcases List.mem_append.1 hv with h1 | h1
      · exact h v h1
      · obtain rfl : v = _ := by simpa using h1
        obtain ⟨t1, t2, t3⟩ := top_spec ss (outs ss vs) ss.length
        exact (t3 (by omega)).1
theorem wth_outs {ss : List Int} (h : Ok ss) (hn : 0 < ss.length) (vs : List Nat) (hv : ∀ v ∈ vs, v < ss.length) (v : Nat) (hvl : v < ss.length) : wth ss (outs ss vs) v = costL ss vs - costL ss (vs ++ [v]) := by
  unfold wth; rw [(ly_outs h hn vs hv v hvl).1]
/-- what was laid helps no more -/
theorem mn_le_of_mem (ss : List Int) (vs : List Nat) (v w : Nat) (hm : v ∈ vs) (hs : sb w v = true) : mn ss vs w ≤ ss.getD v 0 := by
  unfold mn
  have mono : ∀ (l : List Nat) (z : Int), l.foldl (fun l v => if sb w v then min l (ss.getD v 0) else l) z ≤ z := by
    intro l
    induction l with
    | nil => intro z; exact Int.le_refl _
    | cons a l ih =>
      intro z
      simp only [List.foldl_cons]
      refine Int.le_trans (ih _) ?_
      split
      · exact Int.min_le_left _ _
      · exact Int.le_refl _
  generalize lastS ss = z
  induction vs generalizing z with
  | nil => cases hm
  | cons a vs ih =>
    simp only [List.foldl_cons]
    rcases List.mem_cons.1 hm with rfl | h1
    · refine Int.le_trans (mono _ _) ?_
      rw [if_pos hs]
      exact Int.min_le_right _ _
    · exact ih h1 _
theorem again_zero {ss : List Int} (h : Ok ss) (hn : 0 < ss.length) (vs : List Nat) (hv : ∀ v ∈ vs, v < ss.length) (v : Nat) (hm : v ∈ vs) : wth ss (outs ss vs) v = 0 := by
  rw [wth_outs h hn vs hv v (hv v hm)]
  have : outs ss (vs ++ [v]) = outs ss vs := by
    unfold outs
    apply List.map_congr_left
    intro w _
    rw [mn_snoc]
    split
    · rename_i hs
      have := mn_le_of_mem ss vs v w hm hs
      rw [Int.min_def]; split <;> omega
    · rfl
  unfold costL
  rw [this]
  omega
theorem nodup_len : ∀ (n : Nat) (l : List Nat), l.Nodup → (∀ x ∈ l, x < n) → l.length ≤ n
  | 0, l, _, h => by
    cases l with
    | nil => simp
    | cons a l => exact absurd (h a (by simp)) (Nat.not_lt_zero _)
  | n + 1, l, hd, h => by
    have h1 := nodup_len n (l.erase n) (hd.erase n) (fun x hx => by
      have hx2 := (hd.mem_erase_iff).1 hx
      have := h x hx2.2
      have := hx2.1
      omega)
    have h2 : l.length ≤ (l.erase n).length + 1 := by
      rw [List.length_erase]; split <;> omega
    omega
theorem nodup_snoc {l : List Nat} {a : Nat} (h : l.Nodup) (ha : a ∉ l) : (l ++ [a]).Nodup := by
  rw [List.nodup_append]
  refine ⟨h, by simp, ?_⟩
  intro x hx y hy
  have : y = a := by simpa using hy
  subst this
  exact fun e => ha (e ▸ hx)
/-! ### how good the choice is -/
def gn (ss : List Int) (vs : List Nat) : Int := costL ss [] - costL ss vs
theorem mn_mono (ss : List Int) (w : Nat) : ∀ (l : List Nat) (z : Int), l.foldl (fun l v => if sb w v then min l (ss.getD v 0) else l) z ≤ z
  | [], z => Int.le_refl _
  | a :: l, z => by
    simp only [List.foldl_cons]
    refine Int.le_trans (mn_mono ss w l _) ?_
    split
    · exact Int.min_le_left _ _
    · exact Int.le_refl _
theorem mn_start (ss : List Int) (w : Nat) : ∀ (l : List Nat) (z z' : Int), z ≤ z' → l.foldl (fun l v => if sb w v then min l (ss.getD v 0) else l) z ≤ l.foldl (fun l v => if sb w v then min l (ss.getD v 0) else l) z'
  | [], z, z', h => h
  | a :: l, z, z', h => by
    simp only [List.foldl_cons]
    refine mn_start ss w l _ _ ?_
    split
    · simp only [Int.min_def]; repeat' split <;> omega
    · exact h
theorem sum_le {f g : Nat → Int} : ∀ (l : List Nat), (∀ w ∈ l, f w ≤ g w) → (l.map f).sum ≤ (l.map g).sum
  | [], _ => Int.le_refl _
  | a :: l, h => by
    have h1 := h a (by simp)
    have h2 := sum_le l (fun w hw => h w (by simp [hw]))
    simp only [List.map_cons, List.sum_cons]
    omega
theorem sum_sub {f g : Nat → Int} : ∀ (l : List Nat), (l.map fun w => f w - g w).sum = (l.map f).sum - (l.map g).sum
  | [] => by simp
  | a :: l => by
    simp only [List.map_cons, List.sum_cons]
    have := sum_sub (f := f) (g := g) l
    omega
/-- views ahead help too -/
theorem cost_more (ss : List Int) (a b : List Nat) : costL ss (a ++ b) ≤ costL ss b := by
  unfold costL outs
  apply sum_le
  intro w _
  unfold mn
  rw [List.foldl_append]
  exact mn_start ss w b _ _ (mn_mono ss w a _)
/-- a view helps less, the more there are -/
theorem less_gain (ss : List Int) (a b : List Nat) (v : Nat) : costL ss (a ++ b) - costL ss (a ++ b ++ [v]) ≤ costL ss a - costL ss (a ++ [v]) := by
  unfold costL outs
  rw [← sum_sub, ← sum_sub]
  apply sum_le
  intro w _
  rw [mn_snoc, mn_snoc]
  have h1 : mn ss (a ++ b) w ≤ mn ss a w := by
    unfold mn; rw [List.foldl_append]; exact mn_mono ss w b _
  split
  · simp only [Int.min_def]; repeat' split <;> omega
  · omega
theorem best_bound {ss : List Int} (h : Ok ss) (hn : 0 < ss.length) (a : List Nat) (ha : ∀ v ∈ a, v < ss.length) : ∀ (o : List Nat), (∀ v ∈ o, v < ss.length) →
    costL ss a - costL ss (a ++ o) ≤ o.length * (top ss (outs ss a) ss.length).2 := by
  intro o0
  obtain ⟨r, rfl⟩ : ∃ r : List Nat, o0 = r.reverse := ⟨o0.reverse, by simp⟩
  induction r with
  | nil => intro _; simp
  | cons v r ih =>
    rw [List.reverse_cons]
    generalize r.reverse = o at *
    intro ho
    have i1 := ih (fun u hu => ho u (by simp [hu]))
    have hv := ho v (by simp)
    have h1 := less_gain ss a o v
    obtain ⟨_, t2, _⟩ := top_spec ss (outs ss a) ss.length
    have h2 := t2 v hv
    rw [wth_outs h hn a ha v hv] at h2
    rw [← List.append_assoc]
    simp only [List.length_append, List.length_cons, List.length_nil]
    have : ((o.length + (0 + 1) : Nat) : Int) * (top ss (outs ss a) ss.length).2 = o.length * (top ss (outs ss a) ss.length).2 + (top ss (outs ss a) ss.length).2 := by
      rw [show ((o.length + (0 + 1) : Nat) : Int) = (o.length : Int) + 1 by omega, Int.add_mul]; omega
    rw [this]
    omega
/-- a step of the choice -/
theorem grd_step {ss : List Int} (h : Ok ss) (hn : 0 < ss.length) (o : List Nat) (ho : ∀ v ∈ o, v < ss.length) (a : List Nat) (ha : ∀ v ∈ a, v < ss.length) :
    let a' := if (top ss (outs ss a) ss.length).2 = 0 then a else a ++ [(top ss (outs ss a) ss.length).1]
    o.length * gn ss a' ≥ (o.length - 1) * gn ss a + gn ss o := by
  intro a'
  have hb := best_bound h hn a ha o ho
  have hc := cost_more ss a o
  obtain ⟨t1, t2, t3⟩ := top_spec ss (outs ss a) ss.length
  have hg : gn ss a' = gn ss a + (top ss (outs ss a) ss.length).2 := by
    show gn ss (if (top ss (outs ss a) ss.length).2 = 0 then a else a ++ [(top ss (outs ss a) ss.length).1]) = _
    split
    · rename_i h0; rw [h0]; omega
    · rename_i h0
      obtain ⟨k1, k2⟩ := t3 (by omega)
      rw [wth_outs h hn a ha _ k1] at k2
      unfold gn
      omega
  rw [hg]
  generalize (top ss (outs ss a) ss.length).2 = t at *
  have e1 : (o.length : Int) * (gn ss a + t) = (o.length : Int) * gn ss a + (o.length : Int) * t := Int.mul_add _ _ _
  have e2 : ((o.length : Int) - 1) * gn ss a = (o.length : Int) * gn ss a - gn ss a := by rw [Int.sub_mul]; omega
  rw [e1, e2]
  unfold gn at *
  omega
theorem grd_next (ss : List Int) (k : Nat) (vs : List Nat) : grd ss (k + 1) vs = if (top ss (outs ss vs) ss.length).2 = 0 then vs else grd ss k (vs ++ [(top ss (outs ss vs) ss.length).1]) := rfl
/-- the greedy choice, from its end -/
theorem grd_last (ss : List Int) : ∀ (k : Nat) (vs : List Nat), grd ss (k + 1) vs = (let a := grd ss k vs; if (top ss (outs ss a) ss.length).2 = 0 then a else a ++ [(top ss (outs ss a) ss.length).1])
  | 0, vs => by simp only [grd]; rfl
  | k + 1, vs => by
    rw [grd_next]
    split
    · rename_i h0
      have : grd ss (k + 1) vs = vs := by rw [grd_next, if_pos h0]
      simp only [this, h0, if_true]
    · rename_i h0
      rw [grd_last ss k]
      have : grd ss (k + 1) vs = grd ss k (vs ++ [(top ss (outs ss vs) ss.length).1]) := by rw [grd_next, if_neg h0]
      rw [this]
/-- the choice with one view more -/
def mor (ss : List Int) (a : List Nat) : List Nat := if (top ss (outs ss a) ss.length).2 = 0 then a else a ++ [(top ss (outs ss a) ss.length).1]
theorem grd_mor (ss : List Int) (k : Nat) (vs : List Nat) : grd ss (k + 1) vs = mor ss (grd ss k vs) := grd_last ss k vs
theorem mor_step {ss : List Int} (h : Ok ss) (hn : 0 < ss.length) (o : List Nat) (ho : ∀ v ∈ o, v < ss.length) (a : List Nat) (ha : ∀ v ∈ a, v < ss.length) :
    o.length * gn ss (mor ss a) ≥ (o.length - 1) * gn ss a + gn ss o := grd_step h hn o ho a ha
theorem gn_nil (ss : List Int) : gn ss [] = 0 := by unfold gn; omega
theorem good2 {ss : List Int} (h : Ok ss) (hn : 0 < ss.length) (u v : Nat) (hu : u < ss.length) (hv : v < ss.length) : 4 * gn ss (grd ss 2 []) ≥ 3 * gn ss [u, v] := by
  have ho : ∀ x ∈ [u, v], x < ss.length := by intro x hx; simp at hx; rcases hx with rfl | rfl <;> assumption
  have s1 := mor_step h hn [u, v] ho (grd ss 0 []) (grd_lt ss 0 [] (by simp))
  have s2 := mor_step h hn [u, v] ho (grd ss 1 []) (grd_lt ss 1 [] (by simp))
  rw [← grd_mor] at s1 s2
  have z : gn ss (grd ss 0 []) = 0 := gn_nil ss
  simp only [List.length_cons, List.length_nil] at s1 s2
  simp only [Nat.zero_add, Nat.reduceAdd] at s1 s2
  rw [z] at s1
  omega
theorem good3 {ss : List Int} (h : Ok ss) (hn : 0 < ss.length) (u v x : Nat) (hu : u < ss.length) (hv : v < ss.length) (hx : x < ss.length) : 27 * gn ss (grd ss 3 []) ≥ 19 * gn ss [u, v, x] := by
  have ho : ∀ y ∈ [u, v, x], y < ss.length := by intro y hy; simp at hy; rcases hy with rfl | rfl | rfl <;> assumption
  have s1 := mor_step h hn [u, v, x] ho (grd ss 0 []) (grd_lt ss 0 [] (by simp))
  have s2 := mor_step h hn [u, v, x] ho (grd ss 1 []) (grd_lt ss 1 [] (by simp))
  have s3 := mor_step h hn [u, v, x] ho (grd ss 2 []) (grd_lt ss 2 [] (by simp))
  rw [← grd_mor] at s1 s2 s3
  have z : gn ss (grd ss 0 []) = 0 := gn_nil ss
  simp only [List.length_cons, List.length_nil] at s1 s2 s3
  simp only [Nat.zero_add, Nat.reduceAdd] at s1 s2 s3
  rw [z] at s1
  omega
end Ad
end Go.Proofs.Ytmnlaekcojblkaa
