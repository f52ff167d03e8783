/-
  Plain mathematics: manifests: which may be, their bytes, and what is read of a sector.
-/
import Derived.Test.YtlohbkcedpkjaaaDoorTextP
import Derived.Test.YtlohbkcedpkjaaaDoorSealP
namespace Go.Proofs.YtlohbkcedpkjaaaDoor
namespace Man
open Byts Cod Seal
structure M where
  v : Int
  e : Int
  b : Int
  s : Int
  r : List (Int × Int)
def zm : M := ⟨0, 0, 0, 0, []⟩
def okR (r : Int × Int) : Prop := 0 ≤ r.1 ∧ r.1 ≤ 8192 ∧ 0 ≤ r.2 ∧ r.2 < 2147483648 ∧ (r.1 = 0 ↔ r.2 = 0)
instance (r : Int × Int) : Decidable (okR r) := by unfold okR; infer_instance
def may (m : M) : Prop := m.v ≠ 0 ∧ 1 ≤ m.s ∧ m.s ≤ 8192 ∧ 1 ≤ m.r.length ∧ m.r.length ≤ 16 ∧ ∀ r ∈ m.r, okR r
instance (m : M) : Decidable (may m) := by unfold may; infer_instance
/-- numbers as their kinds have them -/
def In (m : M) : Prop := 0 ≤ m.v ∧ m.v ≤ 18446744073709551615 ∧ 0 ≤ m.e ∧ m.e ≤ 18446744073709551615 ∧ 0 ≤ m.b ∧ m.b ≤ 18446744073709551615
def rb : List (Int × Int) → List Int
  | [] => []
  | r :: t => cu r.1 ++ (cu r.2 ++ rb t)
theorem rb_append (a b : List (Int × Int)) : rb (a ++ b) = rb a ++ rb b := by
  induction a with
  | nil => rfl
  | cons r t ih => simp [rb, ih]
theorem rb_snoc (a : List (Int × Int)) (r : Int × Int) : rb (a ++ [r]) = rb a ++ (cu r.1 ++ cu r.2) := by
  rw [rb_append]; simp [rb]
def body (m : M) : List Int := cu m.b ++ (cu m.s ++ (cu (m.r.length : Int) ++ rb m.r))
def sc (sm : List Int → List Int) (m : M) : List Int := sec 2 m.v m.e (body m) (sm (hd 2 m.v m.e (body m)))
/-- the roots that are read, one behind the other -/
def rdR (zs : List Int) : Nat → RS → List (Int × Int) × RS
  | 0, s => ([], s)
  | k + 1, s => ((rdR zs k s).1 ++ [((rdU zs 8192 (rdR zs k s).2).1, (rdU zs 2147483647 (rdU zs 8192 (rdR zs k s).2).2).1)], (rdU zs 2147483647 (rdU zs 8192 (rdR zs k s).2).2).2)
theorem rdR_length (zs : List Int) (s : RS) : ∀ k, (rdR zs k s).1.length = k
  | 0 => rfl
  | k + 1 => by simp [rdR, rdR_length zs s k]
theorem rdR_fit {zs : List Int} (hz : ∀ z ∈ zs, 0 ≤ z ∧ z < 256) {s : RS} (h : Fit zs s) : ∀ k, Fit zs (rdR zs k s).2 ∧ ∀ r ∈ (rdR zs k s).1, (0 ≤ r.1 ∧ r.1 ≤ 8192) ∧ (0 ≤ r.2 ∧ r.2 ≤ 2147483647)
  | 0 => ⟨h, fun r hr => by simp [rdR] at hr⟩
  | k + 1 => by
    obtain ⟨h1, h2⟩ := rdR_fit hz h k
    have f1 := rdU_fit hz 8192 (by decide) h1
    have f2 := rdU_fit hz 2147483647 (by decide) f1.1
    refine ⟨f2.1, fun r hr => ?_⟩
    rcases List.mem_append.1 hr with hr | hr
    · exact h2 r hr
    · simp only [List.mem_singleton] at hr
      subst hr
      exact ⟨f1.2, f2.2⟩
theorem rdR_rb {zs : List Int} {p : Nat} {l : List (Int × Int)} {t : List Int} (hl : ∀ r ∈ l, okR r) (hz : zs.drop p = rb l ++ t) : ∀ k, k ≤ l.length → rdR zs k (p, 0) = (l.take k, (p + (rb (l.take k)).length, 0))
  | 0, _ => by simp [rdR, rb]
  | k + 1, hk => by
    have ih := rdR_rb hl hz k (by omega)
    obtain ⟨h1, h2, h3, h4, _⟩ := hl l[k] (List.getElem_mem (by omega))
    have hs : l.take (k + 1) = l.take k ++ [l[k]] := List.take_succ_eq_append_getElem (by omega)
    have hd : zs.drop (p + (rb (l.take k)).length) = cu l[k].1 ++ (cu l[k].2 ++ (rb (l.drop (k + 1)) ++ t)) := by
      have e : l = l.take k ++ (l[k] :: l.drop (k + 1)) := by rw [List.getElem_cons_drop, List.take_append_drop]
      have e2 : rb l = rb (l.take k) ++ rb (l[k] :: l.drop (k + 1)) := by rw [← rb_append, ← e]
      rw [← List.drop_drop, hz, e2, List.append_assoc, List.drop_left]
      simp [rb]
    have r1 := rdU_cu (most := 8192) h1 (by omega) h2 hd
    have r2 := rdU_cu (most := 2147483647) h3 (by omega) (by omega) r1.2
    have e1 : rdR zs (k + 1) (p, 0) = ((rdR zs k (p, 0)).1 ++ [((rdU zs 8192 (rdR zs k (p, 0)).2).1, (rdU zs 2147483647 (rdU zs 8192 (rdR zs k (p, 0)).2).2).1)], (rdU zs 2147483647 (rdU zs 8192 (rdR zs k (p, 0)).2).2).2) := rfl
    rw [e1, ih]
    dsimp only
    rw [r1.1]
    dsimp only
    rw [r2.1, hs, rb_snoc]
    simp only [List.length_append]
    rw [show p + (rb (l.take k)).length + (cu l[k].1).length + (cu l[k].2).length = p + ((rb (l.take k)).length + ((cu l[k].1).length + (cu l[k].2).length)) by omega]
/-- what is read of a sector's body -/
def bd (v : List Int) : (Int × RS) × (Int × RS) × (Int × RS) := (rdU v 18446744073709551615 (0, 0), rdU v 8192 (rdU v 18446744073709551615 (0, 0)).2, rdU v 16 (rdU v 8192 (rdU v 18446744073709551615 (0, 0)).2).2)
def rs (v : List Int) : List (Int × Int) × RS := rdR v (bd v).2.2.1.toNat (bd v).2.2.2
/-- the manifest of a sector, and the error -/
def mg (sm : List Int → List Int) (zs : List Int) : M × Int :=
  if sE sm zs ≠ 0 then (zm, sE sm zs)
  else if sK sm zs ≠ 2 then (zm, 6)
  else if rdE (sV sm zs) (rs (sV sm zs)).2 ≠ 0 then (zm, rdE (sV sm zs) (rs (sV sm zs)).2)
  else if ¬ may ⟨sA sm zs, sB sm zs, (bd (sV sm zs)).1.1, (bd (sV sm zs)).2.1.1, (rs (sV sm zs)).1⟩ then (zm, 6)
  else (⟨sA sm zs, sB sm zs, (bd (sV sm zs)).1.1, (bd (sV sm zs)).2.1.1, (rs (sV sm zs)).1⟩, 0)
theorem fit0 (v : List Int) : Fit v (0, 0) := ⟨Nat.zero_le _, Int.le_refl _, by decide⟩
theorem bd_fit {v : List Int} (hz : ∀ z ∈ v, 0 ≤ z ∧ z < 256) : (Fit v (bd v).1.2 ∧ 0 ≤ (bd v).1.1 ∧ (bd v).1.1 ≤ 18446744073709551615) ∧ (Fit v (bd v).2.1.2 ∧ 0 ≤ (bd v).2.1.1 ∧ (bd v).2.1.1 ≤ 8192) ∧ (Fit v (bd v).2.2.2 ∧ 0 ≤ (bd v).2.2.1 ∧ (bd v).2.2.1 ≤ 16) := by
  have h1 := rdU_fit hz 18446744073709551615 (by decide) (fit0 v)
  have h2 := rdU_fit hz 8192 (by decide) h1.1
  have h3 := rdU_fit hz 16 (by decide) h2.1
  exact ⟨h1, h2, h3⟩
theorem rs_fit {v : List Int} (hz : ∀ z ∈ v, 0 ≤ z ∧ z < 256) : Fit v (rs v).2 ∧ ∀ r ∈ (rs v).1, (0 ≤ r.1 ∧ r.1 ≤ 8192) ∧ (0 ≤ r.2 ∧ r.2 ≤ 2147483647) := rdR_fit hz (bd_fit hz).2.2.1 _
theorem mg_zm (sm : List Int → List Int) (zs : List Int) (h : (mg sm zs).2 ≠ 0) : (mg sm zs).1 = zm := by
  unfold mg at h ⊢
  by_cases h1 : sE sm zs ≠ 0
  · rw [if_pos h1]
  rw [if_neg h1] at h ⊢
  by_cases h2 : sK sm zs ≠ 2
  · rw [if_pos h2]
  rw [if_neg h2] at h ⊢
  by_cases h3 : rdE (sV sm zs) (rs (sV sm zs)).2 ≠ 0
  · rw [if_pos h3]
  rw [if_neg h3] at h ⊢
  by_cases h4 : ¬ may ⟨sA sm zs, sB sm zs, (bd (sV sm zs)).1.1, (bd (sV sm zs)).2.1.1, (rs (sV sm zs)).1⟩
  · rw [if_pos h4]
  rw [if_neg h4] at h
  exact absurd rfl h
theorem sA_bd (sm : List Int → List Int) {zs : List Int} (hz : ∀ z ∈ zs, 0 ≤ z ∧ z < 256) : 0 ≤ sA sm zs ∧ sA sm zs ≤ 18446744073709551615 := by
  unfold sA
  split
  · exact num_mid hz 1 8 (by decide)
  · decide
theorem sB_bd (sm : List Int → List Int) {zs : List Int} (hz : ∀ z ∈ zs, 0 ≤ z ∧ z < 256) : 0 ≤ sB sm zs ∧ sB sm zs ≤ 18446744073709551615 := by
  unfold sB
  split
  · exact num_mid hz 9 8 (by decide)
  · decide
theorem mg_in (sm : List Int → List Int) {zs : List Int} (hz : ∀ z ∈ zs, 0 ≤ z ∧ z < 256) : In (mg sm zs).1 ∧ ((mg sm zs).2 = 0 → may (mg sm zs).1) := by
  have z0 : In zm := by unfold In zm; decide
  unfold mg
  by_cases h1 : sE sm zs ≠ 0
  · rw [if_pos h1]; exact ⟨z0, fun h => absurd h h1⟩
  rw [if_neg h1]
  by_cases h2 : sK sm zs ≠ 2
  · rw [if_pos h2]; exact ⟨z0, fun h => absurd h (by decide)⟩
  rw [if_neg h2]
  by_cases h3 : rdE (sV sm zs) (rs (sV sm zs)).2 ≠ 0
  · rw [if_pos h3]; exact ⟨z0, fun h => absurd h h3⟩
  rw [if_neg h3]
  by_cases h4 : ¬ may ⟨sA sm zs, sB sm zs, (bd (sV sm zs)).1.1, (bd (sV sm zs)).2.1.1, (rs (sV sm zs)).1⟩
  · rw [if_pos h4]; exact ⟨z0, fun h => absurd h (by decide)⟩
  rw [if_neg h4]
  have ha := sA_bd sm hz
  have hb := sB_bd sm hz
  have hc := (bd_fit (sV_bytes sm zs hz)).1.2
  exact ⟨⟨ha.1, ha.2, hb.1, hb.2, hc.1, hc.2⟩, fun _ => Decidable.not_not.1 h4⟩
theorem cu_le {x : Int} (h0 : 0 ≤ x) (h1 : x ≤ 18446744073709551615) : (cu x).length ≤ 9 := by rw [cu_length]; have := wd_le8 h0 h1; omega
theorem rb_le : ∀ {l : List (Int × Int)}, (∀ r ∈ l, okR r) → (rb l).length ≤ 18 * l.length
  | [], _ => by simp [rb]
  | r :: t, h => by
    have ih := rb_le (l := t) fun r hr => h r (List.mem_cons_of_mem _ hr)
    obtain ⟨h1, h2, h3, h4, _⟩ := h r (by simp)
    have c1 := cu_le h1 (by omega)
    have c2 := cu_le h3 (by omega)
    simp only [rb, List.length_append, List.length_cons]
    omega
theorem rb_bytes : ∀ {l : List (Int × Int)}, (∀ r ∈ l, okR r) → ∀ z ∈ rb l, 0 ≤ z ∧ z < 256
  | [], _, z, hz => by simp [rb] at hz
  | r :: t, h, z, hz => by
    have ih := rb_bytes (l := t) fun r hr => h r (List.mem_cons_of_mem _ hr)
    obtain ⟨h1, h2, h3, h4, _⟩ := h r (by simp)
    simp only [rb, List.mem_append] at hz
    rcases hz with hz | hz | hz
    · exact cu_bytes h1 (by omega) z hz
    · exact cu_bytes h3 (by omega) z hz
    · exact ih z hz
theorem body_le {m : M} (h : may m) (hi : In m) : (body m).length ≤ 1001 := by
  obtain ⟨h1, h2, h3, h4, h5, h6⟩ := h
  obtain ⟨_, _, _, _, i1, i2⟩ := hi
  have c1 := cu_le i1 i2
  have c2 := cu_le (x := m.s) (by omega) (by omega)
  have c3 := cu_le (x := (m.r.length : Int)) (by omega) (by omega)
  have c4 := rb_le h6
  simp only [body, List.length_append]
  omega
theorem body_bytes {m : M} (h : may m) (hi : In m) : ∀ z ∈ body m, 0 ≤ z ∧ z < 256 := by
  obtain ⟨h1, h2, h3, h4, h5, h6⟩ := h
  obtain ⟨_, _, _, _, i1, i2⟩ := hi
  intro z hz
  simp only [body, List.mem_append] at hz
  rcases hz with hz | hz | hz | hz
  · exact cu_bytes i1 i2 z hz
  · exact cu_bytes (by omega) (by omega) z hz
  · exact cu_bytes (by omega) (by omega) z hz
  · exact rb_bytes h6 z hz
/-- what was put is got -/
theorem mg_sc (sm : List Int → List Int) (h4 : ∀ l, (sm l).length = 4) {m : M} (h : may m) (hi : In m) : mg sm (sc sm m) = (m, 0) := by
  have hbl := body_le h hi
  obtain ⟨v0, v1, e0, e1, b0, b1⟩ := hi
  obtain ⟨g1, g2, g3, g4, g5⟩ := sec_get sm h4 2 m.v m.e (body m) (by decide) hbl v0 v1 e0 e1
  have hm := h
  obtain ⟨_, h2, h3, h5, h6, h7⟩ := h
  have d0 : (body m).drop 0 = cu m.b ++ (cu m.s ++ (cu (m.r.length : Int) ++ rb m.r)) := rfl
  have r1 := rdU_cu (most := 18446744073709551615) b0 b1 b1 d0
  have r2 := rdU_cu (most := 8192) (by omega) (by omega) h3 r1.2
  have r3 := rdU_cu (most := 16) (by omega) (by omega) (by omega) r2.2
  have r4 := rdR_rb (t := []) h7 (by rw [List.append_nil]; exact r3.2) m.r.length (Nat.le_refl _)
  have eb : bd (body m) = ((m.b, (0 + (cu m.b).length, 0)), (m.s, (0 + (cu m.b).length + (cu m.s).length, 0)), ((m.r.length : Int), (0 + (cu m.b).length + (cu m.s).length + (cu (m.r.length : Int)).length, 0))) := by
    unfold bd
    rw [r1.1]
    dsimp only
    rw [r2.1]
    dsimp only
    rw [r3.1]
  have er : rs (body m) = (m.r, (0 + (cu m.b).length + (cu m.s).length + (cu (m.r.length : Int)).length + (rb m.r).length, 0)) := by
    unfold rs
    rw [eb]
    dsimp only
    rw [Int.toNat_natCast, r4, List.take_of_length_le (Nat.le_refl _)]
  have ee : rdE (body m) (rs (body m)).2 = 0 := by
    unfold rdE
    rw [er, if_neg]
    simp only [body, List.length_append]
    omega
  unfold mg sc
  rw [g1, g2, g3, g4, g5, ee, er, eb, if_neg (by simp), if_neg (by simp), if_neg (by simp)]
  dsimp only
  rw [if_neg (fun h => h hm)]
/-- which of two sectors counts -/
def mc (sm : List Int → List Int) (a b : List Int) : Int × M × Int :=
  if (mg sm a).2 ≠ 0 ∧ (mg sm b).2 ≠ 0 then (0, zm, 11)
  else if (mg sm b).2 ≠ 0 ∨ ((mg sm a).2 = 0 ∧ (mg sm b).1.v ≤ (mg sm a).1.v) then (0, (mg sm a).1, 0)
  else (1, (mg sm b).1, 0)
end Man
end Go.Proofs.YtlohbkcedpkjaaaDoor
