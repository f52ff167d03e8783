/-
  Plain mathematics: a schema's bytes, and what is read of bytes.
-/
import Derived.Test.YtlohbkcedpkjaaaTextP
namespace Go.Proofs.Ytlohbkcedpkjaaa
namespace Cod
open Byts
/-- things that are read one behind the other -/
def rdL {α : Type} (f : RS → α × RS) : Nat → RS → List α × RS
  | 0, s => ([], s)
  | k + 1, s => ((rdL f k s).1 ++ [(f (rdL f k s).2).1], (f (rdL f k s).2).2)
section
variable {α : Type} {f : RS → α × RS} {enc : α → List Int} {zs : List Int}
theorem rdL_length (s : RS) : ∀ k, (rdL f k s).1.length = k
  | 0 => rfl
  | k + 1 => by simp [rdL, rdL_length s k]
theorem rdL_fit {p : α → Prop} (hf : ∀ s, Fit zs s → Fit zs (f s).2 ∧ p (f s).1) {s : RS} (h : Fit zs s) : ∀ k, Fit zs (rdL f k s).2 ∧ ∀ x ∈ (rdL f k s).1, p x
  | 0 => ⟨h, fun x hx => by simp [rdL] at hx⟩
  | k + 1 => by
    obtain ⟨h1, h2⟩ := rdL_fit hf h k
    obtain ⟨h3, h4⟩ := hf _ h1
    refine ⟨h3, fun x hx => ?_⟩
    rcases List.mem_append.1 hx with hx | hx
    · exact h2 x hx
    · simp only [List.mem_singleton] at hx; subst hx; exact h4
/-- things that were laid are read -/
theorem rdL_enc {l : List α} {p : Nat} {t : List Int} (hf : ∀ x ∈ l, ∀ p t, zs.drop p = enc x ++ t → f (p, 0) = (x, (p + (enc x).length, 0)))
    (hz : zs.drop p = l.flatMap enc ++ t) : ∀ k, k ≤ l.length → rdL f k (p, 0) = (l.take k, (p + ((l.take k).flatMap enc).length, 0))
  | 0, _ => by simp [rdL]
  | k + 1, hk => by
    have ih := rdL_enc hf hz k (by omega)
    have hs : l.take (k + 1) = l.take k ++ [l[k]] := List.take_succ_eq_append_getElem (by omega)
    have hd : zs.drop (p + ((l.take k).flatMap enc).length) = enc l[k] ++ ((l.drop (k + 1)).flatMap enc ++ t) := by
      have e : l = l.take k ++ (l[k] :: l.drop (k + 1)) := by rw [List.getElem_cons_drop, List.take_append_drop]
      have e2 : l.flatMap enc = (l.take k).flatMap enc ++ (l[k] :: l.drop (k + 1)).flatMap enc := by rw [← List.flatMap_append, ← e]
      rw [← List.drop_drop, hz, e2, List.append_assoc, List.drop_left, List.flatMap_cons, List.append_assoc]
    have e1 : rdL f (k + 1) (p, 0) = ((rdL f k (p, 0)).1 ++ [(f (rdL f k (p, 0)).2).1], (f (rdL f k (p, 0)).2).2) := rfl
    rw [e1, ih]
    dsimp only
    rw [hf l[k] (List.getElem_mem (by omega)) _ _ hd, hs, List.flatMap_append, List.flatMap_singleton, List.length_append, Nat.add_assoc]
theorem rdL_all {l : List α} {p : Nat} {t : List Int} (hf : ∀ x ∈ l, ∀ p t, zs.drop p = enc x ++ t → f (p, 0) = (x, (p + (enc x).length, 0)))
    (hz : zs.drop p = l.flatMap enc ++ t) : rdL f l.length (p, 0) = (l, (p + (l.flatMap enc).length, 0)) ∧ zs.drop (p + (l.flatMap enc).length) = t := by
  refine ⟨?_, by rw [← List.drop_drop, hz, List.drop_left]⟩
  have := rdL_enc hf hz l.length (Nat.le_refl _)
  rwa [List.take_of_length_le (Nat.le_refl _)] at this
theorem rdL_ok (hf : ∀ s, (f s).2.2 = 0 → s.2 = 0 ∧ zs.drop s.1 = enc (f s).1 ++ zs.drop (f s).2.1) (s : RS) : ∀ k, (rdL f k s).2.2 = 0 → s.2 = 0 ∧ zs.drop s.1 = (rdL f k s).1.flatMap enc ++ zs.drop (rdL f k s).2.1
  | 0, h => ⟨h, by simp [rdL]⟩
  | k + 1, h => by
    obtain ⟨h1, h2⟩ := hf _ h
    obtain ⟨h3, h4⟩ := rdL_ok hf s k h1
    refine ⟨h3, ?_⟩
    rw [h4, h2]
    simp [rdL]
end
/-- texts: how many, and each one's code -/
def eT (l : List (List Int)) : List Int := cu (l.length : Int) ++ l.flatMap ct
def rdX (zs : List Int) (most : Int) (s : RS) : List (List Int) × RS := rdL (fun s => rdT zs 16 s) (rdU zs most s).1.toNat (rdU zs most s).2
theorem rdX_eT {zs t : List Int} {most : Int} {p : Nat} {l : List (List Int)} (hm : most ≤ 100) (hl : (l.length : Int) ≤ most) (h16 : ∀ x ∈ l, x.length ≤ 16) (hz : zs.drop p = eT l ++ t) :
    rdX zs most (p, 0) = (l, (p + (eT l).length, 0)) ∧ zs.drop (p + (eT l).length) = t := by
  unfold eT at hz ⊢
  rw [List.append_assoc] at hz
  obtain ⟨r1, d1⟩ := rdU_cu (most := most) (by omega) (by omega) hl hz
  obtain ⟨r2, d2⟩ := rdL_all (f := fun s => rdT zs 16 s) (enc := ct) (fun x hx p t h => (rdT_ct (most := 16) (by have := h16 x hx; omega) h).1) d1
  unfold rdX
  rw [r1]
  dsimp only
  rw [Int.toNat_natCast, r2, List.length_append, ← Nat.add_assoc]
  exact ⟨rfl, d2⟩
theorem rdX_fit {zs : List Int} (hz : ∀ z ∈ zs, 0 ≤ z ∧ z < 256) (most : Int) (hm : 0 ≤ most) {s : RS} (h : Fit zs s) : Fit zs (rdX zs most s).2 ∧ ((rdX zs most s).1.length : Int) ≤ most ∧ ∀ x ∈ (rdX zs most s).1, (x.length : Int) ≤ 16 ∧ ∀ z ∈ x, 0 ≤ z ∧ z < 256 := by
  obtain ⟨f1, g0, g1⟩ := rdU_fit hz most hm h
  have f2 := rdL_fit (f := fun s => rdT zs 16 s) (p := fun x => (x.length : Int) ≤ 16 ∧ ∀ z ∈ x, 0 ≤ z ∧ z < 256) (fun s hs => rdT_fit hz 16 (by decide) hs) f1 (rdU zs most s).1.toNat
  refine ⟨f2.1, ?_, f2.2⟩
  unfold rdX
  rw [rdL_length]
  omega
theorem rdX_ok {zs : List Int} (hz : ∀ z ∈ zs, 0 ≤ z ∧ z < 256) {most : Int} (hm : 0 ≤ most) {s : RS} (hs : Fit zs s) (h : (rdX zs most s).2.2 = 0) : s.2 = 0 ∧ zs.drop s.1 = eT (rdX zs most s).1 ++ zs.drop (rdX zs most s).2.1 := by
  have hb := rdU_fit hz most hm hs
  obtain ⟨h1, h2⟩ := rdL_ok (f := fun s => rdT zs 16 s) (enc := ct) (fun s h => rdT_ok h) (rdU zs most s).2 _ h
  obtain ⟨h3, h4⟩ := rdU_ok hz h1
  refine ⟨h3, ?_⟩
  rw [h4, h2]
  unfold eT rdX
  rw [rdL_length, show ((rdU zs most s).1.toNat : Int) = (rdU zs most s).1 by omega, List.append_assoc]
/-! ### a schema -/
structure SC where
  d : List (List Int × Int)
  i : List (List Int)
  n : List (List Int)
  v : List Int
def eD (x : List Int × Int) : List Int := ct x.1 ++ cu x.2
def fD (zs : List Int) (s : RS) : (List Int × Int) × RS := (((rdT zs 16 s).1, (rdU zs 4096 (rdT zs 16 s).2).1), (rdU zs 4096 (rdT zs 16 s).2).2)
def sb (c : SC) : List Int := (cu (c.d.length : Int) ++ c.d.flatMap eD) ++ (eT c.i ++ (eT c.n ++ (cu (c.v.length : Int) ++ c.v.flatMap cu)))
def sg0 (zs : List Int) : List (List Int × Int) × RS := rdL (fD zs) (rdU zs 6 (0, 0)).1.toNat (rdU zs 6 (0, 0)).2
def sg1 (zs : List Int) : List (List Int) × RS := rdX zs 3 (sg0 zs).2
def sg2 (zs : List Int) : List (List Int) × RS := rdX zs 2 (sg1 zs).2
def sg3 (zs : List Int) : List Int × RS := rdL (fun s => rdU zs 4294967295 s) (rdU zs 15 (sg2 zs).2).1.toNat (rdU zs 15 (sg2 zs).2).2
def sg (zs : List Int) : SC := ⟨(sg0 zs).1, (sg1 zs).1, (sg2 zs).1, (sg3 zs).1⟩
theorem sfit0 (v : List Int) : Fit v (0, 0) := ⟨Nat.zero_le _, Int.le_refl _, by decide⟩
def dOk (x : List Int × Int) : Prop := ((x.1.length : Int) ≤ 16 ∧ ∀ z ∈ x.1, 0 ≤ z ∧ z < 256) ∧ 0 ≤ x.2 ∧ x.2 ≤ 4096
def tOk (x : List Int) : Prop := (x.length : Int) ≤ 16 ∧ ∀ z ∈ x, 0 ≤ z ∧ z < 256
theorem fD_fit {zs : List Int} (hz : ∀ z ∈ zs, 0 ≤ z ∧ z < 256) (s : RS) (h : Fit zs s) : Fit zs (fD zs s).2 ∧ dOk (fD zs s).1 := by
  have h1 := rdT_fit hz 16 (by decide) h
  have h2 := rdU_fit hz 4096 (by decide) h1.1
  exact ⟨h2.1, ⟨h1.2, h2.2⟩⟩
theorem sg0_fit {zs : List Int} (hz : ∀ z ∈ zs, 0 ≤ z ∧ z < 256) : Fit zs (sg0 zs).2 ∧ (sg0 zs).1.length ≤ 6 ∧ ∀ x ∈ (sg0 zs).1, dOk x := by
  have h1 := rdU_fit hz 6 (by decide) (sfit0 zs)
  have h2 := rdL_fit (f := fD zs) (p := dOk) (fD_fit hz) h1.1 (rdU zs 6 (0, 0)).1.toNat
  refine ⟨h2.1, ?_, h2.2⟩
  unfold sg0
  rw [rdL_length]
  omega
theorem sg1_fit {zs : List Int} (hz : ∀ z ∈ zs, 0 ≤ z ∧ z < 256) : Fit zs (sg1 zs).2 ∧ ((sg1 zs).1.length : Int) ≤ 3 ∧ ∀ x ∈ (sg1 zs).1, tOk x := rdX_fit hz 3 (by decide) (sg0_fit hz).1
theorem sg2_fit {zs : List Int} (hz : ∀ z ∈ zs, 0 ≤ z ∧ z < 256) : Fit zs (sg2 zs).2 ∧ ((sg2 zs).1.length : Int) ≤ 2 ∧ ∀ x ∈ (sg2 zs).1, tOk x := rdX_fit hz 2 (by decide) (sg1_fit hz).1
theorem sg3_n {zs : List Int} (hz : ∀ z ∈ zs, 0 ≤ z ∧ z < 256) : Fit zs (rdU zs 15 (sg2 zs).2).2 ∧ 0 ≤ (rdU zs 15 (sg2 zs).2).1 ∧ (rdU zs 15 (sg2 zs).2).1 ≤ 15 := rdU_fit hz 15 (by decide) (sg2_fit hz).1
theorem sg3_fit {zs : List Int} (hz : ∀ z ∈ zs, 0 ≤ z ∧ z < 256) : Fit zs (sg3 zs).2 ∧ (sg3 zs).1.length ≤ 15 ∧ ∀ x ∈ (sg3 zs).1, 0 ≤ x ∧ x ≤ 4294967295 := by
  have h1 := sg3_n hz
  have h2 := rdL_fit (f := fun s => rdU zs 4294967295 s) (p := fun x => 0 ≤ x ∧ x ≤ 4294967295) (fun s h => rdU_fit hz 4294967295 (by decide) h) h1.1 (rdU zs 15 (sg2 zs).2).1.toNat
  refine ⟨h2.1, ?_, h2.2⟩
  unfold sg3
  rw [rdL_length]
  omega
/-- a schema whose bytes are read as they were laid -/
def Fits (c : SC) : Prop := c.d.length ≤ 6 ∧ (∀ x ∈ c.d, dOk x) ∧ c.i.length ≤ 3 ∧ (∀ x ∈ c.i, tOk x) ∧ c.n.length ≤ 2 ∧ (∀ x ∈ c.n, tOk x) ∧ c.v.length ≤ 15 ∧ ∀ x ∈ c.v, 0 ≤ x ∧ x ≤ 4294967295
theorem sg_fits {zs : List Int} (hz : ∀ z ∈ zs, 0 ≤ z ∧ z < 256) : Fits (sg zs) := by
  have h0 := sg0_fit hz
  have h1 := sg1_fit hz
  have h2 := sg2_fit hz
  have h3 := sg3_fit hz
  exact ⟨h0.2.1, h0.2.2, by have := h1.2.1; show (sg1 zs).1.length ≤ 3; omega, h1.2.2, by have := h2.2.1; show (sg2 zs).1.length ≤ 2; omega, h2.2.2, h3.2.1, h3.2.2⟩
theorem sg_sb {c : SC} (h : Fits c) : sg (sb c) = c ∧ rdE (sb c) (sg3 (sb c)).2 = 0 := by
  obtain ⟨d1, d2, i1, i2, n1, n2, v1, v2⟩ := h
  have z0 : (sb c).drop 0 = cu (c.d.length : Int) ++ (c.d.flatMap eD ++ (eT c.i ++ (eT c.n ++ (cu (c.v.length : Int) ++ c.v.flatMap cu)))) := by simp [sb]
  obtain ⟨r0, z1⟩ := rdU_cu (most := 6) (by omega) (by omega) (by omega) z0
  have hfD : ∀ x ∈ c.d, ∀ p t, (sb c).drop p = eD x ++ t → fD (sb c) (p, 0) = (x, (p + (eD x).length, 0)) := by
    intro x hx p t hp
    obtain ⟨⟨h1, _⟩, h2, h3⟩ := d2 x hx
    unfold eD at hp ⊢
    rw [List.append_assoc] at hp
    obtain ⟨a1, a2⟩ := rdT_ct (most := 16) h1 hp
    obtain ⟨b1, b2⟩ := rdU_cu (most := 4096) h2 (by omega) h3 a2
    unfold fD
    rw [a1]
    dsimp only
    rw [b1, List.length_append, ← Nat.add_assoc]
  obtain ⟨r1, z2⟩ := rdL_all (f := fD (sb c)) (enc := eD) hfD z1
  have e0 : sg0 (sb c) = (c.d, (0 + (cu (c.d.length : Int)).length + (c.d.flatMap eD).length, 0)) := by
    unfold sg0
    rw [r0]
    dsimp only
    rw [Int.toNat_natCast, r1]
  obtain ⟨r2, z3⟩ := rdX_eT (most := 3) (by omega) (by omega) (fun x hx => by have := (i2 x hx).1; omega) z2
  have e1 : sg1 (sb c) = (c.i, (0 + (cu (c.d.length : Int)).length + (c.d.flatMap eD).length + (eT c.i).length, 0)) := by unfold sg1; rw [e0]; exact r2
  obtain ⟨r3, z4⟩ := rdX_eT (most := 2) (by omega) (by omega) (fun x hx => by have := (n2 x hx).1; omega) z3
  have e2 : sg2 (sb c) = (c.n, (0 + (cu (c.d.length : Int)).length + (c.d.flatMap eD).length + (eT c.i).length + (eT c.n).length, 0)) := by unfold sg2; rw [e1]; exact r3
  obtain ⟨r4, z5⟩ := rdU_cu (most := 15) (by omega) (by omega) (by omega) z4
  obtain ⟨r5, z6⟩ := rdL_all (f := fun s => rdU (sb c) 4294967295 s) (enc := cu) (l := c.v) (t := []) (fun x hx p t h => (rdU_cu (most := 4294967295) (v2 x hx).1 (by have := (v2 x hx).2; omega) (v2 x hx).2 h).1) (by rw [List.append_nil]; exact z5)
  have e3 : sg3 (sb c) = (c.v, (0 + (cu (c.d.length : Int)).length + (c.d.flatMap eD).length + (eT c.i).length + (eT c.n).length + (cu (c.v.length : Int)).length + (c.v.flatMap cu).length, 0)) := by
    unfold sg3
    rw [e2, r4]
    dsimp only
    rw [Int.toNat_natCast, r5]
  constructor
  · unfold sg
    rw [e0, e1, e2, e3]
  · unfold rdE
    rw [e3, if_neg]
    simp only [sb, List.length_append]
    omega
theorem sb_sg {zs : List Int} (hz : ∀ z ∈ zs, 0 ≤ z ∧ z < 256) (h : rdE zs (sg3 zs).2 = 0) : sb (sg zs) = zs := by
  have h0 := sg0_fit hz
  have h1 := sg1_fit hz
  have h2 := sg2_fit hz
  have h3 := sg3_n hz
  have h4 := sg3_fit hz
  have hf : (sg3 zs).2.2 = 0 := by
    unfold rdE at h
    split at h
    · simp at h
    · exact h
  have hend : zs.drop (sg3 zs).2.1 = [] := by
    unfold rdE at h
    rw [List.drop_eq_nil_iff]
    rcases Nat.lt_or_ge (sg3 zs).2.1 zs.length with hlt | hge
    · rw [if_pos ⟨hf, hlt⟩] at h; simp at h
    · exact hge
  obtain ⟨a1, b1⟩ := rdL_ok (f := fun s => rdU zs 4294967295 s) (enc := cu) (fun s h => rdU_ok hz h) _ _ hf
  obtain ⟨a2, b2⟩ := rdU_ok hz a1
  obtain ⟨a3, b3⟩ := rdX_ok hz (by decide) h1.1 a2
  obtain ⟨a4, b4⟩ := rdX_ok hz (by decide) h0.1 a3
  have hfD : ∀ s, (fD zs s).2.2 = 0 → s.2 = 0 ∧ zs.drop s.1 = eD (fD zs s).1 ++ zs.drop (fD zs s).2.1 := by
    intro s hs
    obtain ⟨c1, c2⟩ := rdU_ok hz hs
    obtain ⟨c3, c4⟩ := rdT_ok c1
    refine ⟨c3, ?_⟩
    rw [c4, c2]
    simp [eD, fD]
  obtain ⟨a5, b5⟩ := rdL_ok (f := fD zs) (enc := eD) hfD _ _ a4
  obtain ⟨a6, b6⟩ := rdU_ok hz a5
  have hb0 := rdU_fit hz 6 (by decide) (sfit0 zs)
  have l0 : ((sg0 zs).1.length : Int) = (rdU zs 6 (0, 0)).1 := by unfold sg0; rw [rdL_length]; omega
  have l3 : ((sg3 zs).1.length : Int) = (rdU zs 15 (sg2 zs).2).1 := by unfold sg3; rw [rdL_length]; omega
  have c1 : zs.drop (rdU zs 15 (sg2 zs).2).2.1 = (sg3 zs).1.flatMap cu ++ [] := by rw [← hend]; exact b1
  have c2 : zs.drop (sg2 zs).2.1 = cu ((sg3 zs).1.length : Int) ++ ((sg3 zs).1.flatMap cu ++ []) := by rw [← c1, l3]; exact b2
  have c3 : zs.drop (sg1 zs).2.1 = eT (sg2 zs).1 ++ (cu ((sg3 zs).1.length : Int) ++ ((sg3 zs).1.flatMap cu ++ [])) := by rw [← c2]; exact b3
  have c4 : zs.drop (sg0 zs).2.1 = eT (sg1 zs).1 ++ (eT (sg2 zs).1 ++ (cu ((sg3 zs).1.length : Int) ++ ((sg3 zs).1.flatMap cu ++ []))) := by rw [← c3]; exact b4
  have c5 : zs.drop (rdU zs 6 (0, 0)).2.1 = (sg0 zs).1.flatMap eD ++ (eT (sg1 zs).1 ++ (eT (sg2 zs).1 ++ (cu ((sg3 zs).1.length : Int) ++ ((sg3 zs).1.flatMap cu ++ [])))) := by rw [← c4]; exact b5
  have c6 : zs.drop 0 = cu ((sg0 zs).1.length : Int) ++ ((sg0 zs).1.flatMap eD ++ (eT (sg1 zs).1 ++ (eT (sg2 zs).1 ++ (cu ((sg3 zs).1.length : Int) ++ ((sg3 zs).1.flatMap cu ++ []))))) := by rw [← c5, l0]; exact b6
  rw [List.drop_zero] at c6
  conv => rhs; rw [c6]
  simp [sb, sg]
theorem ct_len {s : List Int} (h : (s.length : Int) ≤ 16) : (ct s).length ≤ 34 := by have := ct_length s; omega
theorem flat_le {α : Type} {enc : α → List Int} {l : List α} {m : Nat} (h : ∀ x ∈ l, (enc x).length ≤ m) : (l.flatMap enc).length ≤ l.length * m := by
  induction l with
  | nil => simp
  | cons x t ih =>
    have h1 := h x (by simp)
    have h2 := ih fun y hy => h y (by simp [hy])
    rw [List.flatMap_cons, List.length_append, List.length_cons, Nat.add_mul]
    omega
theorem flat_bytes {α : Type} {enc : α → List Int} {l : List α} (h : ∀ x ∈ l, ∀ z ∈ enc x, 0 ≤ z ∧ z < 256) : ∀ z ∈ l.flatMap enc, 0 ≤ z ∧ z < 256 := by
  intro z hz
  obtain ⟨x, hx, hz⟩ := List.mem_flatMap.1 hz
  exact h x hx z hz
theorem eT_bytes {l : List (List Int)} (hl : l.length ≤ 100) (h : ∀ x ∈ l, tOk x) : ∀ z ∈ eT l, 0 ≤ z ∧ z < 256 := by
  intro z hz
  rcases List.mem_append.1 hz with hz | hz
  · exact cu_bytes (by omega) (by omega) z hz
  · exact flat_bytes (fun x hx => ct_bytes (h x hx).2) z hz
theorem cu9 {x : Int} (h0 : 0 ≤ x) (h1 : x ≤ 18446744073709551615) : (cu x).length ≤ 9 := by rw [cu_length]; have := wd_le8 h0 h1; omega
theorem eT_le {l : List (List Int)} (hl : l.length ≤ 3) (h : ∀ x ∈ l, tOk x) : (eT l).length ≤ 200 := by
  have h1 := flat_le (enc := ct) (l := l) (m := 34) fun x hx => ct_len (h x hx).1
  have h2 := cu9 (x := (l.length : Int)) (by omega) (by omega)
  unfold eT
  rw [List.length_append]
  omega
theorem sb_le {c : SC} (h : Fits c) : (sb c).length ≤ 1000 ∧ ∀ z ∈ sb c, 0 ≤ z ∧ z < 256 := by
  obtain ⟨d1, d2, i1, i2, n1, n2, v1, v2⟩ := h
  have a1 := cu9 (x := (c.d.length : Int)) (by omega) (by omega)
  have a2 := cu9 (x := (c.v.length : Int)) (by omega) (by omega)
  have a3 := flat_le (enc := eD) (l := c.d) (m := 43) fun x hx => by
    have := ct_len (d2 x hx).1.1
    have := cu9 (d2 x hx).2.1 (by have := (d2 x hx).2.2; omega)
    unfold eD; rw [List.length_append]; omega
  have a4 := flat_le (enc := cu) (l := c.v) (m := 9) fun x hx => cu9 (v2 x hx).1 (by have := (v2 x hx).2; omega)
  have a5 := eT_le i1 i2
  have a6 := eT_le (by omega) n2
  refine ⟨?_, fun z hz => ?_⟩
  · simp only [sb, List.length_append]
    omega
  · simp only [sb, List.mem_append] at hz
    rcases hz with (hz | hz) | hz | hz | hz | hz
    · exact cu_bytes (by omega) (by omega) z hz
    · refine flat_bytes (fun x hx z hz => ?_) z hz
      rcases List.mem_append.1 hz with hz | hz
      · exact ct_bytes (d2 x hx).1.2 z hz
      · exact cu_bytes (d2 x hx).2.1 (by have := (d2 x hx).2.2; omega) z hz
    · exact eT_bytes (by omega) i2 z hz
    · exact eT_bytes (by omega) n2 z hz
    · exact cu_bytes (by omega) (by omega) z hz
    · exact flat_bytes (fun x hx => cu_bytes (v2 x hx).1 (by have := (v2 x hx).2; omega)) z hz
end Cod
end Go.Proofs.Ytlohbkcedpkjaaa
