import Derived.Test.YtpomklkfedpkfaaGreatZFilterCells2
/-
  What the law leans on, part 3: SchPlain, WSchE, WSchF, WSchG, WDiffC, WCelA, WCelD, WCelF, WDiffA, WCelB, WCelK, WExaC, DifPlain, WCelG, PatPlain, WCelI, WExaD.
-/
namespace Go.Proofs.YtpomklkfedpkfaaGreat
set_option maxRecDepth 100000
set_option linter.unusedVariables false
def kyA (ds : List (ByteArray × Int)) : Nat → Int
  | 0 => 1
  | i + 1 => kyA ds i * (ds.getD i d0).2
def szB (ds : List (ByteArray × Int)) : Nat → Bool
  | 0 => true
  | i + 1 => szB ds i && decide (1 ≤ (ds.getD i d0).2 ∧ (ds.getD i d0).2 ≤ 4096 ∧ kyA ds (i + 1) ≤ 1099511627776)
def viB (F : Int) (zs : List Int) : Nat → Bool
  | 0 => true
  | i + 1 => viB F zs i && decide (zs.getD i 0 < F ∧ (i = 0 ∨ zs.getD (i - 1) 0 < zs.getD i 0))
def nmB (l : List ByteArray) : Nat → Bool
  | 0 => true
  | i + 1 => nmB l i && isS (l.getD i be0)
theorem mono_b {f : Nat → Bool} (hs : ∀ i, f (i + 1) = true → f i = true) {i n : Nat} (h : i ≤ n) (hn : f n = true) : f i = true := by
  induction n with
  | zero => obtain rfl : i = 0 := by omega
            exact hn
  | succ n ih =>
    rcases Nat.lt_or_ge n i with h' | h'
    · obtain rfl : i = n + 1 := by omega
      exact hn
    · exact ih h' (hs n hn)
theorem mono_f {f : Nat → Bool} (hs : ∀ i, f (i + 1) = true → f i = true) {i n : Nat} (h : i ≤ n) (hn : f i = false) : f n = false := by
  cases hc : f n with
  | false => rfl
  | true => rw [mono_b hs h hc] at hn; cases hn
theorem szB_s (ds : List (ByteArray × Int)) (i : Nat) (h : szB ds (i + 1) = true) : szB ds i = true := by simp only [szB, Bool.and_eq_true] at h; exact h.1
theorem viB_s (F : Int) (zs : List Int) (i : Nat) (h : viB F zs (i + 1) = true) : viB F zs i = true := by simp only [viB, Bool.and_eq_true] at h; exact h.1
theorem nmB_s (l : List ByteArray) (i : Nat) (h : nmB l (i + 1) = true) : nmB l i = true := by simp only [nmB, Bool.and_eq_true] at h; exact h.1
theorem szB_at {ds : List (ByteArray × Int)} {i : Nat} (h : szB ds (i + 1) = true) : 1 ≤ (ds.getD i d0).2 ∧ (ds.getD i d0).2 ≤ 4096 ∧ kyA ds (i + 1) ≤ 1099511627776 := by
  simp only [szB, Bool.and_eq_true] at h; exact of_decide_eq_true h.2
theorem szB_mk {ds : List (ByteArray × Int)} {i : Nat} (h : szB ds i = true) (k : 1 ≤ (ds.getD i d0).2 ∧ (ds.getD i d0).2 ≤ 4096 ∧ kyA ds (i + 1) ≤ 1099511627776) : szB ds (i + 1) = true := by
  simp only [szB, Bool.and_eq_true]; exact ⟨h, decide_eq_true k⟩
theorem szB_no {ds : List (ByteArray × Int)} {i : Nat} (k : ¬ (1 ≤ (ds.getD i d0).2 ∧ (ds.getD i d0).2 ≤ 4096 ∧ kyA ds (i + 1) ≤ 1099511627776)) : szB ds (i + 1) = false := by
  cases hc : szB ds (i + 1) with
  | false => rfl
  | true => exact absurd (szB_at hc) k
theorem viB_at {F : Int} {zs : List Int} {i : Nat} (h : viB F zs (i + 1) = true) : zs.getD i 0 < F ∧ (i = 0 ∨ zs.getD (i - 1) 0 < zs.getD i 0) := by
  simp only [viB, Bool.and_eq_true] at h; exact of_decide_eq_true h.2
theorem viB_mk {F : Int} {zs : List Int} {i : Nat} (h : viB F zs i = true) (k : zs.getD i 0 < F ∧ (i = 0 ∨ zs.getD (i - 1) 0 < zs.getD i 0)) : viB F zs (i + 1) = true := by
  simp only [viB, Bool.and_eq_true]; exact ⟨h, decide_eq_true k⟩
theorem viB_no {F : Int} {zs : List Int} {i : Nat} (k : ¬ (zs.getD i 0 < F ∧ (i = 0 ∨ zs.getD (i - 1) 0 < zs.getD i 0))) : viB F zs (i + 1) = false := by
  cases hc : viB F zs (i + 1) with
  | false => rfl
  | true => exact absurd (viB_at hc) k
theorem nmB_at {l : List ByteArray} {i : Nat} (h : nmB l (i + 1) = true) : isS (l.getD i be0) = true := by
  simp only [nmB, Bool.and_eq_true] at h; exact h.2
theorem nmB_mk {l : List ByteArray} {i : Nat} (h : nmB l i = true) (k : isS (l.getD i be0) = true) : nmB l (i + 1) = true := by
  simp only [nmB, Bool.and_eq_true]; exact ⟨h, k⟩
theorem nmB_no {l : List ByteArray} {i : Nat} (k : isS (l.getD i be0) = false) : nmB l (i + 1) = false := by
  simp only [nmB, k, Bool.and_false]
theorem kyA_bd {ds : List (ByteArray × Int)} {n : Nat} (h : szB ds n = true) : 1 ≤ kyA ds n ∧ kyA ds n ≤ 1099511627776 := by
  induction n with
  | zero => exact ⟨Int.le_refl _, show (1 : Int) ≤ 1099511627776 by decide⟩
  | succ n ih =>
    have h1 := ih (szB_s _ _ h)
    have h2 := szB_at h
    refine ⟨?_, h2.2.2⟩
    have : kyA ds (n + 1) = kyA ds n * (ds.getD n d0).2 := rfl
    rw [this]
    have := Int.mul_le_mul h1.1 h2.1 (by decide) (by omega)
    simpa using this
theorem kyP_bd {ds : List (ByteArray × Int)} (m : Nat) {n : Nat} (h : szB ds n = true) : ∀ i, i ≤ n → 0 ≤ kyP ds m i ∧ kyP ds m i ≤ 1099511627776 := by
  have key : ∀ i, i ≤ n → 1 ≤ kyP ds m i ∧ kyP ds m i ≤ kyA ds i := by
    intro i
    induction i with
    | zero => intro _; exact ⟨Int.le_refl _, Int.le_refl _⟩
    | succ i ih =>
      intro hi
      obtain ⟨g1, g2⟩ := ih (by omega)
      have hs := szB_at (mono_b (szB_s ds) hi h)
      have hA : kyA ds (i + 1) = kyA ds i * (ds.getD i d0).2 := rfl
      have hm : kyA ds i * (ds.getD i d0).2 ≥ kyP ds m i * (ds.getD i d0).2 := Int.mul_le_mul_of_nonneg_right g2 (by omega)
      have hm1 : kyP ds m i ≤ kyP ds m i * (ds.getD i d0).2 := by
        have := Int.mul_le_mul_of_nonneg_left hs.1 (show 0 ≤ kyP ds m i by omega)
        simpa using this
      have hP : kyP ds m (i + 1) = if m.testBit i then kyP ds m i * (ds.getD i d0).2 else kyP ds m i := rfl
      rw [hP, hA]
      split
      · exact ⟨by omega, hm⟩
      · exact ⟨g1, by omega⟩
  intro i hi
  have h1 := key i hi
  have h2 := kyA_bd (mono_b (szB_s ds) hi h)
  omega
theorem ky_next {ds : List (ByteArray × Int)} {i : Nat} (hz : szB ds i = true) (h1 : 1 ≤ (ds.getD i d0).2) (h2 : (ds.getD i d0).2 ≤ 4096) : 1 ≤ kyA ds (i + 1) ∧ kyA ds (i + 1) ≤ 1099511627776 * 4096 := by
  have hb := kyA_bd hz
  have hA : kyA ds (i + 1) = kyA ds i * (ds.getD i d0).2 := rfl
  rw [hA]
  constructor
  · have := Int.mul_le_mul hb.1 h1 (by decide) (by omega)
    simpa using this
  · exact Int.mul_le_mul hb.2 h2 (by omega) (by decide)
def chk (nd n1 n2 nv : Nat) (ds : List (ByteArray × Int)) (s1 s2 : List ByteArray) (zs : List Int) : Int :=
  if ¬ (1 ≤ nd ∧ nd ≤ 6 ∧ n1 ≤ 3 ∧ n2 ≤ 2 ∧ nv ≤ 15) then 3
  else if nmB (nmL ds s1 s2) (nd + n1 + n2) = false then 8
  else if 0 ≤ tw (nmL ds s1 s2) then 9
  else if szB ds nd = false then 2
  else if viB ((2 ^ nd - 1 : Nat) : Int) zs nv = false then 6
  else 0
section
variable {nd n1 n2 nv : Nat} {ds : List (ByteArray × Int)} {s1 s2 : List ByteArray} {zs : List Int}
theorem chk_3 (h : ¬ (1 ≤ nd ∧ nd ≤ 6 ∧ n1 ≤ 3 ∧ n2 ≤ 2 ∧ nv ≤ 15)) : chk nd n1 n2 nv ds s1 s2 zs = 3 := by unfold chk; rw [if_pos h]
theorem chk_8 (h : 1 ≤ nd ∧ nd ≤ 6 ∧ n1 ≤ 3 ∧ n2 ≤ 2 ∧ nv ≤ 15) (h8 : nmB (nmL ds s1 s2) (nd + n1 + n2) = false) : chk nd n1 n2 nv ds s1 s2 zs = 8 := by unfold chk; rw [if_neg (fun k => k h), if_pos h8]
theorem chk_9 (h : 1 ≤ nd ∧ nd ≤ 6 ∧ n1 ≤ 3 ∧ n2 ≤ 2 ∧ nv ≤ 15) (h8 : nmB (nmL ds s1 s2) (nd + n1 + n2) = true) (h9 : 0 ≤ tw (nmL ds s1 s2)) : chk nd n1 n2 nv ds s1 s2 zs = 9 := by unfold chk; rw [if_neg (fun k => k h), if_neg (by rw [h8]; decide), if_pos h9]
theorem chk_2 (h : 1 ≤ nd ∧ nd ≤ 6 ∧ n1 ≤ 3 ∧ n2 ≤ 2 ∧ nv ≤ 15) (h8 : nmB (nmL ds s1 s2) (nd + n1 + n2) = true) (h9 : ¬ 0 ≤ tw (nmL ds s1 s2)) (h2 : szB ds nd = false) : chk nd n1 n2 nv ds s1 s2 zs = 2 := by unfold chk; rw [if_neg (fun k => k h), if_neg (by rw [h8]; decide), if_neg h9, if_pos h2]
theorem chk_6 (h : 1 ≤ nd ∧ nd ≤ 6 ∧ n1 ≤ 3 ∧ n2 ≤ 2 ∧ nv ≤ 15) (h8 : nmB (nmL ds s1 s2) (nd + n1 + n2) = true) (h9 : ¬ 0 ≤ tw (nmL ds s1 s2)) (h2 : szB ds nd = true) (h6 : viB ((2 ^ nd - 1 : Nat) : Int) zs nv = false) : chk nd n1 n2 nv ds s1 s2 zs = 6 := by unfold chk; rw [if_neg (fun k => k h), if_neg (by rw [h8]; decide), if_neg h9, if_neg (by rw [h2]; decide), if_pos h6]
theorem chk_0 (h : 1 ≤ nd ∧ nd ≤ 6 ∧ n1 ≤ 3 ∧ n2 ≤ 2 ∧ nv ≤ 15) (h8 : nmB (nmL ds s1 s2) (nd + n1 + n2) = true) (h9 : ¬ 0 ≤ tw (nmL ds s1 s2)) (h2 : szB ds nd = true) (h6 : viB ((2 ^ nd - 1 : Nat) : Int) zs nv = true) : chk nd n1 n2 nv ds s1 s2 zs = 0 := by unfold chk; rw [if_neg (fun k => k h), if_neg (by rw [h8]; decide), if_neg h9, if_neg (by rw [h2]; decide), if_neg (by rw [h6]; decide)]
theorem chk_ok (h : chk nd n1 n2 nv ds s1 s2 zs = 0) : (1 ≤ nd ∧ nd ≤ 6 ∧ n1 ≤ 3 ∧ n2 ≤ 2 ∧ nv ≤ 15) ∧ szB ds nd = true ∧ viB ((2 ^ nd - 1 : Nat) : Int) zs nv = true := by
  unfold chk at h
  split at h
  · cases h
  · rename_i h1
    split at h
    · cases h
    · split at h
      · cases h
      · split at h
        · cases h
        · rename_i h2
          split at h
          · cases h
          · rename_i h6
            exact ⟨Decidable.not_not.1 h1, by simpa using h2, by simpa using h6⟩
end
end Go.Proofs.YtpomklkfedpkfaaGreat
namespace Go.Proofs.YtpomklkfedpkfaaGreat
set_option maxRecDepth 100000
open Go.RowKit H
set_option linter.unusedVariables false
theorem pw6 {nd : Nat} (h : nd ≤ 6) : 1 ≤ 2 ^ nd ∧ 2 ^ nd ≤ 64 := ⟨Nat.pow_pos (by decide), Nat.le_trans (Nat.pow_le_pow_right (by decide) h) (by decide)⟩
theorem sb_full {a nd : Nat} (ha : a < 4294967296) (hn : nd ≤ 6) : Mk.sb a (2 ^ nd - 1) = decide (a ≤ 2 ^ nd - 1) := by
  have hp := (pw6 hn).1
  unfold Mk.sb
  rw [Nat.and_two_pow_sub_one_eq_mod, Bool.eq_iff_iff, beq_iff_eq, decide_eq_true_iff]
  constructor
  · intro h
    have := Nat.mod_lt a hp
    omega
  · intro h
    exact Nat.mod_eq_of_lt (by omega)
theorem rsub_full (z F : Int) (nd : Nat) (w : World) (hz : 0 ≤ z ∧ z < 4294967296) (hn : nd ≤ 6) (hF : ((2 ^ nd - 1 : Nat) : Int) = F) :
    Calls Tryz.prog 23 #[.int .u32 z, .int .u32 F] w fun e w' => e = .returned (.bool (decide (z ≤ F))) ∧ w = w' := by
  obtain ⟨a, rfl⟩ := Int.eq_ofNat_of_zero_le hz.1
  have hp := pw6 hn
  have h := rsub_any a (2 ^ nd - 1) w (by omega) (by omega)
  rw [sb_full (by omega) hn] at h
  have e : decide (a ≤ 2 ^ nd - 1) = decide ((a : Int) ≤ F) := by rw [decide_eq_decide]; omega
  rw [e, hF] at h
  exact h
theorem rcheck_any (Ad : Option Addr) (nd cd : Nat) (A1 : Option Addr) (n1 c1 : Nat) (A2 : Option Addr) (n2 c2 : Nat) (Av : Option Addr) (nv cv : Nat) (ds : List (ByteArray × Int)) (s1 s2 : List ByteArray) (zs : List Int) (w : World)
  (hd : Reads w w.heap.size 2 Ad nd (dimsV ds)) (h1 : Reads w w.heap.size 1 A1 n1 (strs s1)) (h2 : Reads w w.heap.size 1 A2 n2 (strs s2)) (hv : Reads w w.heap.size 1 Av nv (nums .u32 zs)) (hzs : ∀ i, 0 ≤ zs.getD i 0 ∧ zs.getD i 0 < 4294967296) (hnv : nv ≤ maxLen) :
  Calls Tryz.prog 38 #[.agg #[.slice Ad nd cd, .slice A1 n1 c1, .slice A2 n2 c2, .slice Av nv cv]] w fun e w' => e = .returned (.int .i64 (chk nd n1 n2 nv ds s1 s2 zs)) ∧ Ext w w' := by
 have hl : ds.length = nd := by have := hd.1; rw [dimsV_length] at this; omega
 unfold maxLen at hnv
 have t3 := @chk_3 nd n1 n2 nv ds s1 s2 zs
 refine enter Tryz.func38 rfl (by kernel_rfl) ?_
 refine J.seq ?_
 refine J.region ?_
 refine L.boxA (l := [_, _, _, _]) rfl rfl ?_
 intro b1 w1 hb1 hs1 hk1 he1
 refine L.va rfl (X.assign (by conv => lhs; whnf)) ?_
 refine L.nil ?_
 iterate 2 refine J.seq ?_
 refine J.region ?_
 refine L.va rfl (X.fieldAddr rfl Tryz.underlying26 rfl sz_22 (by decide)) ?_
 refine L.va rfl (X.load rfl sc_22 (by first | exact Ld.blk hk1 rfl)) ?_
 refine L.va rfl (X.len rfl Tryz.underlying22) ?_
 refine L.va rfl (X.lss rfl rfl) ?_
 refine L.va rfl (X.move (by conv => lhs; whnf)) ?_
 refine L.caseDec (k := 14) rfl (fun a1 => ?_) (fun a1 => ?_)
 ·rw [t3 (by omega)]
  iterate 4 refine L.no rfl ?_
  refine L.va rfl (X.pickT rfl (by conv => lhs; whnf)) ?_
  refine L.va rfl (X.move (by conv => lhs; whnf)) ?_
  iterate 4 refine L.no rfl ?_
  refine L.va rfl (X.pickT rfl (by conv => lhs; whnf)) ?_
  refine L.va rfl (X.move (by conv => lhs; whnf)) ?_
  iterate 4 refine L.no rfl ?_
  refine L.va rfl (X.pickT rfl (by conv => lhs; whnf)) ?_
  refine L.va rfl (X.move (by conv => lhs; whnf)) ?_
  iterate 4 refine L.no rfl ?_
  refine L.va rfl (X.pickT rfl (by conv => lhs; whnf)) ?_
  refine L.nil ?_
  refine J.iteT rfl ?_
  refine J.seq ?_
  refine J.region ?_
  refine L.va rfl (X.assign (by conv => lhs; whnf)) ?_
  refine L.nil ?_
  refine J.ret ?_
  refine thn_ret <| ?_
  refine fin1 ?_
  exact ⟨rfl, he1⟩
 ·refine L.va rfl (X.fieldAddr rfl Tryz.underlying26 rfl sz_22 (by decide)) ?_
  refine L.va rfl (X.load rfl sc_22 (by first | exact Ld.blk hk1 rfl)) ?_
  refine L.va rfl (X.len rfl Tryz.underlying22) ?_
  refine L.va rfl (X.gtr rfl rfl) ?_
  refine L.va rfl (X.pickF rfl (by conv => lhs; whnf)) ?_
  refine L.va rfl (X.move (by conv => lhs; whnf)) ?_
  refine L.caseDec (k := 20) rfl (fun a2 => ?_) (fun a2 => ?_)
  ·rw [t3 (by omega)]
   iterate 4 refine L.no rfl ?_
   refine L.va rfl (X.pickT rfl (by conv => lhs; whnf)) ?_
   refine L.va rfl (X.move (by conv => lhs; whnf)) ?_
   iterate 4 refine L.no rfl ?_
   refine L.va rfl (X.pickT rfl (by conv => lhs; whnf)) ?_
   refine L.va rfl (X.move (by conv => lhs; whnf)) ?_
   iterate 4 refine L.no rfl ?_
   refine L.va rfl (X.pickT rfl (by conv => lhs; whnf)) ?_
   refine L.nil ?_
   refine J.iteT rfl ?_
   refine J.seq ?_
   refine J.region ?_
   refine L.va rfl (X.assign (by conv => lhs; whnf)) ?_
   refine L.nil ?_
   refine J.ret ?_
   refine thn_ret <| ?_
   refine fin1 ?_
   exact ⟨rfl, he1⟩
  ·refine L.va rfl (X.fieldAddr rfl Tryz.underlying26 rfl sz_23 (by decide)) ?_
   refine L.va rfl (X.load rfl sc_23 (by first | exact Ld.blk hk1 rfl)) ?_
   refine L.va rfl (X.len rfl Tryz.underlying23) ?_
   refine L.va rfl (X.gtr rfl rfl) ?_
   refine L.va rfl (X.pickF rfl (by conv => lhs; whnf)) ?_
   refine L.va rfl (X.move (by conv => lhs; whnf)) ?_
   refine L.caseDec (k := 26) rfl (fun a3 => ?_) (fun a3 => ?_)
   ·rw [t3 (by omega)]
    iterate 4 refine L.no rfl ?_
    refine L.va rfl (X.pickT rfl (by conv => lhs; whnf)) ?_
    refine L.va rfl (X.move (by conv => lhs; whnf)) ?_
    iterate 4 refine L.no rfl ?_
    refine L.va rfl (X.pickT rfl (by conv => lhs; whnf)) ?_
    refine L.nil ?_
    refine J.iteT rfl ?_
    refine J.seq ?_
    refine J.region ?_
    refine L.va rfl (X.assign (by conv => lhs; whnf)) ?_
    refine L.nil ?_
    refine J.ret ?_
    refine thn_ret <| ?_
    refine fin1 ?_
    exact ⟨rfl, he1⟩
   ·refine L.va rfl (X.fieldAddr rfl Tryz.underlying26 rfl sz_23 (by decide)) ?_
    refine L.va rfl (X.load rfl sc_23 (by first | exact Ld.blk hk1 rfl)) ?_
    refine L.va rfl (X.len rfl Tryz.underlying23) ?_
    refine L.va rfl (X.gtr rfl rfl) ?_
    refine L.va rfl (X.pickF rfl (by conv => lhs; whnf)) ?_
    refine L.va rfl (X.move (by conv => lhs; whnf)) ?_
    refine L.caseDec (k := 32) rfl (fun a4 => ?_) (fun a4 => ?_)
    ·rw [t3 (by omega)]
     iterate 4 refine L.no rfl ?_
     refine L.va rfl (X.pickT rfl (by conv => lhs; whnf)) ?_
     refine L.nil ?_
     refine J.iteT rfl ?_
     refine J.seq ?_
     refine J.region ?_
     refine L.va rfl (X.assign (by conv => lhs; whnf)) ?_
     refine L.nil ?_
     refine J.ret ?_
     refine thn_ret <| ?_
     refine fin1 ?_
     exact ⟨rfl, he1⟩
    ·refine L.va rfl (X.fieldAddr rfl Tryz.underlying26 rfl sz_24 (by decide)) ?_
     refine L.va rfl (X.load rfl sc_24 (by first | exact Ld.blk hk1 rfl)) ?_
     refine L.va rfl (X.len rfl Tryz.underlying24) ?_
     refine L.va rfl (X.gtr rfl rfl) ?_
     refine L.va rfl (X.pickF rfl (by conv => lhs; whnf)) ?_
     refine L.nil ?_
     refine J.dec rfl (fun a5 => ?_) (fun a5 => ?_)
     ·rw [t3 (by omega)]
      refine J.seq ?_
      refine J.region ?_
      refine L.va rfl (X.assign (by conv => lhs; whnf)) ?_
      refine L.nil ?_
      refine J.ret ?_
      refine thn_ret <| ?_
      refine fin1 ?_
      exact ⟨rfl, he1⟩
     ·have hlen : 1 ≤ nd ∧ nd ≤ 6 ∧ n1 ≤ 3 ∧ n2 ≤ 2 ∧ nv ≤ 15 := by omega
      have t8 := @chk_8 nd n1 n2 nv ds s1 s2 zs hlen
      have t9 := @chk_9 nd n1 n2 nv ds s1 s2 zs hlen
      have t2 := @chk_2 nd n1 n2 nv ds s1 s2 zs hlen
      have t6 := @chk_6 nd n1 n2 nv ds s1 s2 zs hlen
      have t0 := @chk_0 nd n1 n2 nv ds s1 s2 zs hlen
      refine J.skip ?_
      refine J.seq ?_
      refine J.region ?_
      refine L.va rfl ((by first | exact X.loadAgg rfl (range_l hk1) Tryz.underlying26 rfl (by kernel_rfl) | exact X.loadAgg rfl (range_blk hk1) Tryz.underlying26 rfl (by kernel_rfl))) ?_
      refine L.call rfl en_11 rfl (rnames_any Ad nd cd A1 n1 c1 A2 n2 c2 Av nv cv ds s1 s2 _ ((hd.ext he1).here (by decide)) ((h1.ext he1).here (by decide)) ((h2.ext he1).here (by decide)) (by omega) (by omega) (by omega)) ?_
      rintro e w2 ⟨A, c, rfl, ho, he2⟩
      refine ⟨_, rfl, ?_⟩
      have he2 : Ext w1 w2 := he2
      refine L.va rfl (X.assign (by conv => lhs; whnf)) ?_
      refine L.nil ?_
      iterate 2 refine J.seq ?_
      refine J.region ?_
      refine L.va rfl (X.assign (by conv => lhs; whnf)) ?_
      refine L.nil ?_
      refine J.block ?_
      refine J.loop (X := Nat) [2, 4, 40, 41, 42, 43, 44, 45, 46, 47, 48, 49, 50, 51] (fun i => [(4, .int .i64 (i : Int))]) (fun i w' => i ≤ nd + n1 + n2 ∧ nmB (nmL ds s1 s2) i = true ∧ Ext w2 w') (fun i => nd + n1 + n2 - i) (0) (At1 (by first | rfl | exact at_int rfl (by omega) | exact at_slice rfl (by omega) | exact at_int rfl (by simp))) ?_ ?_
      ·exact ⟨by omega, rfl, Ext.refl _⟩
      ·rintro i g w3 ⟨hi, hB, he3⟩
       have ho3 := ho.ext he3
       have hk3 := (hk1.ext he2).ext he3
       iterate 2 refine J.seq ?_
       refine J.region ?_
       iterate 2 refine L.va rfl (X.move (by conv => lhs; whnf)) ?_
       refine L.va rfl (X.len rfl Tryz.underlying23) ?_
       refine L.va rfl (X.lss rfl rfl) ?_
       refine L.nil ?_
       refine J.dec rfl (fun hlt => ?_) (fun hlt => ?_)
       ·refine J.skip ?_
        refine J.seq ?_
        refine J.block ?_
        refine J.seq ?_
        refine J.region ?_
        iterate 2 refine L.va rfl (X.move (by conv => lhs; whnf)) ?_
        refine L.va rfl ((by first | exact X.index1n rfl rfl Tryz.underlying23 sz_9 (by first | exact Option.some_ne_none _ | exact own_ne ho3 (by omega)) (by omega) | exact X.index1 rfl rfl Tryz.underlying23 sz_9 (by first | exact Option.some_ne_none _ | exact own_ne ho3 (by omega)) (by omega))) ?_
        refine L.va rfl (X.load rfl sc_9 (by first | exact Ld.ostr ho3 (by omega) | exact Ld.blk hk3 rfl)) ?_
        refine L.call rfl en_65 rfl (ris_any _ _) ?_
        rintro e w4 ⟨rfl, he4⟩
        refine ⟨_, rfl, ?_⟩
        have he4 : Ext w3 w4 := he4
        cases hs : isS ((nmL ds s1 s2).getD i be0)
        ·have hE := mono_f (nmB_s (nmL ds s1 s2)) (by omega : i + 1 ≤ nd + n1 + n2) (nmB_no hs)
         rw [t8 hE]
         refine L.va rfl (X.not rfl) ?_
         refine L.nil ?_
         refine J.iteT rfl ?_
         refine J.seq ?_
         refine J.region ?_
         refine L.va rfl (X.assign (by conv => lhs; whnf)) ?_
         refine L.nil ?_
         refine J.ret ?_
         refine inB_ret <|  thn_ret <|  thn_ret <|  inB_ret <|  thn_ret <| ?_
         refine fin1 ?_
         exact ⟨rfl, ((he1.trans he2).trans he3).trans he4⟩
        ·refine L.va rfl (X.not rfl) ?_
         refine L.nil ?_
         refine J.iteF rfl ?_
         refine J.skip ?_
         refine J.region ?_
         refine L.va rfl (X.move (by conv => lhs; whnf)) ?_
         refine L.va rfl (X.add rfl rfl (by omega)) ?_
         refine L.va rfl (X.assign (by conv => lhs; whnf)) ?_
         refine L.nil ?_
         refine ⟨i + 1, At1 (by first | rfl | exact at_int rfl (by omega) | exact at_slice rfl (by omega) | exact at_int rfl (by simp)), (by (iterate 13 refine Agr.lk rfl ?_); exact Agr.lk rfl (Agr.hav rfl Agr.rfl')), ?_⟩
         exact ⟨⟨by omega, nmB_mk hB hs, he3.trans he4⟩, by omega⟩
       ·obtain rfl : i = nd + n1 + n2 := by omega
        refine J.exit ?_
        iterate 2 refine J.seq ?_
        refine J.region ?_
        refine L.va rfl (X.move (by conv => lhs; whnf)) ?_
        refine L.call rfl en_66 rfl (rtwice_any _ _ _ _ _ ((own_reads ho3).here (by decide)) (by exact (own_bd ho).1) (by omega)) ?_
        rintro e w4 ⟨rfl, he4⟩
        refine ⟨_, rfl, ?_⟩
        have he4 : Ext w3 w4 := he4
        have he14 := (he2.trans he3).trans he4
        have hk4 := hk1.ext he14
        have hd4 := (hd.ext he1).ext he14
        have hv4 := (hv.ext he1).ext he14
        have he04 := he1.trans he14
        refine L.va rfl (X.geq rfl rfl) ?_
        refine L.nil ?_
        refine J.dec rfl (fun h9 => ?_) (fun h9 => ?_)
        ·rw [t9 hB h9]
         refine J.seq ?_
         refine J.region ?_
         refine L.va rfl (X.assign (by conv => lhs; whnf)) ?_
         refine L.nil ?_
         refine J.ret ?_
         refine thn_ret <| ?_
         refine fin1 ?_
         exact ⟨rfl, he04⟩
        ·refine J.skip ?_
         refine J.seq ?_
         refine J.region ?_
         refine L.va rfl (X.assign (by conv => lhs; whnf)) ?_
         refine L.nil ?_
         iterate 2 refine J.seq ?_
         refine J.region ?_
         refine L.va rfl (X.assign (by conv => lhs; whnf)) ?_
         refine L.nil ?_
         refine J.block ?_
         refine J.loop (X := Nat × Int) [2, 5, 6, 7, 55, 56, 57, 58, 59, 60, 61, 62, 63, 64, 65, 66, 67, 68, 69, 70, 71, 72, 73, 74, 75, 76, 77, 78] (fun x => [(6, .int .i64 (x.1 : Int)), (5, .int .i64 x.2)]) (fun x w' => w' = w4 ∧ x.1 ≤ nd ∧ x.2 = kyA ds x.1 ∧ szB ds x.1 = true) (fun x => nd - x.1) ((0, 1)) (At2 (by first | rfl | exact at_int rfl (by omega) | exact at_slice rfl (by omega) | exact at_int rfl (by simp)) (by first | rfl | exact at_int rfl (by omega) | exact at_slice rfl (by omega) | exact at_int rfl (by simp))) ?_ ?_
         ·exact ⟨rfl, by dsimp only; omega, rfl, rfl⟩
         ·rintro ⟨i, z⟩ g w5 ⟨rfl, hi, hz, hS⟩
          dsimp only at hi hz hS
          have q1 : ((i, z) : Nat × Int).1 = i := rfl
          have q2 : ((i, z) : Nat × Int).2 = z := rfl
          have hzb := kyA_bd hS
          rw [← hz] at hzb
          iterate 2 refine J.seq ?_
          refine J.region ?_
          refine L.va rfl (X.move (by conv => lhs; whnf)) ?_
          refine L.va rfl (X.fieldAddr rfl Tryz.underlying26 rfl sz_22 (by decide)) ?_
          refine L.va rfl (X.load rfl sc_22 (by first | exact Ld.blk hk4 rfl | exact Ld.num hv4 (by omega) | exact Ld.rd hd4 (by omega))) ?_
          refine L.va rfl (X.len rfl Tryz.underlying22) ?_
          refine L.va rfl (X.lss rfl rfl) ?_
          refine L.nil ?_
          refine J.dec rfl (fun hlt2 => ?_) (fun hlt2 => ?_)
          ·have hil : i < nd := by dsimp only at hlt2; omega
           have hnx := @ky_next ds i hS
           have hno := @szB_no ds i
           have hmf := fun h => t2 hB h9 (mono_f (szB_s ds) (by omega : i + 1 ≤ nd) h)
           have hkn : kyA ds (i + 1) = z * (ds.getD i d0).2 := by rw [hz]; rfl
           refine J.skip ?_
           refine J.seq ?_
           refine J.block ?_
           refine J.seq ?_
           refine J.region ?_
           refine L.va rfl (X.fieldAddr rfl Tryz.underlying26 rfl sz_22 (by decide)) ?_
           refine L.va rfl (X.load rfl sc_22 (by first | exact Ld.blk hk4 rfl | exact Ld.num hv4 (by omega) | exact Ld.rd hd4 (by omega))) ?_
           refine L.va rfl (X.move (by conv => lhs; whnf)) ?_
           refine L.va rfl ((by first | exact X.indexAddrn rfl rfl Tryz.underlying22 sz_54 (by first | exact Option.some_ne_none _ | exact hv4.some_ (by omega) | exact hd4.some_ (by omega)) (by omega) | exact X.indexAddr rfl rfl Tryz.underlying22 sz_54 (by first | exact Option.some_ne_none _ | exact hv4.some_ (by omega) | exact hd4.some_ (by omega)) (by omega))) ?_
           refine L.va rfl (X.fieldP rfl Tryz.underlying54 rfl sz_3 (by decide) (by first | exact Option.some_ne_none _ | exact hv4.some_ (by omega) | exact hd4.some_ (by omega))) ?_
           refine L.va rfl (X.load rfl sc_3 (Ld.dimN hd4 (by omega))) ?_
           refine L.va rfl (X.assign (by conv => lhs; whnf)) ?_
           refine L.nil ?_
           iterate 2 refine J.seq ?_
           refine J.region ?_
           refine L.va rfl (X.move (by conv => lhs; whnf)) ?_
           refine L.va rfl (X.lss rfl rfl) ?_
           refine L.va rfl (X.move (by conv => lhs; whnf)) ?_
           dsimp only
           generalize hdv : (ds.getD i d0).2 = dv at *
           refine L.caseDec (k := 70) rfl (fun b1 => ?_) (fun b1 => ?_)
           ·rw [hmf (hno (by omega))]
            iterate 2 refine L.no rfl ?_
            refine L.va rfl (X.pickT rfl (by conv => lhs; whnf)) ?_
            refine L.nil ?_
            refine J.iteT rfl ?_
            refine J.seq ?_
            refine J.region ?_
            refine L.va rfl (X.assign (by conv => lhs; whnf)) ?_
            refine L.nil ?_
            refine J.ret ?_
            refine thn_ret <|  inB_ret <|  thn_ret <|  thn_ret <|  inB_ret <|  thn_ret <| ?_
            refine fin1 ?_
            exact ⟨rfl, he04⟩
           ·refine L.va rfl (X.move (by conv => lhs; whnf)) ?_
            refine L.va rfl (X.gtr rfl rfl) ?_
            refine L.va rfl (X.pickF rfl (by conv => lhs; whnf)) ?_
            refine L.nil ?_
            refine J.dec rfl (fun b2 => ?_) (fun b2 => ?_)
            ·rw [hmf (hno (by omega))]
             refine J.seq ?_
             refine J.region ?_
             refine L.va rfl (X.assign (by conv => lhs; whnf)) ?_
             refine L.nil ?_
             refine J.ret ?_
             refine thn_ret <|  inB_ret <|  thn_ret <|  thn_ret <|  inB_ret <|  thn_ret <| ?_
             refine fin1 ?_
             exact ⟨rfl, he04⟩
            ·have hnx := hnx (by omega) (by omega)
             rw [hkn] at hnx
             have hnx' : 1 ≤ ((i, z) : Nat × Int).2 * dv ∧ ((i, z) : Nat × Int).2 * dv ≤ 1099511627776 * 4096 := hnx
             have hq3 : ((i, z) : Nat × Int).2 * dv = z * dv := rfl
             refine J.skip ?_
             refine J.seq ?_
             refine J.region ?_
             iterate 2 refine L.va rfl (X.move (by conv => lhs; whnf)) ?_
             refine L.va rfl (X.mul rfl rfl (by omega)) ?_
             refine L.va rfl (X.assign (by conv => lhs; whnf)) ?_
             refine L.nil ?_
             refine J.seq ?_
             refine J.region ?_
             refine L.va rfl (X.move (by conv => lhs; whnf)) ?_
             refine L.va rfl (X.gtr rfl rfl) ?_
             refine L.nil ?_
             refine J.dec rfl (fun b3 => ?_) (fun b3 => ?_)
             ·rw [hmf (hno (by omega))]
              refine J.seq ?_
              refine J.region ?_
              refine L.va rfl (X.assign (by conv => lhs; whnf)) ?_
              refine L.nil ?_
              refine J.ret ?_
              refine inB_ret <|  thn_ret <|  thn_ret <|  inB_ret <|  thn_ret <| ?_
              refine fin1 ?_
              exact ⟨rfl, he04⟩
             ·refine J.skip ?_
              refine J.region ?_
              refine L.va rfl (X.move (by conv => lhs; whnf)) ?_
              refine L.va rfl (X.add rfl rfl (by omega)) ?_
              refine L.va rfl (X.assign (by conv => lhs; whnf)) ?_
              refine L.nil ?_
              refine ⟨(i + 1, z * dv), At2 (by first | rfl | exact at_int rfl (by omega) | exact at_slice rfl (by omega) | exact at_int rfl (by simp)) (by first | rfl | exact at_int rfl (by omega) | exact at_slice rfl (by omega) | exact at_int rfl (by simp)), (by (iterate 28 refine Agr.lk rfl ?_); exact Agr.lk rfl (Agr.hav rfl Agr.rfl')), ?_⟩
              exact ⟨⟨rfl, by dsimp only; omega, hkn.symm, szB_mk hS (by rw [hdv]; omega)⟩, by dsimp only; omega⟩
          ·obtain rfl : i = nd := by dsimp only at hlt2; omega
           have hpw := pw6 hlen.2.1
           refine J.exit ?_
           refine J.seq ?_
           refine J.region ?_
           refine L.va rfl (X.fieldAddr rfl Tryz.underlying26 rfl sz_22 (by decide)) ?_
           refine L.va rfl (X.load rfl sc_22 (by first | exact Ld.blk hk4 rfl | exact Ld.num hv4 (by omega) | exact Ld.rd hd4 (by omega))) ?_
           refine L.va rfl (X.len rfl Tryz.underlying22) ?_
           refine L.call rfl en_43 rfl (rtwo_any i _ (by omega)) ?_
           rintro e _ ⟨rfl, rfl⟩
           refine ⟨_, rfl, ?_⟩
           generalize hF : ((2 ^ i - 1 : Nat) : Int) = F at *
           have hsub : IntKind.u32.wrap (((2 ^ i : Nat) : Int) - 1) = F := by rw [w32 (by omega)]; omega
           refine L.va rfl (X.subw rfl rfl) ?_
           refine L.va rfl (X.assign (by conv => lhs; whnf)) ?_
           refine L.nil ?_
           iterate 2 refine J.seq ?_
           refine J.region ?_
           refine L.va rfl (X.assign (by conv => lhs; whnf)) ?_
           refine L.nil ?_
           refine J.block ?_
           rw [hsub]
           refine J.loop (X := Nat) [2, 9, 84, 85, 86, 87, 88, 89, 90, 91, 92, 93, 94, 95, 96, 97, 98, 99, 100, 101, 102, 103, 104, 105, 106, 107, 108, 109, 110, 111, 112, 113, 114, 115, 116, 117, 118, 119, 120, 121, 122, 123, 124, 125] (fun i => [(9, .int .i64 (i : Int))]) (fun i w' => Ext w5 w' ∧ i ≤ nv ∧ viB F zs i = true) (fun i => nv - i) (0) (At1 (by first | rfl | exact at_int rfl (by omega) | exact at_slice rfl (by omega) | exact at_int rfl (by simp))) ?_ ?_
           ·exact ⟨Ext.refl _, by omega, rfl⟩
           ·rintro j g w6 ⟨he6, hj, hV⟩
            have hk6 := hk4.ext he6
            have hv6 := hv4.ext he6
            have he06 := he04.trans he6
            iterate 2 refine J.seq ?_
            refine J.region ?_
            refine L.va rfl (X.move (by conv => lhs; whnf)) ?_
            refine L.va rfl (X.fieldAddr rfl Tryz.underlying26 rfl sz_24 (by decide)) ?_
            refine L.va rfl (X.load rfl sc_24 (by first | exact Ld.blk hk6 rfl | exact Ld.num hv6 (by omega))) ?_
            refine L.va rfl (X.len rfl Tryz.underlying24) ?_
            refine L.va rfl (X.lss rfl rfl) ?_
            refine L.nil ?_
            refine J.dec rfl (fun hlt3 => ?_) (fun hlt3 => ?_)
            ·have hno := @viB_no F zs j
             have hmf := fun h => t6 hB h9 hS (mono_f (viB_s F zs) (by omega : j + 1 ≤ nv) h)
             have hzj := hzs j
             have hzj' := hzs (j - 1)
             have hjp : zs.getD ((j : Int) - 1).toNat 0 = zs.getD (j - 1) 0 := by rw [show ((j : Int) - 1).toNat = j - 1 by omega]
             refine J.skip ?_
             refine J.seq ?_
             refine J.block ?_
             refine J.seq ?_
             refine J.quiet mixed (by kernel_rfl) ?_
             refine Qt.va rfl (fun w' hw => X.fieldAddr rfl Tryz.underlying26 rfl sz_24 (by decide)) ?_
             refine Qt.va rfl (fun w' hw => X.load rfl sc_24 (by first | exact Ld.blk (hk6.ext hw) rfl | exact Ld.num (hv6.ext hw) (by omega))) ?_
             refine Qt.va rfl (fun w' hw => X.move (by conv => lhs; whnf)) ?_
             refine Qt.va rfl (fun w' hw => (by first | exact X.index1n rfl rfl Tryz.underlying24 sz_27 (by first | exact Option.some_ne_none _ | exact hv6.some_ (by omega)) (by omega) | exact X.index1 rfl rfl Tryz.underlying24 sz_27 (by first | exact Option.some_ne_none _ | exact hv6.some_ (by omega)) (by omega))) ?_
             refine Qt.va rfl (fun w' hw => X.load rfl sc_27 (by first | exact Ld.blk (hk6.ext hw) rfl | exact Ld.num (hv6.ext hw) (by omega))) ?_
             refine Qt.va rfl (fun w' hw => X.move (by conv => lhs; whnf)) ?_
             refine Qt.call rfl en_23 rfl (fun w' hw => calls_same hw (rsub_full _ _ _ _ hzj hlen.2.1 hF)) ?_
             refine Qt.va rfl (fun w' hw => X.not rfl) ?_
             refine Qt.va rfl (fun w' hw => X.move (by conv => lhs; whnf)) ?_
             refine Qt.caseB (k := 99) rfl (fun g1 => ?_) (fun g1 => ?_)
             ·have g1' : ¬ zs.getD j 0 ≤ F := nd_t g1
              rw [hmf (hno (by omega))]
              iterate 7 refine Qt.no rfl ?_
              refine Qt.va rfl (fun w' hw => X.pickT rfl (by conv => lhs; whnf)) ?_
              refine Qt.va rfl (fun w' hw => X.move (by conv => lhs; whnf)) ?_
              iterate 16 refine Qt.no rfl ?_
              refine Qt.va rfl (fun w' hw => X.pickT rfl (by conv => lhs; whnf)) ?_
              refine Qt.nil (fun w7 hq => ?_)
              replace hk6 := hk6.ext hq
              replace hv6 := hv6.ext hq
              refine J.iteT rfl ?_
              refine J.seq ?_
              refine J.region ?_
              refine L.va rfl (X.assign (by conv => lhs; whnf)) ?_
              refine L.nil ?_
              refine J.ret ?_
              refine inB_ret <|  thn_ret <|  thn_ret <|  inB_ret <|  thn_ret <| ?_
              refine fin1 ?_
              exact ⟨rfl, he06.trans hq⟩
             ·have g1' : zs.getD j 0 ≤ F := nd_f g1
              refine Qt.va rfl (fun w' hw => X.fieldAddr rfl Tryz.underlying26 rfl sz_24 (by decide)) ?_
              refine Qt.va rfl (fun w' hw => X.load rfl sc_24 (by first | exact Ld.blk (hk6.ext hw) rfl | exact Ld.num (hv6.ext hw) (by omega))) ?_
              refine Qt.va rfl (fun w' hw => X.move (by conv => lhs; whnf)) ?_
              refine Qt.va rfl (fun w' hw => (by first | exact X.index1n rfl rfl Tryz.underlying24 sz_27 (by first | exact Option.some_ne_none _ | exact hv6.some_ (by omega)) (by omega) | exact X.index1 rfl rfl Tryz.underlying24 sz_27 (by first | exact Option.some_ne_none _ | exact hv6.some_ (by omega)) (by omega))) ?_
              refine Qt.va rfl (fun w' hw => X.load rfl sc_27 (by first | exact Ld.blk (hk6.ext hw) rfl | exact Ld.num (hv6.ext hw) (by omega))) ?_
              refine Qt.va rfl (fun w' hw => X.move (by conv => lhs; whnf)) ?_
              refine Qt.va rfl (fun w' hw => X.eql rfl rfl) ?_
              refine Qt.va rfl (fun w' hw => X.pickF rfl (by conv => lhs; whnf)) ?_
              refine Qt.va rfl (fun w' hw => X.move (by conv => lhs; whnf)) ?_
              refine Qt.caseDec (k := 108) rfl (fun g2 => ?_) (fun g2 => ?_)
              ·rw [hmf (hno (by omega))]
               iterate 16 refine Qt.no rfl ?_
               refine Qt.va rfl (fun w' hw => X.pickT rfl (by conv => lhs; whnf)) ?_
               refine Qt.nil (fun w7 hq => ?_)
               replace hk6 := hk6.ext hq
               replace hv6 := hv6.ext hq
               refine J.iteT rfl ?_
               refine J.seq ?_
               refine J.region ?_
               refine L.va rfl (X.assign (by conv => lhs; whnf)) ?_
               refine L.nil ?_
               refine J.ret ?_
               refine inB_ret <|  thn_ret <|  thn_ret <|  inB_ret <|  thn_ret <| ?_
               refine fin1 ?_
               exact ⟨rfl, he06.trans hq⟩
              ·refine Qt.va rfl (fun w' hw => X.move (by conv => lhs; whnf)) ?_
               refine Qt.va rfl (fun w' hw => X.gtr rfl rfl) ?_
               refine Qt.va rfl (fun w' hw => X.move (by conv => lhs; whnf)) ?_
               refine Qt.caseDec (k := 111) rfl (fun g3 => ?_) (fun g3 => ?_)
               ·refine Qt.va rfl (fun w' hw => X.fieldAddr rfl Tryz.underlying26 rfl sz_24 (by decide)) ?_
                refine Qt.va rfl (fun w' hw => X.load rfl sc_24 (by first | exact Ld.blk (hk6.ext hw) rfl | exact Ld.num (hv6.ext hw) (by omega))) ?_
                refine Qt.va rfl (fun w' hw => X.move (by conv => lhs; whnf)) ?_
                refine Qt.va rfl (fun w' hw => (by first | exact X.index1n rfl rfl Tryz.underlying24 sz_27 (by first | exact Option.some_ne_none _ | exact hv6.some_ (by omega)) (by omega) | exact X.index1 rfl rfl Tryz.underlying24 sz_27 (by first | exact Option.some_ne_none _ | exact hv6.some_ (by omega)) (by omega))) ?_
                refine Qt.va rfl (fun w' hw => X.load rfl sc_27 (by first | exact Ld.blk (hk6.ext hw) rfl | exact Ld.num (hv6.ext hw) (by omega))) ?_
                refine Qt.va rfl (fun w' hw => X.fieldAddr rfl Tryz.underlying26 rfl sz_24 (by decide)) ?_
                refine Qt.va rfl (fun w' hw => X.load rfl sc_24 (by first | exact Ld.blk (hk6.ext hw) rfl | exact Ld.num (hv6.ext hw) (by omega))) ?_
                refine Qt.va rfl (fun w' hw => X.move (by conv => lhs; whnf)) ?_
                refine Qt.va rfl (fun w' hw => X.sub rfl rfl (by omega)) ?_
                refine Qt.va rfl (fun w' hw => (by first | exact X.index1n rfl rfl Tryz.underlying24 sz_27 (by first | exact Option.some_ne_none _ | exact hv6.some_ (by omega)) (by omega) | exact X.index1 rfl rfl Tryz.underlying24 sz_27 (by first | exact Option.some_ne_none _ | exact hv6.some_ (by omega)) (by omega))) ?_
                refine Qt.va rfl (fun w' hw => X.load rfl sc_27 (by first | exact Ld.blk (hk6.ext hw) rfl | exact Ld.num (hv6.ext hw) (by omega))) ?_
                refine Qt.va rfl (fun w' hw => X.leq rfl rfl) ?_
                refine Qt.va rfl (fun w' hw => X.pickT rfl (by conv => lhs; whnf)) ?_
                refine Qt.va rfl (fun w' hw => X.pickF rfl (by conv => lhs; whnf)) ?_
                refine Qt.nil (fun w7 hq => ?_)
                replace hk6 := hk6.ext hq
                replace hv6 := hv6.ext hq
                refine J.dec rfl (fun g4 => ?_) (fun g4 => ?_)
                ·rw [hmf (hno (by omega))]
                 refine J.seq ?_
                 refine J.region ?_
                 refine L.va rfl (X.assign (by conv => lhs; whnf)) ?_
                 refine L.nil ?_
                 refine J.ret ?_
                 refine inB_ret <|  thn_ret <|  thn_ret <|  inB_ret <|  thn_ret <| ?_
                 refine fin1 ?_
                 exact ⟨rfl, he06.trans hq⟩
                ·refine J.skip ?_
                 refine J.region ?_
                 refine L.va rfl (X.move (by conv => lhs; whnf)) ?_
                 refine L.va rfl (X.add rfl rfl (by omega)) ?_
                 refine L.va rfl (X.assign (by conv => lhs; whnf)) ?_
                 refine L.nil ?_
                 refine ⟨j + 1, At1 (by first | rfl | exact at_int rfl (by omega) | exact at_slice rfl (by omega) | exact at_int rfl (by simp)), (by (iterate 46 refine Agr.lk rfl ?_); exact Agr.lk rfl (Agr.hav rfl Agr.rfl')), ?_⟩
                 exact ⟨⟨he6.trans hq, by omega, viB_mk hV (by omega)⟩, by omega⟩
               ·refine Qt.no rfl ?_
                iterate 11 refine Qt.no rfl ?_
                iterate 2 refine Qt.va rfl (fun w' hw => X.pickF rfl (by conv => lhs; whnf)) ?_
                refine Qt.nil (fun w7 hq => ?_)
                replace hk6 := hk6.ext hq
                replace hv6 := hv6.ext hq
                refine J.iteF rfl ?_
                refine J.skip ?_
                refine J.region ?_
                refine L.va rfl (X.move (by conv => lhs; whnf)) ?_
                refine L.va rfl (X.add rfl rfl (by omega)) ?_
                refine L.va rfl (X.assign (by conv => lhs; whnf)) ?_
                refine L.nil ?_
                refine ⟨j + 1, At1 (by first | rfl | exact at_int rfl (by omega) | exact at_slice rfl (by omega) | exact at_int rfl (by simp)), (by (iterate 46 refine Agr.lk rfl ?_); exact Agr.lk rfl (Agr.hav rfl Agr.rfl')), ?_⟩
                exact ⟨⟨he6.trans hq, by omega, viB_mk hV (by omega)⟩, by omega⟩
            ·obtain rfl : j = nv := by omega
             rw [t0 hB h9 hS hV]
             refine J.exit ?_
             refine J.seq ?_
             refine J.region ?_
             refine L.va rfl (X.assign (by conv => lhs; whnf)) ?_
             refine L.nil ?_
             refine J.ret ?_
             refine fin1 ?_
             exact ⟨rfl, he06⟩
end Go.Proofs.YtpomklkfedpkfaaGreat
namespace Go.Proofs.YtpomklkfedpkfaaGreat
set_option maxRecDepth 100000
open Go.RowKit H
set_option linter.unusedVariables false
theorem nmB_sz {l : List ByteArray} (h : nmB l l.length = true) : ∀ s ∈ l, s.size ≤ maxLen := by
  intro s hs
  obtain ⟨i, hi, rfl⟩ := List.mem_iff_getElem.1 hs
  have h1 := nmB_at (mono_b (nmB_s l) (by omega : i + 1 ≤ l.length) h)
  have e : l.getD i be0 = l[i] := by simp [List.getD, hi]
  rw [e] at h1
  have h2 := (of_decide_eq_true h1).2.1
  unfold maxLen
  omega
theorem shl_full {nd : Nat} (h : nd ≤ 6) : IntKind.u32.wrap (1 * 2 ^ min ((nd : Int)).toNat IntKind.u32.bits) = ((2 ^ nd : Nat) : Int) := by
  have hb : IntKind.u32.bits = 32 := rfl
  have hp := pw6 h
  rw [hb, show min ((nd : Int)).toNat 32 = nd by omega, Int.one_mul]
  have e : ((2 : Int) ^ nd) = ((2 ^ nd : Nat) : Int) := by simp
  rw [e, w32 (by omega)]
theorem quo_gt {k d : Int} (hd : 0 < d) : 1099511627776 / d < k ↔ 1099511627776 < k * d := Int.ediv_lt_iff_lt_mul hd
theorem check_any (Ad : Option Addr) (nd cd : Nat) (A1 : Option Addr) (n1 c1 : Nat) (A2 : Option Addr) (n2 c2 : Nat) (Av : Option Addr) (nv cv : Nat) (ds : List (ByteArray × Int)) (s1 s2 : List ByteArray) (zs : List Int) (w : World)
  (hd : Reads w w.heap.size 2 Ad nd (dimsV ds)) (h1 : Reads w w.heap.size 1 A1 n1 (strs s1)) (h2 : Reads w w.heap.size 1 A2 n2 (strs s2)) (hv : Reads w w.heap.size 1 Av nv (nums .u32 zs)) (hzs : ∀ i, 0 ≤ zs.getD i 0 ∧ zs.getD i 0 < 4294967296) (hnv : nv ≤ maxLen) :
  Calls Tryz.prog 30 #[.agg #[.slice Ad nd cd, .slice A1 n1 c1, .slice A2 n2 c2, .slice Av nv cv]] w fun e w' => e = .returned (.int .i64 (chk nd n1 n2 nv ds s1 s2 zs)) ∧ Ext w w' := by
 have hl : ds.length = nd := by have := hd.1; rw [dimsV_length] at this; omega
 unfold maxLen at hnv
 have t3 := @chk_3 nd n1 n2 nv ds s1 s2 zs
 refine enter Tryz.func30 rfl (by kernel_rfl) ?_
 refine J.seq ?_
 refine J.region ?_
 refine L.boxA (l := [_, _, _, _]) rfl rfl ?_
 intro b1 w1 hb1 hs1 hk1 he1
 refine L.va rfl (X.assign (by conv => lhs; whnf)) ?_
 refine L.nil ?_
 iterate 2 refine J.seq ?_
 refine J.region ?_
 refine L.va rfl (X.fieldAddr rfl Tryz.underlying26 rfl sz_22 (by decide)) ?_
 refine L.va rfl (X.load rfl sc_22 (by first | exact Ld.blk hk1 rfl)) ?_
 refine L.va rfl (X.len rfl Tryz.underlying22) ?_
 refine L.va rfl (X.eql rfl rfl) ?_
 refine L.va rfl (X.move (by conv => lhs; whnf)) ?_
 refine L.caseDec (k := 16) rfl (fun a1 => ?_) (fun a1 => ?_)
 ·rw [t3 (by omega)]
  iterate 4 refine L.no rfl ?_
  refine L.va rfl (X.pickT rfl (by conv => lhs; whnf)) ?_
  refine L.va rfl (X.move (by conv => lhs; whnf)) ?_
  iterate 4 refine L.no rfl ?_
  refine L.va rfl (X.pickT rfl (by conv => lhs; whnf)) ?_
  refine L.va rfl (X.move (by conv => lhs; whnf)) ?_
  iterate 4 refine L.no rfl ?_
  refine L.va rfl (X.pickT rfl (by conv => lhs; whnf)) ?_
  refine L.va rfl (X.move (by conv => lhs; whnf)) ?_
  iterate 4 refine L.no rfl ?_
  refine L.va rfl (X.pickT rfl (by conv => lhs; whnf)) ?_
  refine L.nil ?_
  refine J.iteT rfl ?_
  refine J.seq ?_
  refine J.region ?_
  refine L.va rfl (X.assign (by conv => lhs; whnf)) ?_
  refine L.nil ?_
  refine J.ret ?_
  refine thn_ret <| ?_
  refine fin1 ?_
  exact ⟨rfl, he1⟩
 ·refine L.va rfl (X.fieldAddr rfl Tryz.underlying26 rfl sz_22 (by decide)) ?_
  refine L.va rfl (X.load rfl sc_22 (by first | exact Ld.blk hk1 rfl)) ?_
  refine L.va rfl (X.len rfl Tryz.underlying22) ?_
  refine L.va rfl (X.gtr rfl rfl) ?_
  refine L.va rfl (X.pickF rfl (by conv => lhs; whnf)) ?_
  refine L.va rfl (X.move (by conv => lhs; whnf)) ?_
  refine L.caseDec (k := 22) rfl (fun a2 => ?_) (fun a2 => ?_)
  ·rw [t3 (by omega)]
   iterate 4 refine L.no rfl ?_
   refine L.va rfl (X.pickT rfl (by conv => lhs; whnf)) ?_
   refine L.va rfl (X.move (by conv => lhs; whnf)) ?_
   iterate 4 refine L.no rfl ?_
   refine L.va rfl (X.pickT rfl (by conv => lhs; whnf)) ?_
   refine L.va rfl (X.move (by conv => lhs; whnf)) ?_
   iterate 4 refine L.no rfl ?_
   refine L.va rfl (X.pickT rfl (by conv => lhs; whnf)) ?_
   refine L.nil ?_
   refine J.iteT rfl ?_
   refine J.seq ?_
   refine J.region ?_
   refine L.va rfl (X.assign (by conv => lhs; whnf)) ?_
   refine L.nil ?_
   refine J.ret ?_
   refine thn_ret <| ?_
   refine fin1 ?_
   exact ⟨rfl, he1⟩
  ·refine L.va rfl (X.fieldAddr rfl Tryz.underlying26 rfl sz_23 (by decide)) ?_
   refine L.va rfl (X.load rfl sc_23 (by first | exact Ld.blk hk1 rfl)) ?_
   refine L.va rfl (X.len rfl Tryz.underlying23) ?_
   refine L.va rfl (X.gtr rfl rfl) ?_
   refine L.va rfl (X.pickF rfl (by conv => lhs; whnf)) ?_
   refine L.va rfl (X.move (by conv => lhs; whnf)) ?_
   refine L.caseDec (k := 28) rfl (fun a3 => ?_) (fun a3 => ?_)
   ·rw [t3 (by omega)]
    iterate 4 refine L.no rfl ?_
    refine L.va rfl (X.pickT rfl (by conv => lhs; whnf)) ?_
    refine L.va rfl (X.move (by conv => lhs; whnf)) ?_
    iterate 4 refine L.no rfl ?_
    refine L.va rfl (X.pickT rfl (by conv => lhs; whnf)) ?_
    refine L.nil ?_
    refine J.iteT rfl ?_
    refine J.seq ?_
    refine J.region ?_
    refine L.va rfl (X.assign (by conv => lhs; whnf)) ?_
    refine L.nil ?_
    refine J.ret ?_
    refine thn_ret <| ?_
    refine fin1 ?_
    exact ⟨rfl, he1⟩
   ·refine L.va rfl (X.fieldAddr rfl Tryz.underlying26 rfl sz_23 (by decide)) ?_
    refine L.va rfl (X.load rfl sc_23 (by first | exact Ld.blk hk1 rfl)) ?_
    refine L.va rfl (X.len rfl Tryz.underlying23) ?_
    refine L.va rfl (X.gtr rfl rfl) ?_
    refine L.va rfl (X.pickF rfl (by conv => lhs; whnf)) ?_
    refine L.va rfl (X.move (by conv => lhs; whnf)) ?_
    refine L.caseDec (k := 34) rfl (fun a4 => ?_) (fun a4 => ?_)
    ·rw [t3 (by omega)]
     iterate 4 refine L.no rfl ?_
     refine L.va rfl (X.pickT rfl (by conv => lhs; whnf)) ?_
     refine L.nil ?_
     refine J.iteT rfl ?_
     refine J.seq ?_
     refine J.region ?_
     refine L.va rfl (X.assign (by conv => lhs; whnf)) ?_
     refine L.nil ?_
     refine J.ret ?_
     refine thn_ret <| ?_
     refine fin1 ?_
     exact ⟨rfl, he1⟩
    ·refine L.va rfl (X.fieldAddr rfl Tryz.underlying26 rfl sz_24 (by decide)) ?_
     refine L.va rfl (X.load rfl sc_24 (by first | exact Ld.blk hk1 rfl)) ?_
     refine L.va rfl (X.len rfl Tryz.underlying24) ?_
     refine L.va rfl (X.gtr rfl rfl) ?_
     refine L.va rfl (X.pickF rfl (by conv => lhs; whnf)) ?_
     refine L.nil ?_
     refine J.dec rfl (fun a5 => ?_) (fun a5 => ?_)
     ·rw [t3 (by omega)]
      refine J.seq ?_
      refine J.region ?_
      refine L.va rfl (X.assign (by conv => lhs; whnf)) ?_
      refine L.nil ?_
      refine J.ret ?_
      refine thn_ret <| ?_
      refine fin1 ?_
      exact ⟨rfl, he1⟩
     ·have hlen : 1 ≤ nd ∧ nd ≤ 6 ∧ n1 ≤ 3 ∧ n2 ≤ 2 ∧ nv ≤ 15 := by omega
      have t8 := @chk_8 nd n1 n2 nv ds s1 s2 zs hlen
      have t9 := @chk_9 nd n1 n2 nv ds s1 s2 zs hlen
      have t2 := @chk_2 nd n1 n2 nv ds s1 s2 zs hlen
      have t6 := @chk_6 nd n1 n2 nv ds s1 s2 zs hlen
      have t0 := @chk_0 nd n1 n2 nv ds s1 s2 zs hlen
      refine J.skip ?_
      refine J.seq ?_
      refine J.region ?_
      refine L.va rfl ((by first | exact X.loadAgg rfl (range_l hk1) Tryz.underlying26 rfl (by kernel_rfl) | exact X.loadAgg rfl (range_blk hk1) Tryz.underlying26 rfl (by kernel_rfl))) ?_
      refine L.call rfl en_50 rfl (sall_any Ad nd cd A1 n1 c1 A2 n2 c2 Av nv cv ds s1 s2 _ ((hd.ext he1).here (by decide)) ((h1.ext he1).here (by decide)) ((h2.ext he1).here (by decide)) (by omega) (by omega) (by omega)) ?_
      rintro e w2 ⟨A, c, rfl, ho, he2⟩
      refine ⟨_, rfl, ?_⟩
      have he2 : Ext w1 w2 := he2
      have hk2 := hk1.ext he2
      refine L.va rfl (X.assign (by conv => lhs; whnf)) ?_
      refine L.nil ?_
      iterate 2 refine J.seq ?_
      refine J.region ?_
      refine L.va rfl (X.move (by conv => lhs; whnf)) ?_
      refine L.va rfl (X.len rfl Tryz.underlying23) ?_
      refine L.va rfl (X.move (by conv => lhs; whnf)) ?_
      refine L.nil ?_
      refine J.block ?_
      refine J.loop (X := Nat) [2, 5, 44, 45, 46, 47, 48, 49, 50, 51] (fun i => [(44, .int .i64 (i : Int))]) (fun i w' => i ≤ nd + n1 + n2 ∧ nmB (nmL ds s1 s2) i = true ∧ Ext w2 w') (fun i => nd + n1 + n2 - i) (0) (At1 (by first | rfl | exact at_int rfl (by omega) | exact at_slice rfl (by omega) | exact at_int rfl (by simp))) ?_ ?_
      ·exact ⟨by omega, rfl, Ext.refl _⟩
      ·rintro i g w3 ⟨hi, hB, he3⟩
       have ho3 := ho.ext he3
       have hk3 := (hk1.ext he2).ext he3
       refine J.seq ?_
       refine J.region ?_
       refine L.va rfl (X.lss rfl rfl) ?_
       refine L.nil ?_
       refine J.seq ?_
       refine J.dec rfl (fun hlt => ?_) (fun hlt => ?_)
       ·refine J.skip ?_
        refine J.seq ?_
        refine J.block ?_
        refine J.seq ?_
        refine J.region ?_
        refine L.va rfl ((by first | exact X.index1n rfl rfl Tryz.underlying23 sz_9 (by first | exact Option.some_ne_none _ | exact own_ne ho3 (by omega)) (by omega) | exact X.index1 rfl rfl Tryz.underlying23 sz_9 (by first | exact Option.some_ne_none _ | exact own_ne ho3 (by omega)) (by omega))) ?_
        refine L.va rfl (X.load rfl sc_9 (by first | exact Ld.ostr ho3 (by omega) | exact Ld.blk hk3 rfl)) ?_
        refine L.va rfl (X.assign (by conv => lhs; whnf)) ?_
        refine L.nil ?_
        refine J.seq ?_
        refine J.region ?_
        refine L.va rfl (X.move (by conv => lhs; whnf)) ?_
        refine L.call rfl en_51 rfl (is_any _ _) ?_
        rintro e w4 ⟨rfl, he4⟩
        refine ⟨_, rfl, ?_⟩
        have he4 : Ext w3 w4 := he4
        cases hs : isS ((nmL ds s1 s2).getD i be0)
        ·have hE := mono_f (nmB_s (nmL ds s1 s2)) (by omega : i + 1 ≤ nd + n1 + n2) (nmB_no hs)
         rw [t8 hE]
         refine L.va rfl (X.not rfl) ?_
         refine L.nil ?_
         refine J.iteT rfl ?_
         refine J.seq ?_
         refine J.region ?_
         refine L.va rfl (X.assign (by conv => lhs; whnf)) ?_
         refine L.nil ?_
         refine J.ret ?_
         refine inB_ret <|  thn_ret <|  thn_ret <|  inB_ret <|  thn_ret <| ?_
         refine fin1 ?_
         exact ⟨rfl, ((he1.trans he2).trans he3).trans he4⟩
        ·refine L.va rfl (X.not rfl) ?_
         refine L.nil ?_
         refine J.iteF rfl ?_
         refine J.skip ?_
         refine J.region ?_
         refine L.va rfl (X.add rfl rfl (by omega)) ?_
         refine L.va rfl (X.move (by conv => lhs; whnf)) ?_
         refine L.nil ?_
         refine ⟨i + 1, At1 (by first | rfl | exact at_int rfl (by omega) | exact at_slice rfl (by omega) | exact at_int rfl (by simp)), (by (iterate 9 refine Agr.lk rfl ?_); exact Agr.lk rfl (Agr.hav rfl Agr.rfl')), ?_⟩
         exact ⟨⟨by omega, nmB_mk hB hs, he3.trans he4⟩, by omega⟩
       ·obtain rfl : i = nd + n1 + n2 := by omega
        refine J.exit ?_
        iterate 2 refine J.seq ?_
        refine J.region ?_
        refine L.va rfl (X.move (by conv => lhs; whnf)) ?_
        have hll : (nmL ds s1 s2).length = nd + n1 + n2 := by have := (own_reads ho3).1; simpa [strs] using this
        have hBl := hB
        rw [← hll] at hBl
        refine L.call rfl en_52 rfl (twice_any _ _ _ _ _ ((own_reads ho3).here (by decide)) (by have := own_bd ho; omega) (nmB_sz hBl)) ?_
        rintro e w4 ⟨rfl, he4⟩
        refine ⟨_, rfl, ?_⟩
        have he4 : Ext w3 w4 := he4
        have he14 := (he2.trans he3).trans he4
        have hk4 := hk1.ext he14
        have hd4 := (hd.ext he1).ext he14
        have hv4 := (hv.ext he1).ext he14
        have he04 := he1.trans he14
        refine L.va rfl (X.geq rfl rfl) ?_
        refine L.nil ?_
        refine J.dec rfl (fun h9 => ?_) (fun h9 => ?_)
        ·rw [t9 hB h9]
         refine J.seq ?_
         refine J.region ?_
         refine L.va rfl (X.assign (by conv => lhs; whnf)) ?_
         refine L.nil ?_
         refine J.ret ?_
         refine thn_ret <| ?_
         refine fin1 ?_
         exact ⟨rfl, he04⟩
        ·refine J.skip ?_
         refine J.seq ?_
         refine J.region ?_
         refine L.va rfl (X.assign (by conv => lhs; whnf)) ?_
         refine L.nil ?_
         iterate 2 refine J.seq ?_
         refine J.region ?_
         refine L.va rfl (X.fieldAddr rfl Tryz.underlying26 rfl sz_22 (by decide)) ?_
         refine L.va rfl (X.load rfl sc_22 (by first | exact Ld.blk hk4 rfl | exact Ld.num hv4 (by omega) | exact Ld.rd hd4 (by omega))) ?_
         refine L.va rfl (X.len rfl Tryz.underlying22) ?_
         refine L.va rfl (X.move (by conv => lhs; whnf)) ?_
         refine L.nil ?_
         refine J.block ?_
         refine J.loop (X := Nat × Int) [2, 6, 8, 58, 59, 60, 61, 62, 63, 64, 65, 66, 67, 68, 69, 70, 71, 72, 73, 74, 75, 76, 77, 78, 79, 80, 81] (fun x => [(58, .int .i64 (x.1 : Int)), (6, .int .i64 x.2)]) (fun x w' => Ext w4 w' ∧ x.1 ≤ nd ∧ x.2 = kyA ds x.1 ∧ szB ds x.1 = true) (fun x => nd - x.1) ((0, 1)) (At2 (by first | rfl | exact at_int rfl (by omega) | exact at_slice rfl (by omega) | exact at_int rfl (by simp)) (by first | rfl | exact at_int rfl (by omega) | exact at_slice rfl (by omega) | exact at_int rfl (by simp))) ?_ ?_
         ·exact ⟨Ext.refl _, by dsimp only; omega, rfl, rfl⟩
         ·rintro ⟨i, z⟩ g w5 ⟨he5, hi, hz, hS⟩
          dsimp only at hi hz hS
          have q1 : ((i, z) : Nat × Int).1 = i := rfl
          have q2 : ((i, z) : Nat × Int).2 = z := rfl
          have hzb := kyA_bd hS
          rw [← hz] at hzb
          have hk5 := hk4.ext he5
          have hd5 := hd4.ext he5
          have hv5 := hv4.ext he5
          have he05 := he04.trans he5
          refine J.seq ?_
          refine J.region ?_
          refine L.va rfl (X.lss rfl rfl) ?_
          refine L.nil ?_
          refine J.seq ?_
          refine J.dec rfl (fun hlt2 => ?_) (fun hlt2 => ?_)
          ·have hil : i < nd := by dsimp only at hlt2; omega
           have hnx := @ky_next ds i hS
           have hno := @szB_no ds i
           have hmf := fun h => t2 hB h9 (mono_f (szB_s ds) (by omega : i + 1 ≤ nd) h)
           have hkn : kyA ds (i + 1) = z * (ds.getD i d0).2 := by rw [hz]; rfl
           have hrow := dims_row (l := ds) (i := i) (by omega)
           generalize hdv : (ds.getD i d0).2 = dv at *
           refine J.skip ?_
           refine J.seq ?_
           refine J.block ?_
           refine J.seq ?_
           refine J.region ?_
           refine L.va rfl ((by first | exact X.indexAddrn rfl rfl Tryz.underlying22 sz_54 (by first | exact Option.some_ne_none _ | exact hv5.some_ (by omega) | exact hd5.some_ (by omega)) (by omega) | exact X.indexAddr rfl rfl Tryz.underlying22 sz_54 (by first | exact Option.some_ne_none _ | exact hv5.some_ (by omega) | exact hd5.some_ (by omega)) (by omega))) ?_
           refine L.va rfl (X.loadRow (cs := [.string (ds.getD i d0).1, .int .i64 dv]) rfl hd5 hrow (Nat.zero_lt_succ _) Tryz.underlying54 rfl (by kernel_rfl)) ?_
           refine L.alloc rfl zr_54 ?_
           intro b6 w6 hb6 hs6 hk6 he6
           refine L.storeAgg (vs := [_, _]) rfl rfl rfl rfl sz_54 (hk6) rfl ?_
           intro w7 hk7 hg7 hs7
           have hz5 := he05.le
           have he57 : Ext w5 w7 := he6.grw hg7 (by intro g hg; injection hg with hg; omega)
           have he07 := he05.trans he57
           have hk57 := hk5.ext he57
           refine L.nil ?_
           iterate 2 refine J.seq ?_
           refine J.region ?_
           refine L.va rfl (X.fieldAddr rfl Tryz.underlying54 rfl sz_3 (by decide)) ?_
           refine L.va rfl (X.load rfl sc_3 (by first | exact Ld.blk hk7 rfl)) ?_
           refine L.va rfl (X.lss rfl rfl) ?_
           refine L.va rfl (X.move (by conv => lhs; whnf)) ?_
           refine L.caseDec (k := 65) rfl (fun b1 => ?_) (fun b1 => ?_)
           ·rw [hmf (hno (by omega))]
            iterate 3 refine L.no rfl ?_
            refine L.va rfl (X.pickT rfl (by conv => lhs; whnf)) ?_
            refine L.va rfl (X.move (by conv => lhs; whnf)) ?_
            iterate 5 refine L.no rfl ?_
            refine L.va rfl (X.pickT rfl (by conv => lhs; whnf)) ?_
            refine L.nil ?_
            refine J.iteT rfl ?_
            refine J.seq ?_
            refine J.region ?_
            refine L.va rfl (X.assign (by conv => lhs; whnf)) ?_
            refine L.nil ?_
            refine J.ret ?_
            refine thn_ret <|  inB_ret <|  thn_ret <|  thn_ret <|  inB_ret <|  thn_ret <| ?_
            refine fin1 ?_
            exact ⟨rfl, he07⟩
           ·refine L.va rfl (X.fieldAddr rfl Tryz.underlying54 rfl sz_3 (by decide)) ?_
            refine L.va rfl (X.load rfl sc_3 (by first | exact Ld.blk hk7 rfl)) ?_
            refine L.va rfl (X.gtr rfl rfl) ?_
            refine L.va rfl (X.pickF rfl (by conv => lhs; whnf)) ?_
            refine L.va rfl (X.move (by conv => lhs; whnf)) ?_
            refine L.caseDec (k := 70) rfl (fun b2 => ?_) (fun b2 => ?_)
            ·rw [hmf (hno (by omega))]
             iterate 5 refine L.no rfl ?_
             refine L.va rfl (X.pickT rfl (by conv => lhs; whnf)) ?_
             refine L.nil ?_
             refine J.iteT rfl ?_
             refine J.seq ?_
             refine J.region ?_
             refine L.va rfl (X.assign (by conv => lhs; whnf)) ?_
             refine L.nil ?_
             refine J.ret ?_
             refine thn_ret <|  inB_ret <|  thn_ret <|  thn_ret <|  inB_ret <|  thn_ret <| ?_
             refine fin1 ?_
             exact ⟨rfl, he07⟩
            ·have hnx := hnx (by omega) (by omega)
             rw [hkn] at hnx
             have hnx' : 1 ≤ ((i, z) : Nat × Int).2 * dv ∧ ((i, z) : Nat × Int).2 * dv ≤ 1099511627776 * 4096 := hnx
             have hq3 : ((i, z) : Nat × Int).2 * dv = z * dv := rfl
             have hqg := @quo_gt z dv (by omega)
             refine L.va rfl (X.move (by conv => lhs; whnf)) ?_
             refine L.va rfl (X.fieldAddr rfl Tryz.underlying54 rfl sz_3 (by decide)) ?_
             refine L.va rfl (X.load rfl sc_3 (by first | exact Ld.blk hk7 rfl)) ?_
             refine L.va rfl (X.quo rfl rfl (by omega)) ?_
             refine L.va rfl (X.gtr rfl rfl) ?_
             refine L.va rfl (X.pickF rfl (by conv => lhs; whnf)) ?_
             refine L.nil ?_
             refine J.dec rfl (fun b3 => ?_) (fun b3 => ?_)
             ·have b3' : 1099511627776 / dv < z := b3
              rw [hmf (hno (by omega))]
              refine J.seq ?_
              refine J.region ?_
              refine L.va rfl (X.assign (by conv => lhs; whnf)) ?_
              refine L.nil ?_
              refine J.ret ?_
              refine thn_ret <|  inB_ret <|  thn_ret <|  thn_ret <|  inB_ret <|  thn_ret <| ?_
              refine fin1 ?_
              exact ⟨rfl, he07⟩
             ·have b3' : ¬ 1099511627776 / dv < z := b3
              refine J.skip ?_
              refine J.region ?_
              refine L.va rfl (X.move (by conv => lhs; whnf)) ?_
              refine L.va rfl (X.fieldAddr rfl Tryz.underlying54 rfl sz_3 (by decide)) ?_
              refine L.va rfl (X.load rfl sc_3 (by first | exact Ld.blk hk7 rfl)) ?_
              refine L.va rfl (X.mul rfl rfl (by omega)) ?_
              refine L.va rfl (X.assign (by conv => lhs; whnf)) ?_
              refine L.nil ?_
              refine J.region ?_
              refine L.va rfl (X.add rfl rfl (by omega)) ?_
              refine L.va rfl (X.move (by conv => lhs; whnf)) ?_
              refine L.nil ?_
              refine ⟨(i + 1, z * dv), At2 (by first | rfl | exact at_int rfl (by omega) | exact at_slice rfl (by omega) | exact at_int rfl (by simp)) (by first | rfl | exact at_int rfl (by omega) | exact at_slice rfl (by omega) | exact at_int rfl (by simp)), (by (iterate 28 refine Agr.lk rfl ?_); exact Agr.lk rfl (Agr.hav rfl Agr.rfl')), ?_⟩
              exact ⟨⟨he5.trans he57, by dsimp only; omega, hkn.symm, szB_mk hS (by rw [hdv]; omega)⟩, by dsimp only; omega⟩
          ·obtain rfl : i = nd := by dsimp only at hlt2; omega
           have hpw := pw6 hlen.2.1
           have hsl := shl_full hlen.2.1
           generalize hF : ((2 ^ i - 1 : Nat) : Int) = F at *
           have hsub : IntKind.u32.wrap (((2 ^ i : Nat) : Int) - 1) = F := by rw [w32 (by omega)]; omega
           refine J.exit ?_
           refine J.seq ?_
           refine J.region ?_
           refine L.va rfl (X.fieldAddr rfl Tryz.underlying26 rfl sz_22 (by decide)) ?_
           refine L.va rfl (X.load rfl sc_22 (by first | exact Ld.blk hk5 rfl | exact Ld.num hv5 (by omega) | exact Ld.rd hd5 (by omega))) ?_
           refine L.va rfl (X.len rfl Tryz.underlying22) ?_
           refine L.va rfl (X.shl rfl rfl (by omega)) ?_
           refine L.va rfl (X.subw rfl rfl) ?_
           refine L.va rfl (X.assign (by conv => lhs; whnf)) ?_
           refine L.nil ?_
           iterate 2 refine J.seq ?_
           refine J.region ?_
           refine L.va rfl (X.fieldAddr rfl Tryz.underlying26 rfl sz_24 (by decide)) ?_
           refine L.va rfl (X.load rfl sc_24 (by first | exact Ld.blk hk5 rfl | exact Ld.num hv5 (by omega) | exact Ld.rd hd5 (by omega))) ?_
           refine L.va rfl (X.len rfl Tryz.underlying24) ?_
           refine L.va rfl (X.move (by conv => lhs; whnf)) ?_
           refine L.nil ?_
           refine J.block ?_
           rw [hsl, hsub]
           refine J.loop (X := Nat) [2, 10, 11, 90, 91, 92, 93, 94, 95, 96, 97, 98, 99, 100, 101, 102, 103, 104, 105, 106, 107, 108, 109, 110, 111, 112] (fun i => [(90, .int .i64 (i : Int))]) (fun i w' => w' = w5 ∧ i ≤ nv ∧ viB F zs i = true) (fun i => nv - i) (0) (At1 (by first | rfl | exact at_int rfl (by omega) | exact at_slice rfl (by omega) | exact at_int rfl (by simp))) ?_ ?_
           ·exact ⟨rfl, by omega, rfl⟩
           ·rintro j g w6 ⟨rfl, hj, hV⟩
            refine J.seq ?_
            refine J.region ?_
            refine L.va rfl (X.lss rfl rfl) ?_
            refine L.nil ?_
            refine J.seq ?_
            refine J.dec rfl (fun hlt3 => ?_) (fun hlt3 => ?_)
            ·have hno := @viB_no F zs j
             have hmf := fun h => t6 hB h9 hS (mono_f (viB_s F zs) (by omega : j + 1 ≤ nv) h)
             have hzj := hzs j
             have hzj' := hzs (j - 1)
             have hjp : zs.getD ((j : Int) - 1).toNat 0 = zs.getD (j - 1) 0 := by rw [show ((j : Int) - 1).toNat = j - 1 by omega]
             refine J.skip ?_
             refine J.seq ?_
             refine J.block ?_
             refine J.seq ?_
             refine J.region ?_
             refine L.va rfl (X.move (by conv => lhs; whnf)) ?_
             refine L.va rfl ((by first | exact X.index1n rfl rfl Tryz.underlying24 sz_27 (by first | exact Option.some_ne_none _ | exact hv5.some_ (by omega) | exact hd5.some_ (by omega)) (by omega) | exact X.index1 rfl rfl Tryz.underlying24 sz_27 (by first | exact Option.some_ne_none _ | exact hv5.some_ (by omega) | exact hd5.some_ (by omega)) (by omega))) ?_
             refine L.va rfl (X.load rfl sc_27 (by first | exact Ld.blk hk5 rfl | exact Ld.num hv5 (by omega) | exact Ld.rd hd5 (by omega))) ?_
             iterate 2 refine L.va rfl (X.assign (by conv => lhs; whnf)) ?_
             refine L.nil ?_
             refine J.seq ?_
             refine J.region ?_
             iterate 2 refine L.va rfl (X.move (by conv => lhs; whnf)) ?_
             refine L.va rfl (X.geq rfl rfl) ?_
             refine L.va rfl (X.move (by conv => lhs; whnf)) ?_
             refine L.caseDec (k := 98) rfl (fun g1 => ?_) (fun g1 => ?_)
             ·rw [hmf (hno (by omega))]
              iterate 12 refine L.no rfl ?_
              refine L.va rfl (X.pickT rfl (by conv => lhs; whnf)) ?_
              refine L.nil ?_
              refine J.iteT rfl ?_
              refine J.seq ?_
              refine J.region ?_
              refine L.va rfl (X.assign (by conv => lhs; whnf)) ?_
              refine L.nil ?_
              refine J.ret ?_
              refine inB_ret <|  thn_ret <|  thn_ret <|  inB_ret <|  thn_ret <| ?_
              refine fin1 ?_
              exact ⟨rfl, he05⟩
             ·refine L.va rfl (X.move (by conv => lhs; whnf)) ?_
              refine L.va rfl (X.gtr rfl rfl) ?_
              refine L.va rfl (X.move (by conv => lhs; whnf)) ?_
              refine L.caseDec (k := 101) rfl (fun g3 => ?_) (fun g3 => ?_)
              ·refine L.va rfl (X.move (by conv => lhs; whnf)) ?_
               refine L.va rfl (X.fieldAddr rfl Tryz.underlying26 rfl sz_24 (by decide)) ?_
               refine L.va rfl (X.load rfl sc_24 (by first | exact Ld.blk hk5 rfl | exact Ld.num hv5 (by omega) | exact Ld.rd hd5 (by omega))) ?_
               refine L.va rfl (X.move (by conv => lhs; whnf)) ?_
               refine L.va rfl (X.sub rfl rfl (by omega)) ?_
               refine L.va rfl ((by first | exact X.index1n rfl rfl Tryz.underlying24 sz_27 (by first | exact Option.some_ne_none _ | exact hv5.some_ (by omega) | exact hd5.some_ (by omega)) (by omega) | exact X.index1 rfl rfl Tryz.underlying24 sz_27 (by first | exact Option.some_ne_none _ | exact hv5.some_ (by omega) | exact hd5.some_ (by omega)) (by omega))) ?_
               refine L.va rfl (X.load rfl sc_27 (by first | exact Ld.blk hk5 rfl | exact Ld.num hv5 (by omega) | exact Ld.rd hd5 (by omega))) ?_
               refine L.va rfl (X.leq rfl rfl) ?_
               refine L.va rfl (X.pickT rfl (by conv => lhs; whnf)) ?_
               refine L.va rfl (X.pickF rfl (by conv => lhs; whnf)) ?_
               refine L.nil ?_
               refine J.dec rfl (fun g4 => ?_) (fun g4 => ?_)
               ·rw [hmf (hno (by omega))]
                refine J.seq ?_
                refine J.region ?_
                refine L.va rfl (X.assign (by conv => lhs; whnf)) ?_
                refine L.nil ?_
                refine J.ret ?_
                refine inB_ret <|  thn_ret <|  thn_ret <|  inB_ret <|  thn_ret <| ?_
                refine fin1 ?_
                exact ⟨rfl, he05⟩
               ·refine J.skip ?_
                refine J.region ?_
                refine L.va rfl (X.add rfl rfl (by omega)) ?_
                refine L.va rfl (X.move (by conv => lhs; whnf)) ?_
                refine L.nil ?_
                refine ⟨j + 1, At1 (by first | rfl | exact at_int rfl (by omega) | exact at_slice rfl (by omega) | exact at_int rfl (by simp)), (by (iterate 27 refine Agr.lk rfl ?_); exact Agr.lk rfl (Agr.hav rfl Agr.rfl')), ?_⟩
                exact ⟨⟨rfl, by omega, viB_mk hV (by omega)⟩, by omega⟩
              ·refine L.no rfl ?_
               iterate 7 refine L.no rfl ?_
               iterate 2 refine L.va rfl (X.pickF rfl (by conv => lhs; whnf)) ?_
               refine L.nil ?_
               refine J.iteF rfl ?_
               refine J.skip ?_
               refine J.region ?_
               refine L.va rfl (X.add rfl rfl (by omega)) ?_
               refine L.va rfl (X.move (by conv => lhs; whnf)) ?_
               refine L.nil ?_
               refine ⟨j + 1, At1 (by first | rfl | exact at_int rfl (by omega) | exact at_slice rfl (by omega) | exact at_int rfl (by simp)), (by (iterate 27 refine Agr.lk rfl ?_); exact Agr.lk rfl (Agr.hav rfl Agr.rfl')), ?_⟩
               exact ⟨⟨rfl, by omega, viB_mk hV (by omega)⟩, by omega⟩
            ·obtain rfl : j = nv := by omega
             rw [t0 hB h9 hS hV]
             refine J.exit ?_
             refine J.seq ?_
             refine J.region ?_
             refine L.va rfl (X.assign (by conv => lhs; whnf)) ?_
             refine L.nil ?_
             refine J.ret ?_
             refine fin1 ?_
             exact ⟨rfl, he05⟩
end Go.Proofs.YtpomklkfedpkfaaGreat
namespace Go.Proofs.YtpomklkfedpkfaaGreat
set_option maxRecDepth 100000
open Go.RowKit H
set_option linter.unusedVariables false
structure Sch where
  (Ad : Option Addr) (nd cd : Nat) (A1 : Option Addr) (n1 c1 : Nat) (A2 : Option Addr) (n2 c2 : Nat) (Av : Option Addr) (nv cv : Nat) (ds : List (ByteArray × Int)) (s1 s2 : List ByteArray) (zs : List Int)
namespace Sch
abbrev val (s : Sch) : Value := .agg #[.slice s.Ad s.nd s.cd, .slice s.A1 s.n1 s.c1, .slice s.A2 s.n2 s.c2, .slice s.Av s.nv s.cv]
def code (s : Sch) : Int := chk s.nd s.n1 s.n2 s.nv s.ds s.s1 s.s2 s.zs
def F (s : Sch) : Int := ((2 ^ s.nd - 1 : Nat) : Int)
structure Here (s : Sch) (w : World) : Prop where
  hd : Reads w w.heap.size 2 s.Ad s.nd (dimsV s.ds)
  h1 : Reads w w.heap.size 1 s.A1 s.n1 (strs s.s1)
  h2 : Reads w w.heap.size 1 s.A2 s.n2 (strs s.s2)
  hv : Reads w w.heap.size 1 s.Av s.nv (nums .u32 s.zs)
  hzs : ∀ i, 0 ≤ s.zs.getD i 0 ∧ s.zs.getD i 0 < 4294967296
  hle : s.nd ≤ 100 ∧ s.n1 ≤ 100 ∧ s.n2 ≤ 100 ∧ s.nv ≤ 100
theorem Here.ext {s : Sch} {w w' : World} (h : s.Here w) (he : Ext w w') : s.Here w' :=
  ⟨(h.hd.ext he).here (by decide), (h.h1.ext he).here (by decide), (h.h2.ext he).here (by decide), (h.hv.ext he).here (by decide), h.hzs, h.hle⟩
theorem Here.len {s : Sch} {w : World} (h : s.Here w) : s.ds.length = s.nd := by have := h.hd.1; rw [dimsV_length] at this; omega
theorem Here.check {s : Sch} {w : World} (h : s.Here w) : Calls Tryz.prog 30 #[s.val] w fun e w' => e = .returned (.int .i64 s.code) ∧ Ext w w' :=
  check_any _ _ _ _ _ _ _ _ _ _ _ _ _ _ _ _ w h.hd h.h1 h.h2 h.hv h.hzs (by have := h.hle; unfold maxLen; omega)
theorem Here.rcheck {s : Sch} {w : World} (h : s.Here w) : Calls Tryz.prog 38 #[s.val] w fun e w' => e = .returned (.int .i64 s.code) ∧ Ext w w' :=
  rcheck_any _ _ _ _ _ _ _ _ _ _ _ _ _ _ _ _ w h.hd h.h1 h.h2 h.hv h.hzs (by have := h.hle; unfold maxLen; omega)
theorem good {s : Sch} (h : s.code = 0) : (1 ≤ s.nd ∧ s.nd ≤ 6 ∧ s.n1 ≤ 3 ∧ s.n2 ≤ 2 ∧ s.nv ≤ 15) ∧ szB s.ds s.nd = true := ⟨(chk_ok h).1, (chk_ok h).2.1⟩
theorem F_bd {s : Sch} (h : s.code = 0) : 1 ≤ s.F ∧ s.F ≤ 63 := by
  have g := (good h).1
  have hp := pw6 g.2.1
  have h2 : 2 ^ 1 ≤ 2 ^ s.nd := Nat.pow_le_pow_right (by decide) g.1
  unfold F
  omega
theorem Here.rfull {s : Sch} {w : World} (h : s.Here w) (hc : s.code = 0) : Calls Tryz.prog 39 #[s.val] w fun e w' => e = .returned (.int .u32 s.F) ∧ Ext w w' :=
  rfull_any _ _ _ _ _ _ w (by have := (good hc).1; omega)
theorem Here.full_ok {s : Sch} {w : World} (h : s.Here w) (hc : s.code = 0) : Calls Tryz.prog 53 #[s.val] w fun e w' => e = .returned (.int .u32 s.F) ∧ Ext w w' := by
 have g := (good hc).1
 have hp := pw6 g.2.1
 have hsl := shl_full g.2.1
 have hF : s.F = ((2 ^ s.nd - 1 : Nat) : Int) := rfl
 have hsub : IntKind.u32.wrap (((2 ^ s.nd : Nat) : Int) - 1) = s.F := by rw [w32 (by omega), hF]; omega
 refine enter Tryz.func53 rfl (by kernel_rfl) ?_
 refine J.seq ?_
 refine J.region ?_
 refine L.boxA (l := [_, _, _, _]) rfl rfl ?_
 intro b1 w1 hb1 hs1 hk1 he1
 refine L.va rfl (X.assign (by conv => lhs; whnf)) ?_
 refine L.nil ?_
 iterate 2 refine J.seq ?_
 refine J.region ?_
 refine L.va rfl ((by first | exact X.loadAgg rfl (range_l hk1) Tryz.underlying26 rfl (by kernel_rfl) | exact X.loadAgg rfl (range_blk hk1) Tryz.underlying26 rfl (by kernel_rfl))) ?_
 refine L.call rfl en_30 rfl ((h.ext he1).check) ?_
 rintro e w2 ⟨rfl, he2⟩
 refine ⟨_, rfl, ?_⟩
 have he2 : Ext w1 w2 := he2
 replace hk1 := hk1.ext he2
 refine L.va rfl (X.neq rfl rfl) ?_
 refine L.nil ?_
 rw [hc]
 refine J.iteF rfl ?_
 refine J.skip ?_
 refine J.seq ?_
 refine J.region ?_
 refine L.va rfl (X.fieldAddr rfl Tryz.underlying26 rfl sz_22 (by decide)) ?_
 refine L.va rfl (X.load rfl sc_22 (by first | exact Ld.blk hk1 rfl)) ?_
 refine L.va rfl (X.len rfl Tryz.underlying22) ?_
 refine L.va rfl (X.shl rfl rfl (by omega)) ?_
 refine L.va rfl (X.subw rfl rfl) ?_
 refine L.va rfl (X.assign (by conv => lhs; whnf)) ?_
 refine L.nil ?_
 refine J.ret ?_
 refine fin1 ?_
 rw [hsl, hsub]
 exact ⟨rfl, he1.trans he2⟩
theorem Here.full_no {s : Sch} {w : World} (h : s.Here w) (hc : s.code ≠ 0) : Calls Tryz.prog 53 #[s.val] w fun e w' => e = .returned (.int .u32 0) ∧ Ext w w' := by
 refine enter Tryz.func53 rfl (by kernel_rfl) ?_
 refine J.seq ?_
 refine J.region ?_
 refine L.boxA (l := [_, _, _, _]) rfl rfl ?_
 intro b1 w1 hb1 hs1 hk1 he1
 refine L.va rfl (X.assign (by conv => lhs; whnf)) ?_
 refine L.nil ?_
 iterate 2 refine J.seq ?_
 refine J.region ?_
 refine L.va rfl ((by first | exact X.loadAgg rfl (range_l hk1) Tryz.underlying26 rfl (by kernel_rfl) | exact X.loadAgg rfl (range_blk hk1) Tryz.underlying26 rfl (by kernel_rfl))) ?_
 refine L.call rfl en_30 rfl ((h.ext he1).check) ?_
 rintro e w2 ⟨rfl, he2⟩
 refine ⟨_, rfl, ?_⟩
 have he2 : Ext w1 w2 := he2
 replace hk1 := hk1.ext he2
 refine L.va rfl (X.neq rfl rfl) ?_
 refine L.nil ?_
 refine J.ndecT rfl (by exact hc) ?_
 refine J.seq ?_
 refine J.region ?_
 refine L.va rfl (X.assign (by conv => lhs; whnf)) ?_
 refine L.nil ?_
 refine J.ret ?_
 refine thn_ret <| ?_
 refine fin1 ?_
 exact ⟨rfl, he1.trans he2⟩
def sub (s : Sch) (m : Int) : Prop := m ≤ s.F
theorem andNot_full {s : Sch} {m : Nat} (hm : m < 4294967296) (hn : s.nd ≤ 6) : bits .andNot .u32 (m : Int) s.F = 0 ↔ (m : Int) ≤ s.F := by
  have hp := pw6 hn
  unfold F
  rw [u32_andNot_nat m (2 ^ s.nd - 1) hm (by omega)]
  have := Mk.andNot_zero hm (show 2 ^ s.nd - 1 < 4294967296 by omega)
  rw [sb_full hm hn, decide_eq_true_iff] at this
  omega
theorem bit_and {m i : Nat} (hm : m < 4294967296) (hi : i ≤ 32) : bits .and .u32 ((m : Int) / 2 ^ min ((i : Int)).toNat IntKind.u32.bits) 1 = if m.testBit i then 1 else 0 := by
  have hb : IntKind.u32.bits = 32 := rfl
  rw [hb, show min ((i : Int)).toNat 32 = i by omega]
  have e : ((2 : Int) ^ i) = ((2 ^ i : Nat) : Int) := by simp
  have e2 : (m : Int) / ((2 ^ i : Nat) : Int) = ((m / 2 ^ i : Nat) : Int) := rfl
  have hlt : m / 2 ^ i < 4294967296 := Nat.lt_of_le_of_lt (Nat.div_le_self _ _) hm
  have h1 := u32_and_nat (m / 2 ^ i) 1 hlt (by decide)
  rw [e, e2]
  rw [show ((1 : Nat) : Int) = 1 from rfl] at h1
  rw [h1, Nat.and_one_is_mod, Nat.testBit_eq_decide_div_mod_eq]
  by_cases hd : m / 2 ^ i % 2 = 1
  · simp [hd]
  · have : m / 2 ^ i % 2 = 0 := by omega
    simp [this]
theorem Here.keys_ok {s : Sch} {w : World} (h : s.Here w) (hc : s.code = 0) {m : Nat} (hm : (m : Int) ≤ s.F) : Calls Tryz.prog 31 #[s.val, .int .u32 (m : Int)] w fun e w' => e = .returned (.tuple #[.int .u64 (kyP s.ds m s.nd), .bool true]) ∧ Ext w w' := by
 obtain ⟨g0, g1⟩ := good hc
 have hF := F_bd hc
 have hm32 : m < 4294967296 := by omega
 have han := (andNot_full (s := s) hm32 g0.2.1).2 hm
 have hl := h.len
 have hk := kyP_bd m g1
 refine enter Tryz.func31 rfl (by kernel_rfl) ?_
 refine J.seq ?_
 refine J.region ?_
 refine L.boxA (l := [_, _, _, _]) rfl rfl ?_
 intro b1 w1 hb1 hs1 hk1 he1
 iterate 2 refine L.va rfl (X.assign (by conv => lhs; whnf)) ?_
 refine L.nil ?_
 refine J.seq ?_
 refine J.region ?_
 refine L.va rfl ((by first | exact X.loadAgg rfl (range_l hk1) Tryz.underlying26 rfl (by kernel_rfl) | exact X.loadAgg rfl (range_blk hk1) Tryz.underlying26 rfl (by kernel_rfl))) ?_
 refine L.call rfl en_53 rfl ((h.ext he1).full_ok hc) ?_
 rintro e w2 ⟨rfl, he2⟩
 refine ⟨_, rfl, ?_⟩
 have he2 : Ext w1 w2 := he2
 have he02 := he1.trans he2
 have hk2 := hk1.ext he2
 have hd2 := h.hd.ext he02
 refine L.va rfl (X.assign (by conv => lhs; whnf)) ?_
 refine L.nil ?_
 iterate 2 refine J.seq ?_
 refine J.region ?_
 refine L.va rfl (X.move (by conv => lhs; whnf)) ?_
 refine L.va rfl (X.eql rfl rfl) ?_
 refine L.va rfl (X.move (by conv => lhs; whnf)) ?_
 refine L.caseDecF (k := 14) rfl (by omega) ?_
 iterate 2 refine L.va rfl (X.move (by conv => lhs; whnf)) ?_
 refine L.va rfl (X.andNot rfl rfl) ?_
 refine L.va rfl (X.neq rfl rfl) ?_
 refine L.va rfl (X.pickF rfl (by conv => lhs; whnf)) ?_
 refine L.nil ?_
 rw [han]
 refine J.iteF rfl ?_
 refine J.skip ?_
 refine J.seq ?_
 refine J.region ?_
 refine L.va rfl (X.assign (by conv => lhs; whnf)) ?_
 refine L.nil ?_
 iterate 2 refine J.seq ?_
 refine J.region ?_
 refine L.va rfl (X.fieldAddr rfl Tryz.underlying26 rfl sz_22 (by decide)) ?_
 refine L.va rfl (X.load rfl sc_22 (by first | exact Ld.blk hk2 rfl | exact Ld.rd hd2 (by omega))) ?_
 refine L.va rfl (X.len rfl Tryz.underlying22) ?_
 refine L.va rfl (X.move (by conv => lhs; whnf)) ?_
 refine L.nil ?_
 refine J.block ?_
 refine J.loop (X := Nat × Int) [7, 8, 9, 23, 24, 25, 26, 27, 28, 29, 30, 31, 32, 33, 34, 35, 36, 37, 38] (fun x => [(23, .int .i64 (x.1 : Int)), (7, .int .u64 x.2)]) (fun x w' => Ext w2 w' ∧ x.1 ≤ s.nd ∧ x.2 = kyP s.ds m x.1) (fun x => s.nd - x.1) ((0, 1)) (At2 (by first | rfl | exact at_int rfl (by omega) | exact at_slice rfl (by omega) | exact at_int rfl (by simp)) (by first | rfl | exact at_int rfl (by omega) | exact at_slice rfl (by omega) | exact at_int rfl (by simp))) ?_ ?_
 ·exact ⟨Ext.refl _, by dsimp only; omega, rfl⟩
 ·rintro ⟨i, z⟩ g w3 ⟨he3, hi, hz⟩
  dsimp only at hi hz
  have q1 : ((i, z) : Nat × Int).1 = i := rfl
  have q2 : ((i, z) : Nat × Int).2 = z := rfl
  have hk3 := hk2.ext he3
  have hd3 := hd2.ext he3
  have he03 := he02.trans he3
  refine J.seq ?_
  refine J.region ?_
  refine L.va rfl (X.lss rfl rfl) ?_
  refine L.nil ?_
  refine J.seq ?_
  refine J.dec rfl (fun hlt => ?_) (fun hlt => ?_)
  ·have hil : i < s.nd := by dsimp only at hlt; omega
   have hb := hk (i + 1) (by omega)
   have hn : kyP s.ds m (i + 1) = if m.testBit i then kyP s.ds m i * (s.ds.getD i d0).2 else kyP s.ds m i := rfl
   have hbd := szB_at (mono_b (szB_s s.ds) (by omega : i + 1 ≤ s.nd) g1)
   have hrow := dims_row (l := s.ds) (i := i) (by omega)
   have hba := bit_and (m := m) (i := i) hm32 (by omega)
   generalize hdv : (s.ds.getD i d0).2 = dv at *
   refine J.skip ?_
   refine J.seq ?_
   refine J.block ?_
   refine J.seq ?_
   refine J.region ?_
   refine L.va rfl (X.move (by conv => lhs; whnf)) ?_
   refine L.va rfl ((by first | exact X.indexAddrn rfl rfl Tryz.underlying22 sz_54 (by first | exact Option.some_ne_none _ | exact hd3.some_ (by omega)) (by omega) | exact X.indexAddr rfl rfl Tryz.underlying22 sz_54 (by first | exact Option.some_ne_none _ | exact hd3.some_ (by omega)) (by omega))) ?_
   refine L.va rfl (X.loadRow (cs := [.string (s.ds.getD i d0).1, .int .i64 dv]) rfl hd3 hrow (Nat.zero_lt_succ _) Tryz.underlying54 rfl (by kernel_rfl)) ?_
   refine L.alloc rfl zr_54 ?_
   intro b4 w4 hb4 hs4 hk4 he4
   refine L.va rfl (X.assign (by conv => lhs; whnf)) ?_
   refine L.storeAgg (vs := [_, _]) rfl rfl rfl rfl sz_54 (hk4) rfl ?_
   intro w5 hk5 hg5 hs5
   have hz3 := he03.le
   have he35 : Ext w3 w5 := he4.grw hg5 (by intro g hg; injection hg with hg; omega)
   refine L.nil ?_
   refine J.seq ?_
   refine J.region ?_
   iterate 2 refine L.va rfl (X.move (by conv => lhs; whnf)) ?_
   refine L.va rfl (X.shr rfl rfl (by omega)) ?_
   refine L.va rfl (X.and rfl rfl) ?_
   refine L.va rfl (X.eql rfl rfl) ?_
   refine L.nil ?_
   rw [hba]
   cases ht : m.testBit i
   ·rw [ht] at hn
    refine J.iteF rfl ?_
    refine J.skip ?_
    refine J.region ?_
    refine L.va rfl (X.add rfl rfl (by omega)) ?_
    refine L.va rfl (X.move (by conv => lhs; whnf)) ?_
    refine L.nil ?_
    refine ⟨(i + 1, z), At2 (by first | rfl | exact at_int rfl (by omega) | exact at_slice rfl (by omega) | exact at_int rfl (by simp)) (by first | rfl | exact at_int rfl (by omega) | exact at_slice rfl (by omega) | exact at_int rfl (by simp)), (by (iterate 13 refine Agr.lk rfl ?_); exact Agr.lk rfl (Agr.hav rfl Agr.rfl')), ?_⟩
    exact ⟨⟨he3.trans he35, by dsimp only; omega, by dsimp only; rw [hn, hz]; rfl⟩, by dsimp only; omega⟩
   ·rw [ht, if_pos rfl, ← hz] at hn
    rw [hn] at hb
    have hbd' : 1 ≤ dv ∧ dv ≤ 4096 := ⟨hbd.1, hbd.2.1⟩
    have hb' : 0 ≤ ((i, z) : Nat × Int).2 * dv ∧ ((i, z) : Nat × Int).2 * dv ≤ 1099511627776 := hb
    refine J.iteT rfl ?_
    refine J.region ?_
    refine L.va rfl (X.move (by conv => lhs; whnf)) ?_
    refine L.va rfl (X.fieldAddr rfl Tryz.underlying54 rfl sz_3 (by decide)) ?_
    refine L.va rfl (X.load rfl sc_3 (by first | exact Ld.blk hk5 rfl)) ?_
    refine L.va rfl ((by first | exact X.convU rfl is_3 Tryz.underlying48 (by omega) | exact X.convw rfl is_3 Tryz.underlying48)) ?_
    refine L.va rfl (X.mulU rfl rfl (by omega)) ?_
    refine L.va rfl (X.assign (by conv => lhs; whnf)) ?_
    refine L.nil ?_
    refine J.region ?_
    refine L.va rfl (X.add rfl rfl (by omega)) ?_
    refine L.va rfl (X.move (by conv => lhs; whnf)) ?_
    refine L.nil ?_
    refine ⟨(i + 1, z * dv), At2 (by first | rfl | exact at_int rfl (by omega) | exact at_slice rfl (by omega) | exact at_int rfl (by simp)) (by first | rfl | exact at_int rfl (by omega) | exact at_slice rfl (by omega) | exact at_int rfl (by simp)), (by (iterate 19 refine Agr.lk rfl ?_); exact Agr.lk rfl (Agr.hav rfl Agr.rfl')), ?_⟩
    exact ⟨⟨he3.trans he35, by dsimp only; omega, hn.symm⟩, by dsimp only; omega⟩
  ·obtain rfl : i = s.nd := by dsimp only at hlt; omega
   rw [← hz]
   refine J.exit ?_
   refine J.seq ?_
   refine J.region ?_
   refine L.va rfl (X.move (by conv => lhs; whnf)) ?_
   iterate 2 refine L.va rfl (X.assign (by conv => lhs; whnf)) ?_
   refine L.nil ?_
   refine J.ret ?_
   refine fin2 ?_
   exact ⟨rfl, he03⟩
theorem Here.keys_no {s : Sch} {w : World} (h : s.Here w) {m : Nat} (hm32 : m < 4294967296) (hc : s.code = 0 → ¬ (m : Int) ≤ s.F) : Calls Tryz.prog 31 #[s.val, .int .u32 (m : Int)] w fun e w' => e = .returned (.tuple #[.int .u64 0, .bool false]) ∧ Ext w w' := by
 refine enter Tryz.func31 rfl (by kernel_rfl) ?_
 refine J.seq ?_
 refine J.region ?_
 refine L.boxA (l := [_, _, _, _]) rfl rfl ?_
 intro b1 w1 hb1 hs1 hk1 he1
 iterate 2 refine L.va rfl (X.assign (by conv => lhs; whnf)) ?_
 refine L.nil ?_
 refine J.seq ?_
 refine J.region ?_
 refine L.va rfl ((by first | exact X.loadAgg rfl (range_l hk1) Tryz.underlying26 rfl (by kernel_rfl) | exact X.loadAgg rfl (range_blk hk1) Tryz.underlying26 rfl (by kernel_rfl))) ?_
 by_cases hcc : s.code = 0
 ·have g0 := (good hcc).1
  have hF := F_bd hcc
  have han := andNot_full (s := s) hm32 g0.2.1
  have hno := hc hcc
  refine L.call rfl en_53 rfl ((h.ext he1).full_ok hcc) ?_
  rintro e w2 ⟨rfl, he2⟩
  refine ⟨_, rfl, ?_⟩
  have he2 : Ext w1 w2 := he2
  refine L.va rfl (X.assign (by conv => lhs; whnf)) ?_
  refine L.nil ?_
  iterate 2 refine J.seq ?_
  refine J.region ?_
  refine L.va rfl (X.move (by conv => lhs; whnf)) ?_
  refine L.va rfl (X.eql rfl rfl) ?_
  refine L.va rfl (X.move (by conv => lhs; whnf)) ?_
  refine L.caseDecF (k := 14) rfl (by omega) ?_
  iterate 2 refine L.va rfl (X.move (by conv => lhs; whnf)) ?_
  refine L.va rfl (X.andNot rfl rfl) ?_
  refine L.va rfl (X.neq rfl rfl) ?_
  refine L.va rfl (X.pickF rfl (by conv => lhs; whnf)) ?_
  refine L.nil ?_
  refine J.ndecT rfl (by omega) ?_
  refine J.seq ?_
  refine J.region ?_
  iterate 2 refine L.va rfl (X.assign (by conv => lhs; whnf)) ?_
  refine L.nil ?_
  refine J.ret ?_
  refine thn_ret <| ?_
  refine fin2 ?_
  exact ⟨rfl, he1.trans he2⟩
 ·refine L.call rfl en_53 rfl ((h.ext he1).full_no hcc) ?_
  rintro e w2 ⟨rfl, he2⟩
  refine ⟨_, rfl, ?_⟩
  have he2 : Ext w1 w2 := he2
  refine L.va rfl (X.assign (by conv => lhs; whnf)) ?_
  refine L.nil ?_
  iterate 2 refine J.seq ?_
  refine J.region ?_
  refine L.va rfl (X.move (by conv => lhs; whnf)) ?_
  refine L.va rfl (X.eql rfl rfl) ?_
  refine L.va rfl (X.move (by conv => lhs; whnf)) ?_
  refine L.caseDecT (k := 14) rfl (by rfl) ?_
  iterate 4 refine L.no rfl ?_
  refine L.va rfl (X.pickT rfl (by conv => lhs; whnf)) ?_
  refine L.nil ?_
  refine J.iteT rfl ?_
  refine J.seq ?_
  refine J.region ?_
  iterate 2 refine L.va rfl (X.assign (by conv => lhs; whnf)) ?_
  refine L.nil ?_
  refine J.ret ?_
  refine thn_ret <| ?_
  refine fin2 ?_
  exact ⟨rfl, he1.trans he2⟩
theorem Here.rkeys {s : Sch} {w : World} (h : s.Here w) (hc : s.code = 0) {m : Nat} (hm : m < 4294967296) : Calls Tryz.prog 67 #[s.val, .int .u32 (m : Int)] w fun e w' => e = .returned (.int .u64 (kyP s.ds m s.nd)) ∧ Ext w w' :=
  rkeys_any _ _ _ _ _ _ _ m w h.hd (good hc).1.2.1 hm (fun i hi => by have := szB_at (mono_b (szB_s s.ds) (by omega : i + 1 ≤ s.nd) (good hc).2); exact ⟨this.1, this.2.1⟩) (kyP_bd m (good hc).2)
def kv (s : Sch) (m : Nat) : Int := if s.code = 0 ∧ (m : Int) ≤ s.F then kyP s.ds m s.nd else 0
def kb (s : Sch) (m : Nat) : Bool := decide (s.code = 0 ∧ (m : Int) ≤ s.F)
theorem Here.keys {s : Sch} {w : World} (h : s.Here w) {m : Nat} (hm : m < 4294967296) : Calls Tryz.prog 31 #[s.val, .int .u32 (m : Int)] w fun e w' => e = .returned (.tuple #[.int .u64 (s.kv m), .bool (s.kb m)]) ∧ Ext w w' := by
  by_cases hc : s.code = 0 ∧ (m : Int) ≤ s.F
  · rw [kv, kb, if_pos hc, decide_eq_true hc]
    exact h.keys_ok hc.1 hc.2
  · rw [kv, kb, if_neg hc, decide_eq_false hc]
    exact h.keys_no hm (fun h1 h2 => hc ⟨h1, h2⟩)
theorem Here.rsub {s : Sch} {w : World} (hc : s.code = 0) {m : Nat} (hm : m < 4294967296) : Calls Tryz.prog 23 #[.int .u32 (m : Int), .int .u32 s.F] w fun e w' => e = .returned (.bool (decide ((m : Int) ≤ s.F))) ∧ w = w' :=
  rsub_full _ _ s.nd w (by omega) (good hc).1.2.1 rfl
structure Any (s : Sch) (w : World) : Prop where
  hd : Reads w w.heap.size 2 s.Ad s.nd (dimsV s.ds)
  h1 : Reads w w.heap.size 1 s.A1 s.n1 (strs s.s1)
  h2 : Reads w w.heap.size 1 s.A2 s.n2 (strs s.s2)
  hv : Reads w w.heap.size 1 s.Av s.nv (nums .u32 s.zs)
  hzs : ∀ i, 0 ≤ s.zs.getD i 0 ∧ s.zs.getD i 0 < 4294967296
theorem Any.ext {s : Sch} {w w' : World} (h : s.Any w) (he : Ext w w') : s.Any w' :=
  ⟨(h.hd.ext he).here (by decide), (h.h1.ext he).here (by decide), (h.h2.ext he).here (by decide), (h.hv.ext he).here (by decide), h.hzs⟩
theorem Any.here {s : Sch} {w : World} (h : s.Any w) (hle : s.nd ≤ 100 ∧ s.n1 ≤ 100 ∧ s.n2 ≤ 100 ∧ s.nv ≤ 100) : s.Here w := ⟨h.hd, h.h1, h.h2, h.hv, h.hzs, hle⟩
theorem Any.light {s : Sch} {w : World} (h : s.Any w) : Calls Tryz.prog 4 #[s.val] w fun e w' => ∃ b, e = .returned (.bool b) ∧ (b = true → s.nd ≤ 100 ∧ s.n1 ≤ 100 ∧ s.n2 ≤ 100 ∧ s.nv ≤ 100) ∧ Ext w w' :=
  light11 _ _ _ _ _ _ _ _ _ _ _ _ s.ds s.s1 s.s2 w h.hd h.h1 h.h2
end Sch
theorem sch_of {w : World} {vs : List Value} {x : (List (Str × Nm .i64)) × List Str × List Str × List (Nm .u32)} (h : Lay.lies w w.heap.size vs x) :
    ∃ s : Sch, vs = [.slice s.Ad s.nd s.cd, .slice s.A1 s.n1 s.c1, .slice s.A2 s.n2 s.c2, .slice s.Av s.nv s.cv] ∧ s.Any w := by
  obtain ⟨Ad, nd, cd, A1, n1, c1, A2, n2, c2, Av, nv, cv, rfl, g1, g2, g3, g4, hd, h1, h2, hv⟩ := schema4 h
  refine ⟨⟨Ad, nd, cd, A1, n1, c1, A2, n2, c2, Av, nv, cv, _, _, _, zsOf x.2.2.2⟩, rfl, hd, h1, h2, hv, fun i => ?_⟩
  obtain ⟨vs, hvz, hvs⟩ := u32_list x.2.2.2
  show 0 ≤ (zsOf x.2.2.2).getD i 0 ∧ (zsOf x.2.2.2).getD i 0 < 4294967296
  rw [hvz, zl_getD]
  have h3 : vs.getD i 0 < 4294967296 := by
    rcases Nat.lt_or_ge i vs.length with h | h
    · rw [List.getD, List.getElem?_eq_getElem h]; exact hvs _ (List.getElem_mem h)
    · rw [List.getD, List.getElem?_eq_none h]; decide
  omega
def aA : ByteArray := { data := #[97] }
end Go.Proofs.YtpomklkfedpkfaaGreat
namespace Go.Proofs.YtpomklkfedpkfaaGreat
set_option maxRecDepth 100000
open Go.RowKit H
set_option linter.unusedVariables false
theorem lst_eq {α : Type} (d : α) {a b : List α} (h : a.length = b.length) (hP : ∀ j, j < a.length → a.getD j d = b.getD j d) : a = b := by
  apply List.ext_getElem h
  intro i h1 h2
  have := hP i h1
  simpa [List.getD, h1, h2] using this
theorem lst_ne {α : Type} (d : α) {a b : List α} {i : Nat} (h : ¬ a.getD i d = b.getD i d) : ¬ a = b := fun e => h (by rw [e])
end Go.Proofs.YtpomklkfedpkfaaGreat
namespace Go.Proofs.YtpomklkfedpkfaaGreat
set_option maxRecDepth 100000
open Go.RowKit H
open Flo
set_option linter.unusedVariables false
theorem con_atWh {l : List Wh} (i : Nat) : (l.map Wh.con).getD i wc0 = (l.getD i wh0).con := by
  rw [List.getD, List.getD, List.getElem?_map]
  cases l[i]? <;> rfl
theorem con_atRe {l : List Re} (i : Nat) : (l.map Re.con).getD i rc0 = (l.getD i re0).con := by
  rw [List.getD, List.getD, List.getElem?_map]
  cases l[i]? <;> rfl
end Go.Proofs.YtpomklkfedpkfaaGreat
namespace Go.Proofs.YtpomklkfedpkfaaGreat
set_option maxRecDepth 100000
open Go.RowKit H
open Flo
set_option linter.unusedVariables false
theorem rsame02 (A1 : Option Addr) (n1 c1 : Nat) (A2 : Option Addr) (n2 c2 : Nat) (l1 l2 : List (Int)) (w : World) {N : Nat} (h1 : Reads w N 1 A1 n1 (nums .u32 l1)) (h2 : Reads w N 1 A2 n2 (nums .u32 l2)) (g1 : l1.length = n1) (g2 : l2.length = n2) (hn1 : n1 ≤ maxLen) (hn2 : n2 ≤ maxLen) (hN : N ≤ w.heap.size) :
  Calls Tryz.prog 45 #[.slice A1 n1 c1, .slice A2 n2 c2] w fun e w' => e = .returned (.bool (decide (l1 = l2))) ∧ Ext w w' := by
 unfold maxLen at hn1 hn2
 refine enter Tryz.func45 rfl (by kernel_rfl) ?_
 refine J.seq ?_
 refine J.region ?_
 refine L.va rfl (X.assign (by conv => lhs; whnf)) ?_
 refine L.nil ?_
 iterate 2 refine J.seq ?_
 refine J.region ?_
 refine L.va rfl (X.move (by conv => lhs; whnf)) ?_
 refine L.va rfl (X.len rfl Tryz.underlying24) ?_
 refine L.va rfl (X.move (by conv => lhs; whnf)) ?_
 refine L.va rfl (X.len rfl Tryz.underlying24) ?_
 refine L.va rfl (X.neq rfl rfl) ?_
 refine L.nil ?_
 refine J.ndec rfl (fun hne => ?_) (fun hne => ?_)
 ·rw [show decide (l1 = l2) = false from decide_eq_false (fun e => by rw [e] at g1; omega)]
  refine J.seq ?_
  refine J.region ?_
  refine L.va rfl (X.assign (by conv => lhs; whnf)) ?_
  refine L.nil ?_
  refine J.ret ?_
  refine thn_ret <| ?_
  refine fin1 ?_
  exact ⟨rfl, Ext.refl _⟩
 ·obtain rfl : n1 = n2 := by omega
  refine J.skip ?_
  iterate 2 refine J.seq ?_
  refine J.region ?_
  refine L.va rfl (X.assign (by conv => lhs; whnf)) ?_
  refine L.nil ?_
  refine J.block ?_
  refine J.loop (X := Nat) [4, 5, 11, 12, 13, 14, 15, 16, 17, 18, 19, 20, 21, 22, 23, 24, 25] (fun i => [(5, .int .i64 (i : Int))]) (fun i w' => i ≤ n1 ∧ (∀ j, j < i → l1.getD j 0 = l2.getD j 0) ∧ Ext w w') (fun i => n1 - i) (0) (At1 (by first | rfl | exact at_int rfl (by omega) | exact at_slice rfl (by omega) | exact at_int rfl (by simp))) ?_ ?_
  ·exact ⟨by omega, fun j hj => absurd hj (by omega), Ext.refl _⟩
  ·rintro i g w2 ⟨hi, hP, he⟩
   have k1 := h1.ext he
   have k2 := h2.ext he
   iterate 2 refine J.seq ?_
   refine J.region ?_
   iterate 2 refine L.va rfl (X.move (by conv => lhs; whnf)) ?_
   refine L.va rfl (X.len rfl Tryz.underlying24) ?_
   refine L.va rfl (X.lss rfl rfl) ?_
   refine L.nil ?_
   refine J.dec rfl (fun hlt => ?_) (fun hlt => ?_)
   ·have hi1 : i < l1.length := by omega
    have hi2 : i < l2.length := by omega
    refine J.skip ?_
    refine J.seq ?_
    refine J.block ?_
    refine J.seq ?_
    refine J.quiet mixed (by kernel_rfl) ?_
    iterate 2 refine Qt.va rfl (fun w' hw => X.move (by conv => lhs; whnf)) ?_
    refine Qt.va rfl (fun w' hw => (by first | exact X.index1n rfl rfl Tryz.underlying24 sz_27 (by first | exact Option.some_ne_none _ | exact k1.some_ (by omega) | exact k2.some_ (by omega)) (by omega) | exact X.index1 rfl rfl Tryz.underlying24 sz_27 (by first | exact Option.some_ne_none _ | exact k1.some_ (by omega) | exact k2.some_ (by omega)) (by omega))) ?_
    refine Qt.va rfl (fun w' hw => X.load rfl sc_27 (by first | exact Ld.num (k1.ext hw) (by omega) | exact Ld.num (k2.ext hw) (by omega))) ?_
    iterate 2 refine Qt.va rfl (fun w' hw => X.move (by conv => lhs; whnf)) ?_
    refine Qt.va rfl (fun w' hw => (by first | exact X.index1n rfl rfl Tryz.underlying24 sz_27 (by first | exact Option.some_ne_none _ | exact k1.some_ (by omega) | exact k2.some_ (by omega)) (by omega) | exact X.index1 rfl rfl Tryz.underlying24 sz_27 (by first | exact Option.some_ne_none _ | exact k1.some_ (by omega) | exact k2.some_ (by omega)) (by omega))) ?_
    refine Qt.va rfl (fun w' hw => X.load rfl sc_27 (by first | exact Ld.num (k1.ext hw) (by omega) | exact Ld.num (k2.ext hw) (by omega))) ?_
    refine Qt.va rfl (fun w' hw => X.neq rfl rfl) ?_
    refine Qt.nil (fun w3 hq => ?_)
    replace k1 := k1.ext hq
    replace k2 := k2.ext hq
    by_cases hd : l1.getD i 0 = l2.getD i 0
    ·refine J.ndecF rfl (by simpa using hd) ?_
     refine J.skip ?_
     refine J.region ?_
     refine L.va rfl (X.move (by conv => lhs; whnf)) ?_
     refine L.va rfl (X.add rfl rfl (by omega)) ?_
     refine L.va rfl (X.assign (by conv => lhs; whnf)) ?_
     refine L.nil ?_
     refine ⟨i + 1, At1 (by first | rfl | exact at_int rfl (by omega) | exact at_slice rfl (by omega) | exact at_int rfl (by simp)), (by (iterate 16 refine Agr.lk rfl ?_); exact Agr.lk rfl (Agr.hav rfl Agr.rfl')), ?_⟩
     refine ⟨⟨by omega, fun j hj => ?_, he.trans hq⟩, by omega⟩
     rcases Nat.lt_or_ge j i with h | h
     ·exact hP j h
     ·obtain rfl : j = i := by omega
      exact hd
    ·rw [show decide (l1 = l2) = false from decide_eq_false (lst_ne 0 hd)]
     refine J.ndecT rfl (by simpa using hd) ?_
     refine J.seq ?_
     refine J.region ?_
     refine L.va rfl (X.assign (by conv => lhs; whnf)) ?_
     refine L.nil ?_
     refine J.ret ?_
     refine inB_ret <|  thn_ret <|  thn_ret <|  inB_ret <|  thn_ret <| ?_
     refine fin1 ?_
     exact ⟨rfl, he.trans hq⟩
   ·rw [show decide (l1 = l2) = true from decide_eq_true (lst_eq 0 (by omega) (fun j hj => hP j (by omega)))]
    refine J.exit ?_
    refine J.seq ?_
    refine J.region ?_
    refine L.va rfl (X.assign (by conv => lhs; whnf)) ?_
    refine L.nil ?_
    refine J.ret ?_
    refine fin1 ?_
    exact ⟨rfl, he⟩
theorem rsame14 {x y : Ce} {w : World} {N : Nat} (hx : x.At N w) (hy : y.At N w) (hN : N ≤ w.heap.size) (hb : x.ni ≤ 1000000 ∧ x.nr ≤ 1000000) : Calls Tryz.prog 27 #[x.val, y.val] w fun e w' => e = .returned (.bool (sameC x.con y.con)) ∧ Ext w w' := by
 have z0 : (x.k : Int) = (y.k : Int) ↔ x.k = y.k := by omega
 have lxi := hx.li
 have lyi := hy.li
 have lxr := hx.lr
 have lyr := hy.lr
 refine enter Tryz.func27 rfl (by kernel_rfl) ?_
 refine J.seq ?_
 refine J.region ?_
 refine L.boxA (l := [_, _, _, _]) rfl rfl ?_
 intro b1 w1 hb1 hs1 hk1 he1
 refine L.boxA (l := [_, _, _, _]) rfl rfl ?_
 intro b2 w2 hb2 hs2 hk2 he2
 have hk12 := hk1.ext he2
 have he := he1.trans he2
 refine L.va rfl (X.assign (by conv => lhs; whnf)) ?_
 refine L.nil ?_
 iterate 2 refine J.seq ?_
 refine J.region ?_
 refine L.va rfl (X.fieldAddr rfl Tryz.underlying52 rfl sz_48 (by decide)) ?_
 refine L.va rfl (X.load rfl sc_48 (by first | exact Ld.blk hk12 rfl | exact Ld.blk hk2 rfl)) ?_
 refine L.va rfl (X.fieldAddr rfl Tryz.underlying52 rfl sz_48 (by decide)) ?_
 refine L.va rfl (X.load rfl sc_48 (by first | exact Ld.blk hk12 rfl | exact Ld.blk hk2 rfl)) ?_
 refine L.va rfl (X.neq rfl rfl) ?_
 refine L.va rfl (X.move (by conv => lhs; whnf)) ?_
 refine L.caseNdec (k := 16) rfl (fun h1 => ?_) (fun h1 => ?_)
 ·have e : sameC x.con y.con = false := by
   unfold sameC
   rw [show decide (x.con.k = y.con.k) = false from decide_eq_false (fun e => h1 (z0.2 e))]
   rfl
  rw [e]
  iterate 5 refine L.no rfl ?_
  refine L.va rfl (X.pickT rfl (by conv => lhs; whnf)) ?_
  refine L.va rfl (X.move (by conv => lhs; whnf)) ?_
  iterate 7 refine L.no rfl ?_
  refine L.va rfl (X.pickT rfl (by conv => lhs; whnf)) ?_
  refine L.va rfl (X.move (by conv => lhs; whnf)) ?_
  iterate 7 refine L.no rfl ?_
  refine L.va rfl (X.pickT rfl (by conv => lhs; whnf)) ?_
  refine L.nil ?_
  refine J.iteT rfl ?_
  refine J.seq ?_
  refine J.region ?_
  refine L.va rfl (X.assign (by conv => lhs; whnf)) ?_
  refine L.nil ?_
  refine J.ret ?_
  refine thn_ret <| ?_
  refine fin1 ?_
  exact ⟨rfl, he⟩
 ·refine L.va rfl (X.fieldAddr rfl Tryz.underlying52 rfl sz_2 (by decide)) ?_
  refine L.va rfl (X.load rfl sc_2 (by first | exact Ld.blk hk12 rfl | exact Ld.blk hk2 rfl)) ?_
  refine L.va rfl (X.fieldAddr rfl Tryz.underlying52 rfl sz_2 (by decide)) ?_
  refine L.va rfl (X.load rfl sc_2 (by first | exact Ld.blk hk12 rfl | exact Ld.blk hk2 rfl)) ?_
  refine L.va rfl (X.neq rfl rfl) ?_
  refine L.va rfl (X.pickF rfl (by conv => lhs; whnf)) ?_
  refine L.va rfl (X.move (by conv => lhs; whnf)) ?_
  refine L.caseNdec (k := 23) rfl (fun h2 => ?_) (fun h2 => ?_)
  ·have e : sameC x.con y.con = false := by
    unfold sameC
    rw [show decide (x.con.t = y.con.t) = false from decide_eq_false h2, Bool.false_and, Bool.and_false]
   rw [e]
   iterate 7 refine L.no rfl ?_
   refine L.va rfl (X.pickT rfl (by conv => lhs; whnf)) ?_
   refine L.va rfl (X.move (by conv => lhs; whnf)) ?_
   iterate 7 refine L.no rfl ?_
   refine L.va rfl (X.pickT rfl (by conv => lhs; whnf)) ?_
   refine L.nil ?_
   refine J.iteT rfl ?_
   refine J.seq ?_
   refine J.region ?_
   refine L.va rfl (X.assign (by conv => lhs; whnf)) ?_
   refine L.nil ?_
   refine J.ret ?_
   refine thn_ret <| ?_
   refine fin1 ?_
   exact ⟨rfl, he⟩
  ·have h1 : (x.k : Int) = (y.k : Int) := h1
   have h2 : x.t = y.t := h2
   have e1 : sameC x.con y.con = (eqL sameW wc0 x.con.is y.con.is && eqL sameR rc0 x.con.rs y.con.rs) := by
    unfold sameC
    rw [decide_eq_true (show x.con.k = y.con.k from z0.1 h1), decide_eq_true (show x.con.t = y.con.t from h2)]
    rfl
   rw [e1]
   refine L.va rfl (X.fieldAddr rfl Tryz.underlying52 rfl sz_49 (by decide)) ?_
   refine L.va rfl (X.load rfl sc_49 (by first | exact Ld.blk hk12 rfl | exact Ld.blk hk2 rfl)) ?_
   refine L.va rfl (X.len rfl Tryz.underlying49) ?_
   refine L.va rfl (X.fieldAddr rfl Tryz.underlying52 rfl sz_49 (by decide)) ?_
   refine L.va rfl (X.load rfl sc_49 (by first | exact Ld.blk hk12 rfl | exact Ld.blk hk2 rfl)) ?_
   refine L.va rfl (X.len rfl Tryz.underlying49) ?_
   refine L.va rfl (X.neq rfl rfl) ?_
   refine L.va rfl (X.pickF rfl (by conv => lhs; whnf)) ?_
   refine L.va rfl (X.move (by conv => lhs; whnf)) ?_
   refine L.caseNdec (k := 32) rfl (fun h3 => ?_) (fun h3 => ?_)
   ·rw [eqL_len (R := sameW) (d := wc0) (by show (x.is.map Wh.con).length ≠ (y.is.map Wh.con).length; rw [List.length_map, List.length_map]; omega)]
    iterate 7 refine L.no rfl ?_
    refine L.va rfl (X.pickT rfl (by conv => lhs; whnf)) ?_
    refine L.nil ?_
    refine J.iteT rfl ?_
    refine J.seq ?_
    refine J.region ?_
    refine L.va rfl (X.assign (by conv => lhs; whnf)) ?_
    refine L.nil ?_
    refine J.ret ?_
    refine thn_ret <| ?_
    refine fin1 ?_
    exact ⟨rfl, he⟩
   ·refine L.va rfl (X.fieldAddr rfl Tryz.underlying52 rfl sz_50 (by decide)) ?_
    refine L.va rfl (X.load rfl sc_50 (by first | exact Ld.blk hk12 rfl | exact Ld.blk hk2 rfl)) ?_
    refine L.va rfl (X.len rfl Tryz.underlying50) ?_
    refine L.va rfl (X.fieldAddr rfl Tryz.underlying52 rfl sz_50 (by decide)) ?_
    refine L.va rfl (X.load rfl sc_50 (by first | exact Ld.blk hk12 rfl | exact Ld.blk hk2 rfl)) ?_
    refine L.va rfl (X.len rfl Tryz.underlying50) ?_
    refine L.va rfl (X.neq rfl rfl) ?_
    refine L.va rfl (X.pickF rfl (by conv => lhs; whnf)) ?_
    refine L.nil ?_
    refine J.ndec rfl (fun h4 => ?_) (fun h4 => ?_)
    ·rw [eqL_len (R := sameR) (d := rc0) (by show (x.rs.map Re.con).length ≠ (y.rs.map Re.con).length; rw [List.length_map, List.length_map]; omega), Bool.and_false]
     refine J.seq ?_
     refine J.region ?_
     refine L.va rfl (X.assign (by conv => lhs; whnf)) ?_
     refine L.nil ?_
     refine J.ret ?_
     refine thn_ret <| ?_
     refine fin1 ?_
     exact ⟨rfl, he⟩
    ·have hni : x.ni = y.ni := by omega
     refine J.skip ?_
     refine J.cut (X := Unit) [4, 5, 6, 7, 41, 42, 43, 44, 45, 46, 47, 48, 49, 50, 51, 52, 53, 54, 55, 56, 57, 58, 59, 60, 61, 62, 63, 64, 65, 66, 67, 68, 69, 70, 71, 72, 73, 74, 75, 76, 77, 78, 79, 80, 81, 82, 83, 84, 85, 86, 87, 88, 89, 90, 91] (fun _ => []) (fun _ w' => eqL sameW wc0 x.con.is y.con.is = true ∧ Ext w2 w') ?_ ?_
     ·refine J.seq ?_
      refine J.region ?_
      refine L.va rfl (X.assign (by conv => lhs; whnf)) ?_
      refine L.nil ?_
      refine J.block ?_
      refine J.loop (X := Nat) [4, 5, 6, 7, 41, 42, 43, 44, 45, 46, 47, 48, 49, 50, 51, 52, 53, 54, 55, 56, 57, 58, 59, 60, 61, 62, 63, 64, 65, 66, 67, 68, 69, 70, 71, 72, 73, 74, 75, 76, 77, 78, 79, 80, 81, 82, 83, 84, 85, 86, 87, 88, 89, 90, 91] (fun i => [(5, .int .i64 (i : Int))]) (fun i w' => i ≤ x.ni ∧ (∀ j, j < i → sameW (x.is.getD j wh0).con (y.is.getD j wh0).con = true) ∧ Ext w2 w') (fun i => x.ni - i) (0) (At1 (by first | rfl | exact at_int rfl (by omega) | exact at_slice rfl (by omega) | exact at_int rfl (by simp))) ?_ ?_
      ·exact ⟨Nat.zero_le _, fun j hj => absurd hj (by omega), Ext.refl _⟩
      ·rintro i g w3 ⟨hi, hP, he3⟩
       have hk13 := hk12.ext he3
       have hk3 := hk2.ext he3
       have he03 := he.trans he3
       have z3 := he03.le
       iterate 2 refine J.seq ?_
       refine J.region ?_
       refine L.va rfl (X.move (by conv => lhs; whnf)) ?_
       refine L.va rfl (X.fieldAddr rfl Tryz.underlying52 rfl sz_49 (by decide)) ?_
       refine L.va rfl (X.load rfl sc_49 (by first | exact Ld.blk hk13 rfl | exact Ld.blk hk3 rfl)) ?_
       refine L.va rfl (X.len rfl Tryz.underlying49) ?_
       refine L.va rfl (X.lss rfl rfl) ?_
       refine L.nil ?_
       refine J.dec rfl (fun hlt => ?_) (fun hlt => ?_)
       ·have hin : i < x.ni := by omega
        have hra := hx.i.ext he03
        have hrb := hy.i.ext he03
        have hA := hra.some_ (by omega)
        have hB := hrb.some_ (by omega)
        have gx := gtW (l := x.is) (i := i) (by omega)
        have gy := gtW (l := y.is) (i := i) (by omega)
        have hX := (hx.wh (i := i) hin).ext he03
        have hY := (hy.wh (i := i) (by omega)).ext he03
        generalize ex : x.is.getD i wh0 = p at gx hX
        generalize ey : y.is.getD i wh0 = q at gy hY
        refine J.skip ?_
        refine J.seq ?_
        refine J.block ?_
        refine J.cut (X := Nat × Nat) [6, 7, 48, 49, 50, 51, 52, 53, 54, 55, 56, 57] (fun (b6, b7) => [(6, .pointer (some ⟨b6, 0, none⟩)), (7, .pointer (some ⟨b7, 0, none⟩))]) (fun (b6, b7) w' => Blk w' b6 70 p.vs.toArray ∧ Blk w' b7 70 q.vs.toArray ∧ Ext w3 w') ?_ ?_
        ·skip
         refine J.draw (ℓ := 1000000) (S := Ext w3) mixed (fun w4 hS hS_h => ?_)
         refine D.va 0 rfl (by kernel_rfl) (fun _ _ _ h => h) rfl (fun w' hw => X.fieldAddr rfl Tryz.underlying52 rfl sz_49 (by decide)) hS ?_
         refine D.va 1 rfl (by kernel_rfl) (fun _ _ _ h => h) rfl (fun w' hw => X.load rfl sc_49 (by first | exact Ld.blk (hk13.ext hw) rfl | exact Ld.blk (hk3.ext hw) rfl | exact hA | exact hB)) hS ?_
         refine D.va 2 rfl (by kernel_rfl) (fun _ _ _ h => h) rfl (fun w' hw => X.move (by conv => lhs; whnf)) hS ?_
         refine D.va 3 rfl (by kernel_rfl) (fun _ _ _ h => h) rfl (fun w' hw => (by first | exact X.indexAddrn rfl rfl Tryz.underlying49 sz_70 (by first | exact Option.some_ne_none _ | exact hA | exact hB) (by omega) | exact X.indexAddr rfl rfl Tryz.underlying49 sz_70 (by first | exact Option.some_ne_none _ | exact hA | exact hB) (by omega))) hS ?_
         refine D.va 4 rfl (by kernel_rfl) (fun _ _ _ h => h) rfl (fun w' hw => X.loadRow (cs := p.vs) rfl (hra.ext hw) (fun r u hu => flat_row wh_len gx r u hu) (Nat.zero_lt_succ _) Tryz.underlying70 rfl (by kernel_rfl)) hS ?_
         refine D.va 5 rfl (by kernel_rfl) (fun _ _ _ h => h) rfl (fun w' hw => X.fieldAddr rfl Tryz.underlying52 rfl sz_49 (by decide)) hS ?_
         refine D.va 6 rfl (by kernel_rfl) (fun _ _ _ h => h) rfl (fun w' hw => X.load rfl sc_49 (by first | exact Ld.blk (hk13.ext hw) rfl | exact Ld.blk (hk3.ext hw) rfl | exact hA | exact hB)) hS ?_
         refine D.va 7 rfl (by kernel_rfl) (fun _ _ _ h => h) rfl (fun w' hw => X.move (by conv => lhs; whnf)) hS ?_
         refine D.va 8 rfl (by kernel_rfl) (fun _ _ _ h => h) rfl (fun w' hw => (by first | exact X.indexAddrn rfl rfl Tryz.underlying49 sz_70 (by first | exact Option.some_ne_none _ | exact hA | exact hB) (by omega) | exact X.indexAddr rfl rfl Tryz.underlying49 sz_70 (by first | exact Option.some_ne_none _ | exact hA | exact hB) (by omega))) hS ?_
         refine D.va 9 rfl (by kernel_rfl) (fun _ _ _ h => h) rfl (fun w' hw => X.loadRow (cs := q.vs) rfl (hrb.ext hw) (fun r u hu => flat_row wh_len gy r u hu) (Nat.zero_lt_succ _) Tryz.underlying70 rfl (by kernel_rfl)) hS ?_
         refine D.two 10 11 (by kernel_rfl) rfl rfl ?_ ?_
         ·refine L.alloc rfl zr_70 ?_
          intro b6 w6 hb6 hs6 hk6 he6
          have hS1 := hS.trans he6
          refine L.nil ?_
          refine ⟨fun _ => hS1, ?_⟩
          refine D.one 11 (by kernel_rfl) rfl ?_
          refine L.alloc rfl zr_70 ?_
          intro b7 w7 hb7 hs7 hk7 he7
          have hS2 := hS1.trans he7
          refine L.nil ?_
          refine ⟨fun _ => hS2, ?_⟩
          have hk67 := hk6.ext he7
          have zS := hS.le
          refine D.one 12 (by kernel_rfl) rfl ?_
          refine L.storeAgg (vs := [_, _, _, _, _]) rfl rfl rfl rfl sz_70 (hk67) rfl ?_
          intro w8 hk8 hg8 hs8
          have hS3 := hS2.grw hg8 (by intro g hg; injection hg with hg; omega)
          refine L.nil ?_
          refine ⟨fun _ => hS3, ?_⟩
          have hk78 := hk7.grown hg8 (by intro e; injection e with e; omega)
          refine D.one 13 (by kernel_rfl) rfl ?_
          refine L.storeAgg (vs := [_, _, _, _, _]) rfl rfl rfl rfl sz_70 (hk78) rfl ?_
          intro w9 hk9 hg9 hs9
          have hS4 := hS3.grw hg9 (by intro g hg; injection hg with hg; omega)
          refine L.nil ?_
          refine ⟨fun _ => hS4, ?_⟩
          have hk89 := hk8.grown hg9 (by intro e; injection e with e; omega)
          refine D.done (by kernel_rfl) ?_
          replace hk13 := hk13.ext hS4
          replace hk3 := hk3.ext hS4
          refine ⟨(b6, b7), At2 (by first | rfl | exact at_int rfl (by omega) | exact at_slice rfl (by omega) | exact at_int rfl (by simp)) (by first | rfl | exact at_int rfl (by omega) | exact at_slice rfl (by omega) | exact at_int rfl (by simp)), (by (iterate 12 refine Agr.lk rfl ?_); exact Agr.rfl'), ?_⟩
          exact ⟨hk89, hk9, hS4⟩
         ·refine L.alloc rfl zr_70 ?_
          intro b7 w7 hb7 hs7 hk7 he7
          have hS1 := hS.trans he7
          refine L.nil ?_
          refine ⟨fun _ => hS1, ?_⟩
          refine D.one 10 (by kernel_rfl) rfl ?_
          refine L.alloc rfl zr_70 ?_
          intro b6 w6 hb6 hs6 hk6 he6
          have hS2 := hS1.trans he6
          refine L.nil ?_
          refine ⟨fun _ => hS2, ?_⟩
          have hk76 := hk7.ext he6
          have zS := hS.le
          refine D.one 12 (by kernel_rfl) rfl ?_
          refine L.storeAgg (vs := [_, _, _, _, _]) rfl rfl rfl rfl sz_70 (hk6) rfl ?_
          intro w8 hk8 hg8 hs8
          have hS3 := hS2.grw hg8 (by intro g hg; injection hg with hg; omega)
          refine L.nil ?_
          refine ⟨fun _ => hS3, ?_⟩
          have hk78 := hk76.grown hg8 (by intro e; injection e with e; omega)
          refine D.one 13 (by kernel_rfl) rfl ?_
          refine L.storeAgg (vs := [_, _, _, _, _]) rfl rfl rfl rfl sz_70 (hk78) rfl ?_
          intro w9 hk9 hg9 hs9
          have hS4 := hS3.grw hg9 (by intro g hg; injection hg with hg; omega)
          refine L.nil ?_
          refine ⟨fun _ => hS4, ?_⟩
          have hk89 := hk8.grown hg9 (by intro e; injection e with e; omega)
          refine D.done (by kernel_rfl) ?_
          replace hk13 := hk13.ext hS4
          replace hk3 := hk3.ext hS4
          refine ⟨(b6, b7), At2 (by first | rfl | exact at_int rfl (by omega) | exact at_slice rfl (by omega) | exact at_int rfl (by simp)) (by first | rfl | exact at_int rfl (by omega) | exact at_slice rfl (by omega) | exact at_int rfl (by simp)), (by (iterate 12 refine Agr.lk rfl ?_); exact Agr.rfl'), ?_⟩
          exact ⟨hk89, hk9, hS4⟩
        ·rintro ⟨b6, b7⟩ g w4 ⟨kp, kq, he4⟩
         have z4 := he4.le
         have hk14 := hk13.ext he4
         have hk4 := hk3.ext he4
         have hP4 := hX.ext he4
         have hQ4 := hY.ext he4
         have he04 := he03.trans he4
         have eNo : sameW p.con q.con = false → eqL sameW wc0 x.con.is y.con.is = false := fun h => eqL_no (i := i) (by show i < (x.is.map Wh.con).length; rw [List.length_map]; omega) (by
          show sameW ((x.is.map Wh.con).getD i wc0) ((y.is.map Wh.con).getD i wc0) = false
          rw [con_atWh, con_atWh, ex, ey]
          exact h)
         refine J.seq ?_
         refine J.region ?_
         refine L.va rfl (X.fieldAddr rfl Tryz.underlying70 rfl sz_2 (by decide)) ?_
         refine L.va rfl (X.load rfl sc_2 (by first | exact Ld.blk kp rfl | exact Ld.blk kq rfl)) ?_
         refine L.va rfl (X.fieldAddr rfl Tryz.underlying70 rfl sz_2 (by decide)) ?_
         refine L.va rfl (X.load rfl sc_2 (by first | exact Ld.blk kp rfl | exact Ld.blk kq rfl)) ?_
         refine L.va rfl (X.neq rfl rfl) ?_
         refine L.va rfl (X.move (by conv => lhs; whnf)) ?_
         refine L.caseNdec (k := 63) rfl (fun g1 => ?_) (fun g1 => ?_)
         ·rw [eNo (by unfold sameW; exact decide_eq_false (fun h => g1 (congrArg (fun z : WC => z.1) h))), Bool.false_and]
          iterate 5 refine L.no rfl ?_
          refine L.va rfl (X.pickT rfl (by conv => lhs; whnf)) ?_
          refine L.va rfl (X.move (by conv => lhs; whnf)) ?_
          iterate 5 refine L.no rfl ?_
          refine L.va rfl (X.pickT rfl (by conv => lhs; whnf)) ?_
          refine L.va rfl (X.move (by conv => lhs; whnf)) ?_
          iterate 5 refine L.no rfl ?_
          refine L.va rfl (X.pickT rfl (by conv => lhs; whnf)) ?_
          refine L.va rfl (X.move (by conv => lhs; whnf)) ?_
          iterate 6 refine L.no rfl ?_
          refine L.va rfl (X.pickT rfl (by conv => lhs; whnf)) ?_
          refine L.nil ?_
          refine J.iteT rfl ?_
          refine J.seq ?_
          refine J.region ?_
          refine L.va rfl (X.assign (by conv => lhs; whnf)) ?_
          refine L.nil ?_
          refine J.ret ?_
          refine inB_ret <|  thn_ret <|  thn_ret <|  inB_ret <|  thn_ret <| ?_
          refine fin1 ?_
          exact ⟨rfl, he04⟩
         ·refine L.va rfl (X.fieldAddr rfl Tryz.underlying70 rfl sz_2 (by decide)) ?_
          refine L.va rfl (X.load rfl sc_2 (by first | exact Ld.blk kp rfl | exact Ld.blk kq rfl)) ?_
          refine L.va rfl (X.fieldAddr rfl Tryz.underlying70 rfl sz_2 (by decide)) ?_
          refine L.va rfl (X.load rfl sc_2 (by first | exact Ld.blk kp rfl | exact Ld.blk kq rfl)) ?_
          refine L.va rfl (X.neq rfl rfl) ?_
          refine L.va rfl (X.pickF rfl (by conv => lhs; whnf)) ?_
          refine L.va rfl (X.move (by conv => lhs; whnf)) ?_
          refine L.caseNdec (k := 70) rfl (fun g2 => ?_) (fun g2 => ?_)
          ·rw [eNo (by unfold sameW; exact decide_eq_false (fun h => g2 (congrArg (fun z : WC => z.2.1) h))), Bool.false_and]
           iterate 5 refine L.no rfl ?_
           refine L.va rfl (X.pickT rfl (by conv => lhs; whnf)) ?_
           refine L.va rfl (X.move (by conv => lhs; whnf)) ?_
           iterate 5 refine L.no rfl ?_
           refine L.va rfl (X.pickT rfl (by conv => lhs; whnf)) ?_
           refine L.va rfl (X.move (by conv => lhs; whnf)) ?_
           iterate 6 refine L.no rfl ?_
           refine L.va rfl (X.pickT rfl (by conv => lhs; whnf)) ?_
           refine L.nil ?_
           refine J.iteT rfl ?_
           refine J.seq ?_
           refine J.region ?_
           refine L.va rfl (X.assign (by conv => lhs; whnf)) ?_
           refine L.nil ?_
           refine J.ret ?_
           refine inB_ret <|  thn_ret <|  thn_ret <|  inB_ret <|  thn_ret <| ?_
           refine fin1 ?_
           exact ⟨rfl, he04⟩
          ·refine L.va rfl (X.fieldAddr rfl Tryz.underlying70 rfl sz_2 (by decide)) ?_
           refine L.va rfl (X.load rfl sc_2 (by first | exact Ld.blk kp rfl | exact Ld.blk kq rfl)) ?_
           refine L.va rfl (X.fieldAddr rfl Tryz.underlying70 rfl sz_2 (by decide)) ?_
           refine L.va rfl (X.load rfl sc_2 (by first | exact Ld.blk kp rfl | exact Ld.blk kq rfl)) ?_
           refine L.va rfl (X.neq rfl rfl) ?_
           refine L.va rfl (X.pickF rfl (by conv => lhs; whnf)) ?_
           refine L.va rfl (X.move (by conv => lhs; whnf)) ?_
           refine L.caseNdec (k := 77) rfl (fun g3 => ?_) (fun g3 => ?_)
           ·rw [eNo (by unfold sameW; exact decide_eq_false (fun h => g3 (congrArg (fun z : WC => z.2.2.2.1) h))), Bool.false_and]
            iterate 5 refine L.no rfl ?_
            refine L.va rfl (X.pickT rfl (by conv => lhs; whnf)) ?_
            refine L.va rfl (X.move (by conv => lhs; whnf)) ?_
            iterate 6 refine L.no rfl ?_
            refine L.va rfl (X.pickT rfl (by conv => lhs; whnf)) ?_
            refine L.nil ?_
            refine J.iteT rfl ?_
            refine J.seq ?_
            refine J.region ?_
            refine L.va rfl (X.assign (by conv => lhs; whnf)) ?_
            refine L.nil ?_
            refine J.ret ?_
            refine inB_ret <|  thn_ret <|  thn_ret <|  inB_ret <|  thn_ret <| ?_
            refine fin1 ?_
            exact ⟨rfl, he04⟩
           ·refine L.va rfl (X.fieldAddr rfl Tryz.underlying70 rfl sz_2 (by decide)) ?_
            refine L.va rfl (X.load rfl sc_2 (by first | exact Ld.blk kp rfl | exact Ld.blk kq rfl)) ?_
            refine L.va rfl (X.fieldAddr rfl Tryz.underlying70 rfl sz_2 (by decide)) ?_
            refine L.va rfl (X.load rfl sc_2 (by first | exact Ld.blk kp rfl | exact Ld.blk kq rfl)) ?_
            refine L.va rfl (X.neq rfl rfl) ?_
            refine L.va rfl (X.pickF rfl (by conv => lhs; whnf)) ?_
            refine L.va rfl (X.move (by conv => lhs; whnf)) ?_
            refine L.caseNdec (k := 84) rfl (fun g4 => ?_) (fun g4 => ?_)
            ·rw [eNo (by unfold sameW; exact decide_eq_false (fun h => g4 (congrArg (fun z : WC => z.2.2.2.2) h))), Bool.false_and]
             iterate 6 refine L.no rfl ?_
             refine L.va rfl (X.pickT rfl (by conv => lhs; whnf)) ?_
             refine L.nil ?_
             refine J.iteT rfl ?_
             refine J.seq ?_
             refine J.region ?_
             refine L.va rfl (X.assign (by conv => lhs; whnf)) ?_
             refine L.nil ?_
             refine J.ret ?_
             refine inB_ret <|  thn_ret <|  thn_ret <|  inB_ret <|  thn_ret <| ?_
             refine fin1 ?_
             exact ⟨rfl, he04⟩
            ·refine L.va rfl (X.fieldAddr rfl Tryz.underlying70 rfl sz_24 (by decide)) ?_
             refine L.va rfl (X.load rfl sc_24 (by first | exact Ld.blk kp rfl | exact Ld.blk kq rfl)) ?_
             refine L.va rfl (X.fieldAddr rfl Tryz.underlying70 rfl sz_24 (by decide)) ?_
             refine L.va rfl (X.load rfl sc_24 (by first | exact Ld.blk kp rfl | exact Ld.blk kq rfl)) ?_
             have cS := rsame02 p.A p.n p.c q.A q.n q.c p.q q.q w4 hP4.r hQ4.r hP4.len hQ4.len hP4.m hQ4.m (by omega)
             by_cases g5 : p.q = q.q
             ·rw [decide_eq_true g5] at cS
              refine L.call rfl en_45 rfl (cS) ?_
              rintro e w5 ⟨rfl, he5⟩
              refine ⟨_, rfl, ?_⟩
              have hk15 := hk14.ext he5
              have hk5 := hk4.ext he5
              refine L.va rfl (X.not rfl) ?_
              refine L.va rfl (X.pickF rfl (by conv => lhs; whnf)) ?_
              refine L.nil ?_
              refine J.iteF rfl ?_
              refine J.skip ?_
              refine J.region ?_
              refine L.va rfl (X.move (by conv => lhs; whnf)) ?_
              refine L.va rfl (X.add rfl rfl (by omega)) ?_
              refine L.va rfl (X.assign (by conv => lhs; whnf)) ?_
              refine L.nil ?_
              refine ⟨i + 1, At1 (by first | rfl | exact at_int rfl (by omega) | exact at_slice rfl (by omega) | exact at_int rfl (by simp)), (by (iterate 41 refine Agr.lk rfl ?_); refine Agr.lk rfl ?_; refine Agr.hav rfl ?_; (iterate 5 refine Agr.lk rfl ?_); exact Agr.lk rfl (Agr.hav rfl Agr.rfl')), ?_⟩
              have e : p.con = q.con := by
               show (p.s, p.a, p.q, p.lo, p.hi) = (q.s, q.a, q.q, q.lo, q.hi)
               rw [show p.s = q.s from g1, show p.a = q.a from g2, show p.lo = q.lo from g3, show p.hi = q.hi from g4, g5]
              refine ⟨⟨by omega, fun j hj => ?_, (he3.trans he4).trans he5⟩, by omega⟩
              rcases Nat.lt_or_ge j i with h | h
              ·exact hP j h
              ·obtain rfl : j = i := by omega
               rw [ex, ey, e]
               exact decide_eq_true rfl
             ·rw [decide_eq_false g5] at cS
              rw [eNo (by unfold sameW; exact decide_eq_false (fun h => g5 (congrArg (fun z : WC => z.2.2.1) h))), Bool.false_and]
              refine L.call rfl en_45 rfl (cS) ?_
              rintro e w5 ⟨rfl, he5⟩
              refine ⟨_, rfl, ?_⟩
              refine L.va rfl (X.not rfl) ?_
              refine L.va rfl (X.pickF rfl (by conv => lhs; whnf)) ?_
              refine L.nil ?_
              refine J.iteT rfl ?_
              refine J.seq ?_
              refine J.region ?_
              refine L.va rfl (X.assign (by conv => lhs; whnf)) ?_
              refine L.nil ?_
              refine J.ret ?_
              refine inB_ret <|  thn_ret <|  thn_ret <|  inB_ret <|  thn_ret <| ?_
              refine fin1 ?_
              exact ⟨rfl, he04.trans he5⟩
       ·refine J.exit ?_
        refine ⟨(), At0 , (by (iterate 5 refine Agr.lk rfl ?_); refine Agr.lk rfl ?_; refine Agr.hav rfl ?_; (iterate 1 refine Agr.lk rfl ?_); exact Agr.rfl'), ?_⟩
        obtain rfl : i = x.ni := by omega
        refine ⟨eqL_yes (by show (x.is.map Wh.con).length = (y.is.map Wh.con).length; rw [List.length_map, List.length_map]; omega) (fun j hj => ?_), he3⟩
        show sameW ((x.is.map Wh.con).getD j wc0) ((y.is.map Wh.con).getD j wc0) = true
        rw [con_atWh, con_atWh]
        exact hP j (by have : j < (x.is.map Wh.con).length := hj; rw [List.length_map] at this; omega)
     ·rintro _ g w3 ⟨hE1, he3⟩
      rw [hE1, Bool.true_and]
      have hnr : x.nr = y.nr := by omega
      have hk13 := hk12.ext he3
      have hk3 := hk2.ext he3
      have he03 := he.trans he3
      have z3 := he03.le
      iterate 2 refine J.seq ?_
      refine J.region ?_
      refine L.va rfl (X.assign (by conv => lhs; whnf)) ?_
      refine L.nil ?_
      refine J.block ?_
      refine J.loop (X := Nat) [4, 8, 9, 10, 92, 93, 94, 95, 96, 97, 98, 99, 100, 101, 102, 103, 104, 105, 106, 107, 108, 109, 110, 111, 112, 113, 114, 115, 116, 117, 118, 119, 120, 121, 122, 123, 124, 125, 126, 127, 128, 129, 130, 131] (fun i => [(8, .int .i64 (i : Int))]) (fun i w' => i ≤ x.nr ∧ (∀ j, j < i → sameR (x.rs.getD j re0).con (y.rs.getD j re0).con = true) ∧ Ext w3 w') (fun i => x.nr - i) (0) (At1 (by first | rfl | exact at_int rfl (by omega) | exact at_slice rfl (by omega) | exact at_int rfl (by simp))) ?_ ?_
      ·exact ⟨Nat.zero_le _, fun j hj => absurd hj (by omega), Ext.refl _⟩
      ·rintro i g w4 ⟨hi, hP, he4⟩
       have hk14 := hk13.ext he4
       have hk4 := hk3.ext he4
       have he04 := he03.trans he4
       have z4 := he04.le
       iterate 2 refine J.seq ?_
       refine J.region ?_
       refine L.va rfl (X.move (by conv => lhs; whnf)) ?_
       refine L.va rfl (X.fieldAddr rfl Tryz.underlying52 rfl sz_50 (by decide)) ?_
       refine L.va rfl (X.load rfl sc_50 (by first | exact Ld.blk hk14 rfl | exact Ld.blk hk4 rfl)) ?_
       refine L.va rfl (X.len rfl Tryz.underlying50) ?_
       refine L.va rfl (X.lss rfl rfl) ?_
       refine L.nil ?_
       refine J.dec rfl (fun hlt => ?_) (fun hlt => ?_)
       ·have hin : i < x.nr := by omega
        have hra := hx.r.ext he04
        have hrb := hy.r.ext he04
        have hA := hra.some_ (by omega)
        have hB := hrb.some_ (by omega)
        have gx := gtR (l := x.rs) (i := i) (by omega)
        have gy := gtR (l := y.rs) (i := i) (by omega)
        have hX := (hx.re (i := i) hin).ext he04
        have hY := (hy.re (i := i) (by omega)).ext he04
        generalize ex : x.rs.getD i re0 = p at gx hX
        generalize ey : y.rs.getD i re0 = q at gy hY
        refine J.skip ?_
        refine J.seq ?_
        refine J.block ?_
        refine J.cut (X := Nat × Nat) [9, 10, 99, 100, 101, 102, 103, 104, 105, 106, 107, 108] (fun (b6, b7) => [(9, .pointer (some ⟨b6, 0, none⟩)), (10, .pointer (some ⟨b7, 0, none⟩))]) (fun (b6, b7) w' => Blk w' b6 74 p.vs.toArray ∧ Blk w' b7 74 q.vs.toArray ∧ Ext w4 w') ?_ ?_
        ·skip
         refine J.draw (ℓ := 1000000) (S := Ext w4) mixed (fun w5 hS hS_h => ?_)
         refine D.va 0 rfl (by kernel_rfl) (fun _ _ _ h => h) rfl (fun w' hw => X.fieldAddr rfl Tryz.underlying52 rfl sz_50 (by decide)) hS ?_
         refine D.va 1 rfl (by kernel_rfl) (fun _ _ _ h => h) rfl (fun w' hw => X.load rfl sc_50 (by first | exact Ld.blk (hk14.ext hw) rfl | exact Ld.blk (hk4.ext hw) rfl | exact hA | exact hB)) hS ?_
         refine D.va 2 rfl (by kernel_rfl) (fun _ _ _ h => h) rfl (fun w' hw => X.move (by conv => lhs; whnf)) hS ?_
         refine D.va 3 rfl (by kernel_rfl) (fun _ _ _ h => h) rfl (fun w' hw => (by first | exact X.indexAddrn rfl rfl Tryz.underlying50 sz_74 (by first | exact Option.some_ne_none _ | exact hA | exact hB) (by omega) | exact X.indexAddr rfl rfl Tryz.underlying50 sz_74 (by first | exact Option.some_ne_none _ | exact hA | exact hB) (by omega))) hS ?_
         refine D.va 4 rfl (by kernel_rfl) (fun _ _ _ h => h) rfl (fun w' hw => X.loadRow (cs := p.vs) rfl (hra.ext hw) (fun r u hu => flat_row re_len gx r u hu) (Nat.zero_lt_succ _) Tryz.underlying74 rfl (by kernel_rfl)) hS ?_
         refine D.va 5 rfl (by kernel_rfl) (fun _ _ _ h => h) rfl (fun w' hw => X.fieldAddr rfl Tryz.underlying52 rfl sz_50 (by decide)) hS ?_
         refine D.va 6 rfl (by kernel_rfl) (fun _ _ _ h => h) rfl (fun w' hw => X.load rfl sc_50 (by first | exact Ld.blk (hk14.ext hw) rfl | exact Ld.blk (hk4.ext hw) rfl | exact hA | exact hB)) hS ?_
         refine D.va 7 rfl (by kernel_rfl) (fun _ _ _ h => h) rfl (fun w' hw => X.move (by conv => lhs; whnf)) hS ?_
         refine D.va 8 rfl (by kernel_rfl) (fun _ _ _ h => h) rfl (fun w' hw => (by first | exact X.indexAddrn rfl rfl Tryz.underlying50 sz_74 (by first | exact Option.some_ne_none _ | exact hA | exact hB) (by omega) | exact X.indexAddr rfl rfl Tryz.underlying50 sz_74 (by first | exact Option.some_ne_none _ | exact hA | exact hB) (by omega))) hS ?_
         refine D.va 9 rfl (by kernel_rfl) (fun _ _ _ h => h) rfl (fun w' hw => X.loadRow (cs := q.vs) rfl (hrb.ext hw) (fun r u hu => flat_row re_len gy r u hu) (Nat.zero_lt_succ _) Tryz.underlying74 rfl (by kernel_rfl)) hS ?_
         refine D.two 10 11 (by kernel_rfl) rfl rfl ?_ ?_
         ·refine L.alloc rfl zr_74 ?_
          intro b6 w6 hb6 hs6 hk6 he6
          have hS1 := hS.trans he6
          refine L.nil ?_
          refine ⟨fun _ => hS1, ?_⟩
          refine D.one 11 (by kernel_rfl) rfl ?_
          refine L.alloc rfl zr_74 ?_
          intro b7 w7 hb7 hs7 hk7 he7
          have hS2 := hS1.trans he7
          refine L.nil ?_
          refine ⟨fun _ => hS2, ?_⟩
          have hk67 := hk6.ext he7
          have zS := hS.le
          refine D.one 12 (by kernel_rfl) rfl ?_
          refine L.storeAgg (vs := [_, _, _]) rfl rfl rfl rfl sz_74 (hk67) rfl ?_
          intro w8 hk8 hg8 hs8
          have hS3 := hS2.grw hg8 (by intro g hg; injection hg with hg; omega)
          refine L.nil ?_
          refine ⟨fun _ => hS3, ?_⟩
          have hk78 := hk7.grown hg8 (by intro e; injection e with e; omega)
          refine D.one 13 (by kernel_rfl) rfl ?_
          refine L.storeAgg (vs := [_, _, _]) rfl rfl rfl rfl sz_74 (hk78) rfl ?_
          intro w9 hk9 hg9 hs9
          have hS4 := hS3.grw hg9 (by intro g hg; injection hg with hg; omega)
          refine L.nil ?_
          refine ⟨fun _ => hS4, ?_⟩
          have hk89 := hk8.grown hg9 (by intro e; injection e with e; omega)
          refine D.done (by kernel_rfl) ?_
          replace hk14 := hk14.ext hS4
          replace hk4 := hk4.ext hS4
          refine ⟨(b6, b7), At2 (by first | rfl | exact at_int rfl (by omega) | exact at_slice rfl (by omega) | exact at_int rfl (by simp)) (by first | rfl | exact at_int rfl (by omega) | exact at_slice rfl (by omega) | exact at_int rfl (by simp)), (by (iterate 12 refine Agr.lk rfl ?_); exact Agr.rfl'), ?_⟩
          exact ⟨hk89, hk9, hS4⟩
         ·refine L.alloc rfl zr_74 ?_
          intro b7 w7 hb7 hs7 hk7 he7
          have hS1 := hS.trans he7
          refine L.nil ?_
          refine ⟨fun _ => hS1, ?_⟩
          refine D.one 10 (by kernel_rfl) rfl ?_
          refine L.alloc rfl zr_74 ?_
          intro b6 w6 hb6 hs6 hk6 he6
          have hS2 := hS1.trans he6
          refine L.nil ?_
          refine ⟨fun _ => hS2, ?_⟩
          have hk76 := hk7.ext he6
          have zS := hS.le
          refine D.one 12 (by kernel_rfl) rfl ?_
          refine L.storeAgg (vs := [_, _, _]) rfl rfl rfl rfl sz_74 (hk6) rfl ?_
          intro w8 hk8 hg8 hs8
          have hS3 := hS2.grw hg8 (by intro g hg; injection hg with hg; omega)
          refine L.nil ?_
          refine ⟨fun _ => hS3, ?_⟩
          have hk78 := hk76.grown hg8 (by intro e; injection e with e; omega)
          refine D.one 13 (by kernel_rfl) rfl ?_
          refine L.storeAgg (vs := [_, _, _]) rfl rfl rfl rfl sz_74 (hk78) rfl ?_
          intro w9 hk9 hg9 hs9
          have hS4 := hS3.grw hg9 (by intro g hg; injection hg with hg; omega)
          refine L.nil ?_
          refine ⟨fun _ => hS4, ?_⟩
          have hk89 := hk8.grown hg9 (by intro e; injection e with e; omega)
          refine D.done (by kernel_rfl) ?_
          replace hk14 := hk14.ext hS4
          replace hk4 := hk4.ext hS4
          refine ⟨(b6, b7), At2 (by first | rfl | exact at_int rfl (by omega) | exact at_slice rfl (by omega) | exact at_int rfl (by simp)) (by first | rfl | exact at_int rfl (by omega) | exact at_slice rfl (by omega) | exact at_int rfl (by simp)), (by (iterate 12 refine Agr.lk rfl ?_); exact Agr.rfl'), ?_⟩
          exact ⟨hk89, hk9, hS4⟩
        ·rintro ⟨b6, b7⟩ g w5 ⟨kp, kq, he5⟩
         have z5 := he5.le
         have hk15 := hk14.ext he5
         have hk5 := hk4.ext he5
         have hP5 := hX.ext he5
         have hQ5 := hY.ext he5
         have he05 := he04.trans he5
         have eNo : sameR p.con q.con = false → eqL sameR rc0 x.con.rs y.con.rs = false := fun h => eqL_no (i := i) (by show i < (x.rs.map Re.con).length; rw [List.length_map]; omega) (by
          show sameR ((x.rs.map Re.con).getD i rc0) ((y.rs.map Re.con).getD i rc0) = false
          rw [con_atRe, con_atRe, ex, ey]
          exact h)
         have r1 : sameR p.con q.con = (decide (p.b = q.b) && (sameF p.lo q.lo && sameF p.hi q.hi)) := rfl
         refine J.seq ?_
         refine J.region ?_
         refine L.va rfl (X.fieldAddr rfl Tryz.underlying74 rfl sz_71 (by decide)) ?_
         refine L.va rfl (X.load rfl sc_71 (by first | exact Ld.blk kp rfl | exact Ld.blk kq rfl)) ?_
         refine L.va rfl (X.conv rfl (hP5.r.conv Tryz.underlying71 Tryz.underlying5 Tryz.underlying9)) ?_
         refine L.va rfl (X.fieldAddr rfl Tryz.underlying74 rfl sz_71 (by decide)) ?_
         refine L.va rfl (X.load rfl sc_71 (by first | exact Ld.blk kp rfl | exact Ld.blk kq rfl)) ?_
         refine L.va rfl (X.conv rfl (hQ5.r.conv Tryz.underlying71 Tryz.underlying5 Tryz.underlying9)) ?_
         refine L.va rfl (X.neqS rfl rfl) ?_
         refine L.va rfl (X.move (by conv => lhs; whnf)) ?_
         refine L.caseNdec (k := 116) rfl (fun g1 => ?_) (fun g1 => ?_)
         ·rw [eNo (by rw [r1, decide_eq_false (fun h => g1 (by rw [h]))]; rfl)]
          iterate 6 refine L.no rfl ?_
          refine L.va rfl (X.pickT rfl (by conv => lhs; whnf)) ?_
          refine L.va rfl (X.move (by conv => lhs; whnf)) ?_
          iterate 6 refine L.no rfl ?_
          refine L.va rfl (X.pickT rfl (by conv => lhs; whnf)) ?_
          refine L.nil ?_
          refine J.iteT rfl ?_
          refine J.seq ?_
          refine J.region ?_
          refine L.va rfl (X.assign (by conv => lhs; whnf)) ?_
          refine L.nil ?_
          refine J.ret ?_
          refine inB_ret <|  thn_ret <|  thn_ret <|  inB_ret <|  thn_ret <| ?_
          refine fin1 ?_
          exact ⟨rfl, he05⟩
         ·have eb : p.b = q.b := strOfNums_inj hP5.o.b hQ5.o.b (by rw [g1])
          have cL := same03 p.lo q.lo w5 hP5.o.lo hQ5.o.lo
          refine L.va rfl (X.fieldAddr rfl Tryz.underlying74 rfl sz_72 (by decide)) ?_
          refine L.va rfl (X.load rfl sc_72 (by first | exact Ld.blk kp rfl | exact Ld.blk kq rfl)) ?_
          refine L.va rfl (X.fieldAddr rfl Tryz.underlying74 rfl sz_72 (by decide)) ?_
          refine L.va rfl (X.load rfl sc_72 (by first | exact Ld.blk kp rfl | exact Ld.blk kq rfl)) ?_
          cases hlo : sameF p.lo q.lo
          ·rw [hlo] at cL
           rw [eNo (by rw [r1, hlo, Bool.false_and, Bool.and_false])]
           refine L.call rfl en_46 rfl (cL) ?_
           rintro e w6 ⟨rfl, he6⟩
           refine ⟨_, rfl, ?_⟩
           refine L.va rfl (X.not rfl) ?_
           refine L.va rfl (X.pickF rfl (by conv => lhs; whnf)) ?_
           refine L.va rfl (X.move (by conv => lhs; whnf)) ?_
           refine L.caseBT (k := 124) rfl (by rfl) ?_
           iterate 6 refine L.no rfl ?_
           refine L.va rfl (X.pickT rfl (by conv => lhs; whnf)) ?_
           refine L.nil ?_
           refine J.iteT rfl ?_
           refine J.seq ?_
           refine J.region ?_
           refine L.va rfl (X.assign (by conv => lhs; whnf)) ?_
           refine L.nil ?_
           refine J.ret ?_
           refine inB_ret <|  thn_ret <|  thn_ret <|  inB_ret <|  thn_ret <| ?_
           refine fin1 ?_
           exact ⟨rfl, he05.trans he6⟩
          ·rw [hlo] at cL
           refine L.call rfl en_46 rfl (cL) ?_
           rintro e w6 ⟨rfl, he6⟩
           refine ⟨_, rfl, ?_⟩
           have he6 : Ext w5 w6 := he6
           have he06 := he05.trans he6
           have hk16 := hk15.ext he6
           have hk6 := hk5.ext he6
           replace kp := kp.ext he6
           replace kq := kq.ext he6
           have cH := same03 p.hi q.hi w6 hP5.o.hi hQ5.o.hi
           refine L.va rfl (X.not rfl) ?_
           refine L.va rfl (X.pickF rfl (by conv => lhs; whnf)) ?_
           refine L.va rfl (X.move (by conv => lhs; whnf)) ?_
           refine L.caseBF (k := 124) rfl (by rfl) ?_
           refine L.va rfl (X.fieldAddr rfl Tryz.underlying74 rfl sz_72 (by decide)) ?_
           refine L.va rfl (X.load rfl sc_72 (by first | exact Ld.blk kp rfl | exact Ld.blk kq rfl)) ?_
           refine L.va rfl (X.fieldAddr rfl Tryz.underlying74 rfl sz_72 (by decide)) ?_
           refine L.va rfl (X.load rfl sc_72 (by first | exact Ld.blk kp rfl | exact Ld.blk kq rfl)) ?_
           cases hhi : sameF p.hi q.hi
           ·rw [hhi] at cH
            rw [eNo (by rw [r1, hhi, Bool.and_false, Bool.and_false])]
            refine L.call rfl en_46 rfl (cH) ?_
            rintro e w7 ⟨rfl, he7⟩
            refine ⟨_, rfl, ?_⟩
            refine L.va rfl (X.not rfl) ?_
            refine L.va rfl (X.pickF rfl (by conv => lhs; whnf)) ?_
            refine L.nil ?_
            refine J.iteT rfl ?_
            refine J.seq ?_
            refine J.region ?_
            refine L.va rfl (X.assign (by conv => lhs; whnf)) ?_
            refine L.nil ?_
            refine J.ret ?_
            refine inB_ret <|  thn_ret <|  thn_ret <|  inB_ret <|  thn_ret <| ?_
            refine fin1 ?_
            exact ⟨rfl, he06.trans he7⟩
           ·rw [hhi] at cH
            refine L.call rfl en_46 rfl (cH) ?_
            rintro e w7 ⟨rfl, he7⟩
            refine ⟨_, rfl, ?_⟩
            have he7 : Ext w6 w7 := he7
            have hk17 := hk16.ext he7
            have hk7 := hk6.ext he7
            refine L.va rfl (X.not rfl) ?_
            refine L.va rfl (X.pickF rfl (by conv => lhs; whnf)) ?_
            refine L.nil ?_
            refine J.iteF rfl ?_
            refine J.skip ?_
            refine J.region ?_
            refine L.va rfl (X.move (by conv => lhs; whnf)) ?_
            refine L.va rfl (X.add rfl rfl (by omega)) ?_
            refine L.va rfl (X.assign (by conv => lhs; whnf)) ?_
            refine L.nil ?_
            refine ⟨i + 1, At1 (by first | rfl | exact at_int rfl (by omega) | exact at_slice rfl (by omega) | exact at_int rfl (by simp)), (by (iterate 28 refine Agr.lk rfl ?_); refine Agr.lk rfl ?_; refine Agr.hav rfl ?_; (iterate 5 refine Agr.lk rfl ?_); exact Agr.lk rfl (Agr.hav rfl Agr.rfl')), ?_⟩
            refine ⟨⟨by omega, fun j hj => ?_, ((he4.trans he5).trans he6).trans he7⟩, by omega⟩
            rcases Nat.lt_or_ge j i with h | h
            ·exact hP j h
            ·obtain rfl : j = i := by omega
             rw [ex, ey, r1, decide_eq_true eb, hlo, hhi]
             rfl
       ·refine J.exit ?_
        refine J.seq ?_
        refine J.region ?_
        refine L.va rfl (X.assign (by conv => lhs; whnf)) ?_
        refine L.nil ?_
        refine J.ret ?_
        refine fin1 ?_
        obtain rfl : i = x.nr := by omega
        have e2 : eqL sameR rc0 x.con.rs y.con.rs = true := eqL_yes (by show (x.rs.map Re.con).length = (y.rs.map Re.con).length; rw [List.length_map, List.length_map]; omega) (fun j hj => by
         show sameR ((x.rs.map Re.con).getD j rc0) ((y.rs.map Re.con).getD j rc0) = true
         rw [con_atRe, con_atRe]
         exact hP j (by have : j < (x.rs.map Re.con).length := hj; rw [List.length_map] at this; omega))
        rw [e2]
        exact ⟨rfl, he04⟩
end Go.Proofs.YtpomklkfedpkfaaGreat
namespace Go.Proofs.YtpomklkfedpkfaaGreat
set_option maxRecDepth 100000
open Go.RowKit H
set_option linter.unusedVariables false
structure Ce.Lt (x : Ce) : Prop where
  i : x.ni ≤ 10
  r : x.nr ≤ 10
  li : ∀ y ∈ x.is, y.n ≤ 20
  lr : ∀ y ∈ x.rs, y.n ≤ 300
theorem rlight14 {x : Ce} {w : World} {N : Nat} (hx : x.At N w) (hN : N ≤ w.heap.size) : Calls Tryz.prog 12 #[x.val] w fun e w' => Ext w w' ∧ ∃ z : Bool, e = .returned (.bool z) ∧ (z = true → x.Lt) := by
 have lxi := hx.li
 have lxr := hx.lr
 have mi := hx.mi
 have mr := hx.mr
 unfold maxLen at mi mr
 refine enter Tryz.func12 rfl (by kernel_rfl) ?_
 refine J.seq ?_
 refine J.region ?_
 refine L.boxA (l := [_, _, _, _]) rfl rfl ?_
 intro b1 w1 hb1 hs1 hk1 he1
 have hra := hx.i.ext he1
 have hrb := hx.r.ext he1
 refine L.va rfl (X.assign (by conv => lhs; whnf)) ?_
 refine L.nil ?_
 iterate 2 refine J.seq ?_
 refine J.region ?_
 refine L.va rfl (X.fieldAddr rfl Tryz.underlying52 rfl sz_49 (by decide)) ?_
 refine L.va rfl (X.load rfl sc_49 (by first | exact Ld.blk hk1 rfl)) ?_
 refine L.va rfl (X.len rfl Tryz.underlying49) ?_
 refine L.va rfl (X.gtr rfl rfl) ?_
 refine L.va rfl (X.move (by conv => lhs; whnf)) ?_
 refine L.caseDec (k := 9) rfl (fun h1 => ?_) (fun h1 => ?_)
 ·refine L.no rfl ?_
  iterate 3 refine L.no rfl ?_
  refine L.va rfl (X.pickT rfl (by conv => lhs; whnf)) ?_
  refine L.nil ?_
  refine J.iteT rfl ?_
  refine J.seq ?_
  refine J.region ?_
  refine L.va rfl (X.assign (by conv => lhs; whnf)) ?_
  refine L.nil ?_
  refine J.ret ?_
  refine thn_ret <| ?_
  refine fin1 ?_
  exact ⟨he1, _, rfl, fun h => by cases h⟩
 ·refine L.va rfl (X.fieldAddr rfl Tryz.underlying52 rfl sz_50 (by decide)) ?_
  refine L.va rfl (X.load rfl sc_50 (by first | exact Ld.blk hk1 rfl)) ?_
  refine L.va rfl (X.len rfl Tryz.underlying50) ?_
  refine L.va rfl (X.gtr rfl rfl) ?_
  refine L.va rfl (X.pickF rfl (by conv => lhs; whnf)) ?_
  refine L.nil ?_
  refine J.dec rfl (fun h2 => ?_) (fun h2 => ?_)
  ·refine J.seq ?_
   refine J.region ?_
   refine L.va rfl (X.assign (by conv => lhs; whnf)) ?_
   refine L.nil ?_
   refine J.ret ?_
   refine thn_ret <| ?_
   refine fin1 ?_
   exact ⟨he1, _, rfl, fun h => by cases h⟩
  ·refine J.skip ?_
   refine J.cut (X := Unit) [2, 3, 15, 16, 17, 18, 19, 20, 21, 22, 23, 24, 25, 26, 27, 28, 29] (fun _ => []) (fun _ w' => (∀ y ∈ x.is, y.n ≤ 20) ∧ w1 = w') ?_ ?_
   ·refine J.seq ?_
    refine J.region ?_
    refine L.va rfl (X.assign (by conv => lhs; whnf)) ?_
    refine L.nil ?_
    refine J.block ?_
    refine J.loop (X := Nat) [2, 3, 15, 16, 17, 18, 19, 20, 21, 22, 23, 24, 25, 26, 27, 28, 29] (fun i => [(3, .int .i64 (i : Int))]) (fun i w' => i ≤ x.ni ∧ (∀ j, j < i → (x.is.getD j wh0).n ≤ 20) ∧ w1 = w') (fun i => x.ni - i) (0) (At1 (by first | rfl | exact at_int rfl (by omega) | exact at_slice rfl (by omega) | exact at_int rfl (by simp))) ?_ ?_
    ·exact ⟨Nat.zero_le _, fun j hj => absurd hj (by omega), rfl⟩
    ·rintro i g w2 ⟨hi, hP, rfl⟩
     iterate 2 refine J.seq ?_
     refine J.region ?_
     refine L.va rfl (X.move (by conv => lhs; whnf)) ?_
     refine L.va rfl (X.fieldAddr rfl Tryz.underlying52 rfl sz_49 (by decide)) ?_
     refine L.va rfl (X.load rfl sc_49 (by first | exact Ld.blk hk1 rfl)) ?_
     refine L.va rfl (X.len rfl Tryz.underlying49) ?_
     refine L.va rfl (X.lss rfl rfl) ?_
     refine L.nil ?_
     refine J.dec rfl (fun hlt => ?_) (fun hlt => ?_)
     ·have hA := hra.some_ (by omega)
      have gx := gtW (l := x.is) (i := i) (by omega)
      refine J.skip ?_
      refine J.seq ?_
      refine J.block ?_
      refine J.seq ?_
      refine J.region ?_
      refine L.va rfl (X.fieldAddr rfl Tryz.underlying52 rfl sz_49 (by decide)) ?_
      refine L.va rfl (X.load rfl sc_49 (by first | exact Ld.blk hk1 rfl | exact hA | exact Ld.flat2 wh_len hra gx (r := 2) rfl)) ?_
      refine L.va rfl (X.move (by conv => lhs; whnf)) ?_
      refine L.va rfl ((by first | exact X.indexAddrn rfl rfl Tryz.underlying49 sz_70 (by first | exact Option.some_ne_none _ | exact hA) (by omega) | exact X.indexAddr rfl rfl Tryz.underlying49 sz_70 (by first | exact Option.some_ne_none _ | exact hA) (by omega))) ?_
      refine L.va rfl (X.fieldP rfl Tryz.underlying70 rfl sz_24 (by decide) (by first | exact Option.some_ne_none _ | exact hA)) ?_
      refine L.va rfl (X.load rfl sc_24 (by first | exact Ld.blk hk1 rfl | exact hA | exact Ld.flat2 wh_len hra gx (r := 2) rfl)) ?_
      refine L.va rfl (X.len rfl Tryz.underlying24) ?_
      refine L.va rfl (X.gtr rfl rfl) ?_
      refine L.nil ?_
      refine J.dec rfl (fun h3 => ?_) (fun h3 => ?_)
      ·refine J.seq ?_
       refine J.region ?_
       refine L.va rfl (X.assign (by conv => lhs; whnf)) ?_
       refine L.nil ?_
       refine J.ret ?_
       refine inB_ret <|  thn_ret <|  thn_ret <|  inB_ret <|  thn_ret <| ?_
       refine fin1 ?_
       exact ⟨he1, _, rfl, fun h => by cases h⟩
      ·refine J.skip ?_
       refine J.region ?_
       refine L.va rfl (X.move (by conv => lhs; whnf)) ?_
       refine L.va rfl (X.add rfl rfl (by omega)) ?_
       refine L.va rfl (X.assign (by conv => lhs; whnf)) ?_
       refine L.nil ?_
       refine ⟨i + 1, At1 (by first | rfl | exact at_int rfl (by omega) | exact at_slice rfl (by omega) | exact at_int rfl (by simp)), (by (iterate 16 refine Agr.lk rfl ?_); exact Agr.lk rfl (Agr.hav rfl Agr.rfl')), ?_⟩
       refine ⟨⟨by omega, fun j hj => ?_, rfl⟩, by omega⟩
       rcases Nat.lt_or_ge j i with h | h
       ·exact hP j h
       ·obtain rfl : j = i := by omega
        omega
     ·refine J.exit ?_
      refine ⟨(), At0 , (by (iterate 5 refine Agr.lk rfl ?_); refine Agr.lk rfl ?_; refine Agr.hav rfl ?_; (iterate 1 refine Agr.lk rfl ?_); exact Agr.rfl'), ?_⟩
      refine ⟨fun y hy => ?_, rfl⟩
      obtain ⟨j, hj, rfl⟩ := List.getElem_of_mem hy
      have := hP j (by omega)
      rwa [List.getD, List.getElem?_eq_getElem hj] at this
   ·rintro _ g w2 ⟨hI, rfl⟩
    iterate 2 refine J.seq ?_
    refine J.region ?_
    refine L.va rfl (X.assign (by conv => lhs; whnf)) ?_
    refine L.nil ?_
    refine J.block ?_
    refine J.loop (X := Nat) [2, 4, 30, 31, 32, 33, 34, 35, 36, 37, 38, 39, 40, 41, 42, 43, 44] (fun i => [(4, .int .i64 (i : Int))]) (fun i w' => i ≤ x.nr ∧ (∀ j, j < i → (x.rs.getD j re0).n ≤ 300) ∧ w1 = w') (fun i => x.nr - i) (0) (At1 (by first | rfl | exact at_int rfl (by omega) | exact at_slice rfl (by omega) | exact at_int rfl (by simp))) ?_ ?_
    ·exact ⟨Nat.zero_le _, fun j hj => absurd hj (by omega), rfl⟩
    ·rintro i g w2 ⟨hi, hP, rfl⟩
     iterate 2 refine J.seq ?_
     refine J.region ?_
     refine L.va rfl (X.move (by conv => lhs; whnf)) ?_
     refine L.va rfl (X.fieldAddr rfl Tryz.underlying52 rfl sz_50 (by decide)) ?_
     refine L.va rfl (X.load rfl sc_50 (by first | exact Ld.blk hk1 rfl)) ?_
     refine L.va rfl (X.len rfl Tryz.underlying50) ?_
     refine L.va rfl (X.lss rfl rfl) ?_
     refine L.nil ?_
     refine J.dec rfl (fun hlt => ?_) (fun hlt => ?_)
     ·have hA := hrb.some_ (by omega)
      have gx := gtR (l := x.rs) (i := i) (by omega)
      have h0 := Ld.flat2 re_len hrb gx (r := 0) rfl
      rw [Nat.add_zero] at h0
      refine J.skip ?_
      refine J.seq ?_
      refine J.block ?_
      refine J.seq ?_
      refine J.region ?_
      refine L.va rfl (X.fieldAddr rfl Tryz.underlying52 rfl sz_50 (by decide)) ?_
      refine L.va rfl (X.load rfl sc_50 (by first | exact Ld.blk hk1 rfl | exact hA | exact h0 | exact Ld.flat2 re_len hrb gx (r := 0) rfl)) ?_
      refine L.va rfl (X.move (by conv => lhs; whnf)) ?_
      refine L.va rfl ((by first | exact X.indexAddrn rfl rfl Tryz.underlying50 sz_74 (by first | exact Option.some_ne_none _ | exact hA | exact h0) (by omega) | exact X.indexAddr rfl rfl Tryz.underlying50 sz_74 (by first | exact Option.some_ne_none _ | exact hA | exact h0) (by omega))) ?_
      refine L.va rfl (X.fieldP rfl Tryz.underlying74 rfl sz_71 (by decide) (by first | exact Option.some_ne_none _ | exact hA | exact h0)) ?_
      refine L.va rfl (X.load rfl sc_71 (by first | exact Ld.blk hk1 rfl | exact hA | exact h0 | exact Ld.flat2 re_len hrb gx (r := 0) rfl)) ?_
      refine L.va rfl (X.len rfl Tryz.underlying71) ?_
      refine L.va rfl (X.gtr rfl rfl) ?_
      refine L.nil ?_
      refine J.dec rfl (fun h3 => ?_) (fun h3 => ?_)
      ·refine J.seq ?_
       refine J.region ?_
       refine L.va rfl (X.assign (by conv => lhs; whnf)) ?_
       refine L.nil ?_
       refine J.ret ?_
       refine inB_ret <|  thn_ret <|  thn_ret <|  inB_ret <|  thn_ret <| ?_
       refine fin1 ?_
       exact ⟨he1, _, rfl, fun h => by cases h⟩
      ·refine J.skip ?_
       refine J.region ?_
       refine L.va rfl (X.move (by conv => lhs; whnf)) ?_
       refine L.va rfl (X.add rfl rfl (by omega)) ?_
       refine L.va rfl (X.assign (by conv => lhs; whnf)) ?_
       refine L.nil ?_
       refine ⟨i + 1, At1 (by first | rfl | exact at_int rfl (by omega) | exact at_slice rfl (by omega) | exact at_int rfl (by simp)), (by (iterate 16 refine Agr.lk rfl ?_); exact Agr.lk rfl (Agr.hav rfl Agr.rfl')), ?_⟩
       refine ⟨⟨by omega, fun j hj => ?_, rfl⟩, by omega⟩
       rcases Nat.lt_or_ge j i with h | h
       ·exact hP j h
       ·obtain rfl : j = i := by omega
        omega
     ·refine J.exit ?_
      refine J.seq ?_
      refine J.region ?_
      refine L.va rfl (X.assign (by conv => lhs; whnf)) ?_
      refine L.nil ?_
      refine J.ret ?_
      refine fin1 ?_
      refine ⟨he1, _, rfl, fun _ => ⟨by omega, by omega, hI, fun y hy => ?_⟩⟩
      obtain ⟨j, hj, rfl⟩ := List.getElem_of_mem hy
      have := hP j (by omega)
      rwa [List.getD, List.getElem?_eq_getElem hj] at this
theorem rlight15 {s : Ces} {w : World} {N : Nat} (hs : s.At N w) (hN : N ≤ w.heap.size) : Calls Tryz.prog 6 #[s.val] w fun e w' => Ext w w' ∧ ∃ z : Bool, e = .returned (.bool z) ∧ (z = true → s.n ≤ 60 ∧ ∀ x ∈ s.l, x.Lt) := by
 have ls := hs.l
 have ms := hs.m
 unfold maxLen at ms
 refine enter Tryz.func6 rfl (by kernel_rfl) ?_
 refine J.seq ?_
 refine J.region ?_
 refine L.va rfl (X.assign (by conv => lhs; whnf)) ?_
 refine L.nil ?_
 iterate 2 refine J.seq ?_
 refine J.region ?_
 refine L.va rfl (X.move (by conv => lhs; whnf)) ?_
 refine L.va rfl (X.len rfl Tryz.underlying29) ?_
 refine L.va rfl (X.gtr rfl rfl) ?_
 refine L.nil ?_
 refine J.dec rfl (fun h1 => ?_) (fun h1 => ?_)
 ·refine J.seq ?_
  refine J.region ?_
  refine L.va rfl (X.assign (by conv => lhs; whnf)) ?_
  refine L.nil ?_
  refine J.ret ?_
  refine thn_ret <| ?_
  refine fin1 ?_
  exact ⟨Ext.refl _, _, rfl, fun h => by cases h⟩
 ·refine J.skip ?_
  iterate 2 refine J.seq ?_
  refine J.region ?_
  refine L.va rfl (X.assign (by conv => lhs; whnf)) ?_
  refine L.nil ?_
  refine J.block ?_
  refine J.loop (X := Nat) [2, 3, 7, 8, 9, 10, 11, 12, 13, 14, 15, 16, 17, 18] (fun i => [(3, .int .i64 (i : Int))]) (fun i w' => i ≤ s.n ∧ (∀ j, j < i → (s.l.getD j ce0).Lt) ∧ Ext w w') (fun i => s.n - i) (0) (At1 (by first | rfl | exact at_int rfl (by omega) | exact at_slice rfl (by omega) | exact at_int rfl (by simp))) ?_ ?_
  ·exact ⟨Nat.zero_le _, fun j hj => absurd hj (by omega), Ext.refl _⟩
  ·rintro i g w2 ⟨hi, hP, he⟩
   have z := he.le
   have hr2 := hs.r.ext he
   iterate 2 refine J.seq ?_
   refine J.region ?_
   iterate 2 refine L.va rfl (X.move (by conv => lhs; whnf)) ?_
   refine L.va rfl (X.len rfl Tryz.underlying29) ?_
   refine L.va rfl (X.lss rfl rfl) ?_
   refine L.nil ?_
   refine J.dec rfl (fun hlt => ?_) (fun hlt => ?_)
   ·have hA := hr2.some_ (by omega)
    have gi := gtX (l := s.l) (i := i) (by omega)
    have hX := (hs.one (i := i) (by omega)).ext he
    generalize ex : s.l.getD i ce0 = p at gi hX
    refine J.skip ?_
    refine J.seq ?_
    refine J.block ?_
    refine J.seq ?_
    refine J.region ?_
    iterate 2 refine L.va rfl (X.move (by conv => lhs; whnf)) ?_
    refine L.va rfl ((by first | exact X.indexAddrn rfl rfl Tryz.underlying29 sz_52 (by first | exact Option.some_ne_none _ | exact hA) (by omega) | exact X.indexAddr rfl rfl Tryz.underlying29 sz_52 (by first | exact Option.some_ne_none _ | exact hA) (by omega))) ?_
    refine L.va rfl (X.loadRow (cs := p.vs) rfl hr2 (fun r u hu => flat_row ce_len gi r u hu) (Nat.zero_lt_succ _) Tryz.underlying52 rfl (by kernel_rfl)) ?_
    refine L.call rfl en_12 rfl (rlight14 hX (by omega)) ?_
    rintro e w3 ⟨he3, z, rfl, hz⟩
    refine ⟨_, rfl, ?_⟩
    have he03 := he.trans he3
    refine L.va rfl (X.not rfl) ?_
    refine L.nil ?_
    cases z
    ·refine J.iteT rfl ?_
     refine J.seq ?_
     refine J.region ?_
     refine L.va rfl (X.assign (by conv => lhs; whnf)) ?_
     refine L.nil ?_
     refine J.ret ?_
     refine inB_ret <|  thn_ret <|  thn_ret <|  inB_ret <|  thn_ret <| ?_
     refine fin1 ?_
     exact ⟨he03, _, rfl, fun h => by cases h⟩
    ·refine J.iteF rfl ?_
     refine J.skip ?_
     refine J.region ?_
     refine L.va rfl (X.move (by conv => lhs; whnf)) ?_
     refine L.va rfl (X.add rfl rfl (by omega)) ?_
     refine L.va rfl (X.assign (by conv => lhs; whnf)) ?_
     refine L.nil ?_
     refine ⟨i + 1, At1 (by first | rfl | exact at_int rfl (by omega) | exact at_slice rfl (by omega) | exact at_int rfl (by simp)), (by (iterate 13 refine Agr.lk rfl ?_); exact Agr.lk rfl (Agr.hav rfl Agr.rfl')), ?_⟩
     refine ⟨⟨by omega, fun j hj => ?_, he03⟩, by omega⟩
     rcases Nat.lt_or_ge j i with h | h
     ·exact hP j h
     ·obtain rfl : j = i := by omega
      rw [ex]
      exact hz rfl
   ·refine J.exit ?_
    refine J.seq ?_
    refine J.region ?_
    refine L.va rfl (X.assign (by conv => lhs; whnf)) ?_
    refine L.nil ?_
    refine J.ret ?_
    refine fin1 ?_
    refine ⟨he, _, rfl, fun _ => ⟨by omega, fun x hx => ?_⟩⟩
    obtain ⟨j, hj, rfl⟩ := List.getElem_of_mem hx
    have := hP j (by omega)
    rwa [List.getD, List.getElem?_eq_getElem hj] at this
end Go.Proofs.YtpomklkfedpkfaaGreat
namespace Go.Proofs.YtpomklkfedpkfaaGreat
set_option maxRecDepth 100000
open Go.RowKit H
set_option linter.unusedVariables false
abbrev Ce.key (x : Ce) : Int := (x.k : Int)
abbrev Ce.vals (x : Ce) : List Value := x.vs
abbrev Ce.v (x : Ce) : Value := x.val
def rise (l : List Ce) : Bool := (List.range (l.length - 1)).all fun i => decide ((l.getD i ce0).key < (l.getD (i + 1) ce0).key)
theorem rise_at {l : List Ce} : rise l = true ↔ ∀ i, i + 1 < l.length → (l.getD i ce0).key < (l.getD (i + 1) ce0).key := by
  unfold rise
  rw [List.all_eq_true]
  constructor
  · intro h i hi
    exact of_decide_eq_true (h i (List.mem_range.2 (by omega)))
  · intro h i hi
    have := List.mem_range.1 hi
    exact decide_eq_true (h i (by omega))
def mergeD (sm : Ce → Ce → Bool) : List Ce → List Ce → List (Int × Int)
  | [], [] => []
  | x :: a, [] => (x.key, 1) :: mergeD sm a []
  | [], y :: b => (y.key, 2) :: mergeD sm [] b
  | x :: a, y :: b => if x.key < y.key then (x.key, 1) :: mergeD sm a (y :: b) else if y.key < x.key then (y.key, 2) :: mergeD sm (x :: a) b else (if sm x y = true then [] else [(x.key, 3)]) ++ mergeD sm a b
  termination_by a b => a.length + b.length
end Go.Proofs.YtpomklkfedpkfaaGreat
namespace Go.Proofs.YtpomklkfedpkfaaGreat
set_option maxRecDepth 100000
open Go.RowKit H
set_option linter.unusedVariables false
theorem rrising15 {w : World} {N : Nat} (A : Option Addr) (c : Nat) (l : List Ce) (hr : Reads w N 4 A l.length (l.flatMap Ce.vals)) (hN : N ≤ w.heap.size) (hm : l.length ≤ 1000000) : Calls Tryz.prog 40 #[.slice A l.length c] w fun e w' => e = .returned (.bool (rise l)) ∧ Ext w w' := by
 refine enter Tryz.func40 rfl (by kernel_rfl) ?_
 refine J.seq ?_
 refine J.region ?_
 refine L.va rfl (X.assign (by conv => lhs; whnf)) ?_
 refine L.nil ?_
 iterate 2 refine J.seq ?_
 refine J.region ?_
 refine L.va rfl (X.assign (by conv => lhs; whnf)) ?_
 refine L.nil ?_
 refine J.block ?_
 refine J.loop (X := Nat) [2, 3, 4, 5, 6, 7, 8, 9, 10, 11, 12, 13, 14, 15, 16, 17, 18, 19, 20, 21] (fun i => [(3, .int .i64 (i : Int))]) (fun i w' => 1 ≤ i ∧ (i ≤ l.length ∨ l.length = 0 ∧ i = 1) ∧ Ext w w' ∧ ∀ j, j + 1 < i → (l.getD j ce0).key < (l.getD (j + 1) ce0).key) (fun i => l.length + 1 - i) (1) (At1 (by first | rfl | exact at_int rfl (by omega) | exact at_slice rfl (by omega) | exact at_int rfl (by simp))) ?_ ?_
 ·exact ⟨by omega, by omega, Ext.refl _, fun j hj => by omega⟩
 ·rintro i g w2 ⟨h1, hi, he, hall⟩
  have hr2 := hr.low (Below.mono he hN) (Nat.le_refl _)
  have z := he.le
  iterate 2 refine J.seq ?_
  refine J.region ?_
  iterate 2 refine L.va rfl (X.move (by conv => lhs; whnf)) ?_
  refine L.va rfl (X.len rfl Tryz.underlying29) ?_
  refine L.va rfl (X.lss rfl rfl) ?_
  refine L.nil ?_
  refine J.dec rfl (fun hlt => ?_) (fun hlt => ?_)
  ·have hil : i < l.length := by omega
   have hA := hr2.some_ (by omega)
   obtain ⟨j, rfl⟩ : ∃ j, i = j + 1 := ⟨i - 1, by omega⟩
   have gi := gtX hil
   have gj := gtX (show j < l.length by omega)
   have hrow1 := fun (w' : World) (hw : Ext w2 w') => hr2.low (Below.mono hw (by omega)) (Nat.le_refl _)
   generalize hx : l.getD (j + 1) ce0 = x at *
   generalize hy : l.getD j ce0 = y at *
   have kx : x.key = (x.k : Int) := rfl
   have ky : y.key = (y.k : Int) := rfl
   refine J.skip ?_
   refine J.seq ?_
   refine J.block ?_
   refine J.seq ?_
   refine J.quiet mixed (by kernel_rfl) ?_
   iterate 2 refine Qt.va rfl (fun w' hw => X.move (by conv => lhs; whnf)) ?_
   refine Qt.va rfl (fun w' hw => (by first | exact X.indexAddrn rfl rfl Tryz.underlying29 sz_52 (by first | exact Option.some_ne_none _ | exact hA) (by omega) | exact X.indexAddr rfl rfl Tryz.underlying29 sz_52 (by first | exact Option.some_ne_none _ | exact hA) (by omega))) ?_
   refine Qt.va rfl (fun w' hw => X.fieldP rfl Tryz.underlying52 rfl sz_48 (by decide) (by first | exact Option.some_ne_none _ | exact hA)) ?_
   refine Qt.va rfl (fun w' hw => X.load rfl sc_48 (Ld.flat2 ce_len (hrow1 w' hw) gi (r := 0) rfl)) ?_
   iterate 2 refine Qt.va rfl (fun w' hw => X.move (by conv => lhs; whnf)) ?_
   refine Qt.va rfl (fun w' hw => X.sub rfl rfl (by omega)) ?_
   refine Qt.va rfl (fun w' hw => X.indexAddrn (j := j) rfl (show Value.int .i64 (((j + 1 : Nat) : Int) - 1) = _ by rw [show (((j + 1 : Nat) : Int) - 1) = (j : Int) by omega]) Tryz.underlying29 sz_52 hA (by omega)) ?_
   refine Qt.va rfl (fun w' hw => X.fieldP rfl Tryz.underlying52 rfl sz_48 (by decide) hA) ?_
   refine Qt.va rfl (fun w' hw => X.load rfl sc_48 (Ld.flat2 ce_len (hrow1 w' hw) gj (r := 0) rfl)) ?_
   refine Qt.va rfl (fun w' hw => X.leq rfl rfl) ?_
   refine Qt.nil (fun w3 hq => ?_)
   have he3 := he.trans hq
   refine J.dec rfl (fun hle => ?_) (fun hle => ?_)
   ·have e : rise l = false := by
     rw [← Bool.not_eq_true, rise_at]
     intro h
     have := h j hil
     rw [hx, hy] at this
     omega
    rw [e]
    refine J.seq ?_
    refine J.region ?_
    refine L.va rfl (X.assign (by conv => lhs; whnf)) ?_
    refine L.nil ?_
    refine J.ret ?_
    refine inB_ret <|  thn_ret <|  thn_ret <|  inB_ret <|  thn_ret <| ?_
    refine fin1 ?_
    exact ⟨rfl, he3⟩
   ·refine J.skip ?_
    refine J.region ?_
    refine L.va rfl (X.move (by conv => lhs; whnf)) ?_
    refine L.va rfl (X.add rfl rfl (by omega)) ?_
    refine L.va rfl (X.assign (by conv => lhs; whnf)) ?_
    refine L.nil ?_
    refine ⟨(j + 1) + 1, At1 (by first | rfl | exact at_int rfl (by omega) | exact at_slice rfl (by omega) | exact at_int rfl (by simp)), (by (iterate 19 refine Agr.lk rfl ?_); exact Agr.lk rfl (Agr.hav rfl Agr.rfl')), ?_⟩
    refine ⟨⟨by omega, by omega, he3, fun k hk => ?_⟩, by omega⟩
    rcases Nat.lt_or_ge k j with h2 | h2
    ·exact hall k (by omega)
    ·obtain rfl : k = j := by omega
     rw [hx, hy]
     omega
  ·have e : rise l = true := by
    rw [rise_at]
    intro j hj
    exact hall j (by omega)
   rw [e]
   refine J.exit ?_
   refine J.seq ?_
   refine J.region ?_
   refine L.va rfl (X.assign (by conv => lhs; whnf)) ?_
   refine L.nil ?_
   refine J.ret ?_
   refine fin1 ?_
   exact ⟨rfl, he⟩
theorem own_lowB {w : World} {base base' e sz n : Nat} {v : Value} {xs : List Value} (h : w.ownsRow base e sz v n xs) (hb : base' ≤ base) : w.ownsRow base' e sz v n xs := by
  refine ⟨h.1, ?_⟩
  rcases h.2 with h1 | ⟨b, cap, cur, h1, h2, h3⟩
  · exact .inl h1
  · exact .inr ⟨b, cap, cur, h1, Nat.le_trans hb h2, h3⟩
end Go.Proofs.YtpomklkfedpkfaaGreat
namespace Go.Proofs.YtpomklkfedpkfaaGreat
set_option maxRecDepth 100000
open Go.RowKit H
set_option linter.unusedVariables false
theorem clone32 (A : Option Addr) (n c : Nat) (l : List Int) (w : World) (hr : Reads w w.heap.size 1 A n (nums .u32 l)) (hn : n ≤ 5000) : Calls Tryz.prog 59 #[.slice A n c] w fun e w' => ∃ A' c', e = .returned (.slice A' n c') ∧ w'.ownsRow w.heap.size 27 1 (.slice A' n c') n (nums .u32 l) ∧ Ext w w' := by
 have hl : l.length = n := by have := hr.1; simpa [nums] using this
 refine enter Tryz.func59 rfl (by kernel_rfl) ?_
 refine J.seq ?_
 refine J.region ?_
 refine L.va rfl (X.assign (by conv => lhs; whnf)) ?_
 refine L.nil ?_
 iterate 2 refine J.seq ?_
 refine J.region ?_
 refine L.va rfl (X.move (by conv => lhs; whnf)) ?_
 refine L.va rfl (X.eqlNil rfl rfl Tryz.underlying24) ?_
 refine L.nil ?_
 rcases A with _ | a
 ·obtain rfl : n = 0 := by
   apply Decidable.byContradiction
   intro h
   exact hr.some_ (by omega) rfl
  obtain rfl : l = [] := List.length_eq_zero_iff.1 hl
  refine J.iteT rfl ?_
  refine J.seq ?_
  refine J.region ?_
  refine L.va rfl (X.assign (by conv => lhs; whnf)) ?_
  refine L.nil ?_
  refine J.ret ?_
  refine thn_ret <| ?_
  refine fin1 ?_
  exact ⟨none, 0, rfl, own_nil _ _ _ _, Ext.refl _⟩
 ·refine J.iteF rfl ?_
  refine J.skip ?_
  refine J.seq ?_
  refine J.region ?_
  refine L.bslice (vs := []) rfl Evs.nil rfl rfl rfl rfl Tryz.underlying24 sz_27 zr_27 (by decide) ?_
  intro b1 w1 hb1 hs1 hk1 he1
  have ho1 : w1.ownsRow w.heap.size 27 1 (.slice (some ⟨b1, 0, none⟩) 0 0) 0 (nums .u32 []) := blk_own1 (q := 0) (l := []) hk1 (by omega) (Nat.zero_le _) rfl
  have z1 := he1.le
  refine L.va rfl (X.move (by conv => lhs; whnf)) ?_
  refine L.appendQ (q := n) (ys := l) rfl rfl rfl Tryz.underlying24 el_27 (ho1) (hr.ext he1) (by omega) (by simp) (by unfold maxLen; omega) (by omega) ?_
  intro A2 c2 w2 ho2 hg2 hb2 hor2
  refine L.va rfl (X.assign (by conv => lhs; whnf)) ?_
  refine L.nil ?_
  refine J.ret ?_
  refine fin1 ?_
  exact ⟨A2, c2, rfl, ho2, he1.grw hg2 (by intro g hg; injection hg with hg; subst hg; show w.heap.size ≤ b1; omega)⟩
structure Wh.Own (x : Wh) (N : Nat) (w : World) : Prop where
  r : Reads w N 1 x.A x.n (nums .u32 x.q) ∨ w.ownsRow N 27 1 (.slice x.A x.n x.c) x.n (nums .u32 x.q)
  m : x.n ≤ maxLen
  o : x.Ok
  cp : x.n ≤ x.c
structure Re.Own (x : Re) (N : Nat) (w : World) : Prop where
  r : Reads w N 1 x.A x.n (nums .u8 x.b) ∨ w.ownsRow N 5 1 (.slice x.A x.n x.c) x.n (nums .u8 x.b)
  m : x.n ≤ maxLen
  o : x.Ok
section
variable {N : Nat} {w w' : World}
theorem Wh.Own.ext {x : Wh} (h : x.Own N w) (he : Ext w w') : x.Own N w' := ⟨h.r.imp (fun r => r.ext he) (fun r => r.ext he), h.m, h.o, h.cp⟩
theorem Re.Own.ext {x : Re} (h : x.Own N w) (he : Ext w w') : x.Own N w' := ⟨h.r.imp (fun r => r.ext he) (fun r => r.ext he), h.m, h.o⟩
theorem Wh.Own.put {x : Wh} (h : x.Own N w) {t : Nat} (hb : Below N w w') (hC : TCh t w w') (hne : 27 ≠ t) : x.Own N w' := ⟨h.r.imp (fun r => r.low hb (Nat.le_refl _)) (fun r => hC.own r hne), h.m, h.o, h.cp⟩
theorem Re.Own.put {x : Re} (h : x.Own N w) {t : Nat} (hb : Below N w w') (hC : TCh t w w') (hne : 5 ≠ t) : x.Own N w' := ⟨h.r.imp (fun r => r.low hb (Nat.le_refl _)) (fun r => hC.own r hne), h.m, h.o⟩
theorem Wh.Own.at {x : Wh} (h : x.Own N w) (hN : N ≤ w.heap.size) : x.At w.heap.size w := ⟨h.r.elim (fun r => r.more hN) (fun r => Reads.of_own r), h.m, h.o, h.cp⟩
theorem Re.Own.at {x : Re} (h : x.Own N w) (hN : N ≤ w.heap.size) : x.At w.heap.size w := ⟨h.r.elim (fun r => r.more hN) (fun r => Reads.of_own r), h.m, h.o⟩
end
theorem map_setD {α β : Type} {f : α → β} {l : List α} {d : α} {i : Nat} {y : α} (hi : i < l.length) (h : f y = f (l.getD i d)) : (l.set i y).map f = l.map f := by
  apply List.ext_getElem (by simp)
  intro j h1 h2
  rw [List.getElem_map, List.getElem_map, List.getElem_set]
  by_cases e : i = j
  · subst e
    rw [if_pos rfl, h, List.getD, List.getElem?_eq_getElem hi]
    rfl
  · rw [if_neg e]
structure Ce.Own (x : Ce) (N : Nat) (w : World) : Prop where
  k : x.k < 18446744073709551616
  t : In64 x.t
  i : w.ownsRow N 70 5 (.slice x.Ai x.ni x.ci) x.ni (x.is.flatMap Wh.vs)
  hi : ∀ y ∈ x.is, y.Own N w
  li : x.is.length = x.ni
  r : w.ownsRow N 74 3 (.slice x.Ar x.nr x.cr) x.nr (x.rs.flatMap Re.vs)
  hr : ∀ y ∈ x.rs, y.Own N w
  lr : x.rs.length = x.nr
  L : x.Lt
section
variable {x : Ce} {N : Nat} {w w' : World}
theorem Ce.Own.ext (h : x.Own N w) (he : Ext w w') : x.Own N w' := ⟨h.k, h.t, h.i.ext he, fun y hy => (h.hi y hy).ext he, h.li, h.r.ext he, fun y hy => (h.hr y hy).ext he, h.lr, h.L⟩
theorem Ce.Own.put (h : x.Own N w) {t : Nat} (hb : Below N w w') (hC : TCh t w w') (hne : 27 ≠ t ∧ 5 ≠ t ∧ 70 ≠ t ∧ 74 ≠ t) : x.Own N w' := ⟨h.k, h.t, hC.own h.i hne.2.2.1, fun y hy => (h.hi y hy).put hb hC hne.1, h.li, hC.own h.r hne.2.2.2, fun y hy => (h.hr y hy).put hb hC hne.2.1, h.lr, h.L⟩
theorem Ce.Own.at (h : x.Own N w) (hN : N ≤ w.heap.size) : x.At w.heap.size w := ⟨h.k, h.t, Reads.of_own h.i, fun y hy => (h.hi y hy).at hN, h.li, by have := h.L.i; unfold maxLen; omega, Reads.of_own h.r, fun y hy => (h.hr y hy).at hN, h.lr, by have := h.L.r; unfold maxLen; omega⟩
end
theorem copied (x : Ce) {N : Nat} (w : World) (hN : N ≤ w.heap.size) (hx : x.At N w) (hL : x.Lt) : Calls Tryz.prog 36 #[x.val] w fun e w' => ∃ y : Ce, e = .returned y.val ∧ y.con = x.con ∧ y.Own N w' ∧ Ext w w' := by
 obtain ⟨k, t, Ai, ni, ci, is, Ar, nr, cr, rs⟩ := x
 have li : is.length = ni := hx.li
 have lr : rs.length = nr := hx.lr
 have Li : ni ≤ 10 := hL.i
 have Lr : nr ≤ 10 := hL.r
 have hri : Reads w w.heap.size 5 Ai ni (is.flatMap Wh.vs) := hx.i.more hN
 have hrr : Reads w w.heap.size 3 Ar nr (rs.flatMap Re.vs) := hx.r.more hN
 refine enter Tryz.func36 rfl (by kernel_rfl) ?_
 refine J.seq ?_
 refine J.region ?_
 refine L.boxA (l := [_, _, _, _]) rfl rfl ?_
 intro b1 w1 hb1 hs1 hk1 he1
 have hk1 : Blk w1 b1 52 (Ce.mk k t Ai ni ci is Ar nr cr rs).vs.toArray := hk1
 refine L.alloc rfl zr_52 ?_
 intro b2 w2 hb2 hs2 hk2 he2
 have he02 := he1.trans he2
 have hk1 := hk1.ext he2
 have z2 := he02.le
 refine L.nil ?_
 refine J.seq ?_
 refine J.region ?_
 refine L.va rfl (X.fieldAddr rfl Tryz.underlying52 rfl sz_49 (by decide)) ?_
 refine L.va rfl (X.load rfl sc_49 (by first | exact Ld.blk hk1 rfl)) ?_
 have c1 := cloneWh Ai ni ci is w2 ((hri.ext he02).more z2) (by omega) li
 refine L.call rfl en_58 rfl (c1) ?_
 rintro e w3 ⟨A3, c3, rfl, ho3, he3⟩
 refine ⟨_, rfl, ?_⟩
 have z3 := he3.le
 have hk1 := hk1.ext he3
 have hk2 := hk2.ext he3
 refine L.va rfl (X.fieldAddr rfl Tryz.underlying52 rfl sz_49 (by decide)) ?_
 refine L.store rfl rfl (by conv => lhs; whnf) rfl sz_49 (hk1) (by first | decide | exact Nat.le_of_ble_eq_true rfl) ?_
 intro w4 hk4 hg4 hs4
 have hk4 : Blk w4 b1 52 (Ce.mk k t A3 ni c3 is Ar nr cr rs).vs.toArray := hk4
 have ho4 := own_lowB (ho3.kept hg4 (.inr (own_blk_ne ho3 hk1 (by decide)))) z2
 have hk2 := hk2.grown hg4 (fun e => by injection e with e; omega)
 have he04 : Ext w w4 := (he02.trans he3).grw hg4 (by intro g hg; injection hg with hg; omega)
 have z4 := he04.le
 refine L.nil ?_
 iterate 2 refine J.seq ?_
 refine J.region ?_
 refine L.va rfl (X.fieldAddr rfl Tryz.underlying52 rfl sz_49 (by decide)) ?_
 refine L.va rfl (X.load rfl sc_49 (by first | exact Ld.blk hk4 rfl)) ?_
 refine L.va rfl (X.len rfl Tryz.underlying49) ?_
 refine L.va rfl (X.move (by conv => lhs; whnf)) ?_
 refine L.nil ?_
 refine J.block ?_
 refine J.loop (X := Nat × List Wh) [3, 12, 13, 14, 15, 16, 17, 18, 19, 20, 21, 22, 23, 24, 25, 26, 27] (fun (i, js) => [(12, .int .i64 (i : Int))]) (fun (i, js) w' => i ≤ ni ∧ js.length = ni ∧ js.map Wh.con = is.map Wh.con ∧ (∀ y ∈ js, y.Own N w' ∧ y.n ≤ 20) ∧ w'.ownsRow w.heap.size 70 5 (.slice A3 ni c3) ni (js.flatMap Wh.vs) ∧ Blk w' b1 52 (Ce.mk k t A3 ni c3 is Ar nr cr rs).vs.toArray ∧ Blk w' b2 52 #[.int .u64 0, .int .i64 0, .slice none 0 0, .slice none 0 0] ∧ Ext w w' ∧ w.heap.size ≤ w'.heap.size) (fun (i, _) => ni - i) ((0, is)) (At1 (by first | rfl | exact at_int rfl (by omega) | exact at_slice rfl (by omega) | exact at_int rfl (by simp))) ?_ ?_
 ·refine ⟨Nat.zero_le _, li, rfl, fun y hy => ⟨⟨.inl ?_, (hx.hi y hy).m, (hx.hi y hy).o, (hx.hi y hy).cp⟩, hL.li y hy⟩, ho4, hk4, hk2, he04, by omega⟩
  exact (hx.hi y hy).r.ext he04
 ·rintro ⟨i, js⟩ g w5 ⟨hi, hl5, hc5, hj5, ho5, hk5, hq5, he5, z5⟩
  refine J.seq ?_
  refine J.region ?_
  refine L.va rfl (X.lss rfl rfl) ?_
  refine L.nil ?_
  refine J.seq ?_
  refine J.dec rfl (fun hlt => ?_) (fun hlt => ?_)
  ·have hlt : (i : Int) < (ni : Int) := hlt
   have hin : i < js.length := by omega
   obtain ⟨x, hx5⟩ : ∃ x, x = js.getD i wh0 := ⟨_, rfl⟩
   have gx := gtW (l := js) (i := i) hin
   have mx := memD (l := js) (i := i) (d := wh0) hin
   rw [← hx5] at gx mx
   have xO := (hj5 x mx).1
   have xn := (hj5 x mx).2
   have hA := own_ne ho5 (by omega)
   refine J.skip ?_
   refine J.seq ?_
   refine J.block ?_
   refine J.seq ?_
   refine J.region ?_
   refine L.va rfl (X.move (by conv => lhs; whnf)) ?_
   refine L.va rfl (X.assign (by conv => lhs; whnf)) ?_
   refine L.nil ?_
   refine J.draw (ℓ := 12) (S := Ext w5) mixed (fun w6 hS hS_h => ?_)
   refine D.va 0 rfl (by kernel_rfl) (fun _ _ _ h => h) rfl (fun w' hw => X.fieldAddr rfl Tryz.underlying52 rfl sz_49 (by decide)) hS ?_
   refine D.va 1 rfl (by kernel_rfl) (fun _ _ _ h => h) rfl (fun w' hw => X.load rfl sc_49 (by first | exact Ld.blk (hk5.ext hw) rfl | exact hA | exact Ld.flat2 wh_len (Reads.of_own (ho5.ext hw)) gx (r := 2) rfl)) hS ?_
   refine D.va 2 rfl (by kernel_rfl) (fun _ _ _ h => h) rfl (fun w' hw => X.move (by conv => lhs; whnf)) hS ?_
   refine D.va 3 rfl (by kernel_rfl) (fun _ _ _ h => h) rfl (fun w' hw => X.fieldAddr rfl Tryz.underlying52 rfl sz_49 (by decide)) hS ?_
   refine D.va 4 rfl (by kernel_rfl) (fun _ _ _ h => h) rfl (fun w' hw => X.load rfl sc_49 (by first | exact Ld.blk (hk5.ext hw) rfl | exact hA | exact Ld.flat2 wh_len (Reads.of_own (ho5.ext hw)) gx (r := 2) rfl)) hS ?_
   refine D.va 5 rfl (by kernel_rfl) (fun _ _ _ h => h) rfl (fun w' hw => X.move (by conv => lhs; whnf)) hS ?_
   refine D.va 6 rfl (by kernel_rfl) (fun _ _ _ h => h) rfl (fun w' hw => (by first | exact X.indexAddrn rfl rfl Tryz.underlying49 sz_70 (by first | exact Option.some_ne_none _ | exact hA) (by omega) | exact X.indexAddr rfl rfl Tryz.underlying49 sz_70 (by first | exact Option.some_ne_none _ | exact hA) (by omega))) hS ?_
   refine D.va 7 rfl (by kernel_rfl) (fun _ _ _ h => h) rfl (fun w' hw => X.fieldP rfl Tryz.underlying70 rfl sz_24 (by decide) (by first | exact Option.some_ne_none _ | exact hA)) hS ?_
   refine D.va 8 rfl (by kernel_rfl) (fun _ _ _ h => h) rfl (fun w' hw => X.load rfl sc_24 (by first | exact Ld.blk (hk5.ext hw) rfl | exact hA | exact Ld.flat2 wh_len (Reads.of_own (ho5.ext hw)) gx (r := 2) rfl)) hS ?_
   have zS := hS.le
   have c2 := clone32 x.A x.n x.c x.q _ ((xO.ext hS).at (by omega)).r (by omega)
   refine D.one 9 (by kernel_rfl) rfl ?_
   refine L.call rfl en_59 rfl (c2) ?_
   rintro e w7 ⟨A7, c7, rfl, ho7, he7⟩
   refine ⟨_, rfl, ?_⟩
   have hS1 := hS.trans he7
   refine L.nil ?_
   refine ⟨fun _ => hS1, ?_⟩
   have z7 := he7.le
   have ho57 := (ho5.ext hS).ext he7
   refine D.va 10 rfl (by kernel_rfl) (fun _ _ _ h => h) rfl (fun w' hw => (by first | exact X.indexAddrn rfl rfl Tryz.underlying49 sz_70 (by first | exact Option.some_ne_none _ | exact hA) (by omega) | exact X.indexAddr rfl rfl Tryz.underlying49 sz_70 (by first | exact Option.some_ne_none _ | exact hA) (by omega))) hS1 ?_
   refine D.va 11 rfl (by kernel_rfl) (fun _ _ _ h => h) rfl (fun w' hw => X.fieldP rfl Tryz.underlying70 rfl sz_24 (by decide) (by first | exact Option.some_ne_none _ | exact hA)) hS1 ?_
   refine D.one 12 (by kernel_rfl) rfl ?_
   refine L.storeO rfl rfl (by conv => lhs; whnf) rfl sz_24 (ho57) (by first | omega | (simp; omega)) ?_
   intro w8 ho8 hg8 hb8 hs8
   refine L.nil ?_
   refine ⟨fun h => absurd rfl h, ?_⟩
   have hC8 : TCh 70 w7 w8 := TCh.row ho57 hg8
   obtain ⟨y, hy⟩ : ∃ y : Wh, y = ⟨x.s, x.a, A7, x.n, c7, x.q, x.lo, x.hi⟩ := ⟨_, rfl⟩
   have hset := flat_set (f := Wh.vs) (r := 2) (v := .slice A7 x.n c7) (y := y) wh_len js i hin (by omega) (by
    have e : js[i]'hin = x := by
     have := gx
     rw [List.getElem?_eq_getElem hin] at this
     injection this
    rw [e, hy]
    rfl)
   have ho8 : w8.ownsRow w.heap.size 70 5 (.slice A3 ni c3) ni ((js.set i y).flatMap Wh.vs) := by
    rw [← hset]
    exact ho8
   have hcy : y.con = (js.getD i wh0).con := by rw [hy, ← hx5]
   have hN7 : w.heap.size ≤ w7.heap.size := by omega
   have yO : y.Own N w8 := by
    rw [hy]
    exact Wh.Own.put ⟨.inr (own_lowB ho7 (by omega)), xO.m, ⟨xO.o.s, xO.o.a, xO.o.q, xO.o.lo, xO.o.hi⟩, own_le' ho7⟩ (Below.mono hb8 hN) hC8 (by decide)
   have hk8 := hC8.blk ((hk5.ext hS).ext he7) (by decide)
   have hq8 := ((hq5.ext hS).ext he7)
   have e8 : Ext w w8 := ((he5.trans hS).trans he7).grw hg8 (fun g hg => by have := (ho57.lt g hg).1; omega)
   have hq8' := hC8.blk hq8 (by decide)
   refine D.done (by kernel_rfl) ?_
   replace hk5 := hk5.ext hS1
   refine J.region ?_
   refine L.va rfl (X.add rfl rfl (by omega)) ?_
   refine L.va rfl (X.move (by conv => lhs; whnf)) ?_
   refine L.nil ?_
   refine ⟨(i + 1, js.set i y), At1 (by first | rfl | exact at_int rfl (by omega) | exact at_slice rfl (by omega) | exact at_int rfl (by simp)), (by (iterate 17 refine Agr.lk rfl ?_); exact Agr.lk rfl (Agr.hav rfl Agr.rfl')), ?_⟩
   refine ⟨⟨by omega, by rw [List.length_set]; exact hl5, by rw [map_setD hin hcy]; exact hc5, fun z hz => ?_, ho8, hk8, hq8', e8, by omega⟩, by show ni - (i + 1) < ni - i; omega⟩
   rcases List.mem_or_eq_of_mem_set hz with hz | rfl
   ·exact ⟨(((hj5 z hz).1.ext hS).ext he7).put (Below.mono hb8 hN) hC8 (by decide), (hj5 z hz).2⟩
   ·exact ⟨yO, by rw [hy]; exact xn⟩
  ·have hlt : ¬ (i : Int) < (ni : Int) := hlt
   obtain rfl : i = ni := by omega
   have c6 := cloneRe Ar nr cr rs w5 ((hrr.ext he5).more he5.le) (by omega) lr
   refine J.exit ?_
   refine J.seq ?_
   refine J.region ?_
   refine L.va rfl (X.fieldAddr rfl Tryz.underlying52 rfl sz_50 (by decide)) ?_
   refine L.va rfl (X.load rfl sc_50 (by first | exact Ld.blk hk5 rfl)) ?_
   refine L.call rfl en_60 rfl (c6) ?_
   rintro e w6 ⟨A6, c6', rfl, ho6, he6⟩
   refine ⟨_, rfl, ?_⟩
   have z6 := he6.le
   have hk6 := hk5.ext he6
   have hq6 := hq5.ext he6
   refine L.va rfl (X.fieldAddr rfl Tryz.underlying52 rfl sz_50 (by decide)) ?_
   refine L.store rfl rfl (by conv => lhs; whnf) rfl sz_50 (hk6) (by first | decide | exact Nat.le_of_ble_eq_true rfl) ?_
   intro w7 hk7 hg7 hs7
   have hk7 : Blk w7 b1 52 (Ce.mk k t A3 i c3 js A6 nr c6' rs).vs.toArray := hk7
   have hC7 : TCh 52 w6 w7 := TCh.put hk6 hg7
   have ho7 := hC7.own ho6 (by decide)
   have hw7 := hC7.own (ho5.ext he6) (by decide)
   have hq7 := hq6.grown hg7 (fun e => by injection e with e; omega)
   have e7 : Ext w w7 := (he5.trans he6).grw hg7 (by intro g hg; injection hg with hg; omega)
   have z7 := e7.le
   have b7 : Below w.heap.size w6 w7 := Chg.below (.of_grown hg7 (S := fun g => g = b1) (fun g hg => by injection hg with hg; exact hg.symm)) (by omega) (fun g hg => by omega)
   have hw8 : ∀ y ∈ js, y.Own N w7 ∧ y.n ≤ 20 := fun y hy => ⟨((hj5 y hy).1.ext he6).put (Below.mono b7 hN) hC7 (by decide), (hj5 y hy).2⟩
   have ho7 := own_lowB ho7 z5
   refine L.nil ?_
   iterate 2 refine J.seq ?_
   refine J.region ?_
   refine L.va rfl (X.fieldAddr rfl Tryz.underlying52 rfl sz_50 (by decide)) ?_
   refine L.va rfl (X.load rfl sc_50 (by first | exact Ld.blk hk7 rfl)) ?_
   refine L.va rfl (X.len rfl Tryz.underlying50) ?_
   refine L.va rfl (X.move (by conv => lhs; whnf)) ?_
   refine L.nil ?_
   refine J.block ?_
   refine J.loop (X := Nat × List Re) [4, 35, 36, 37, 38, 39, 40, 41, 42, 43, 44, 45, 46, 47, 48, 49, 50] (fun (i, js) => [(35, .int .i64 (i : Int))]) (fun (j, ks) w' => j ≤ nr ∧ ks.length = nr ∧ ks.map Re.con = rs.map Re.con ∧ (∀ y ∈ ks, y.Own N w' ∧ y.n ≤ 300) ∧ (∀ y ∈ js, y.Own N w' ∧ y.n ≤ 20) ∧ w'.ownsRow w.heap.size 74 3 (.slice A6 nr c6') nr (ks.flatMap Re.vs) ∧ w'.ownsRow w.heap.size 70 5 (.slice A3 i c3) i (js.flatMap Wh.vs) ∧ Blk w' b1 52 (Ce.mk k t A3 i c3 js A6 nr c6' rs).vs.toArray ∧ Blk w' b2 52 #[.int .u64 0, .int .i64 0, .slice none 0 0, .slice none 0 0] ∧ Ext w w' ∧ w.heap.size ≤ w'.heap.size) (fun (i, _) => nr - i) ((0, rs)) (At1 (by first | rfl | exact at_int rfl (by omega) | exact at_slice rfl (by omega) | exact at_int rfl (by simp))) ?_ ?_
   ·refine ⟨Nat.zero_le _, lr, rfl, fun y hy => ⟨⟨.inl ((hx.hr y hy).r.ext e7), (hx.hr y hy).m, (hx.hr y hy).o⟩, hL.lr y hy⟩, hw8, ho7, hw7, hk7, hq7, e7, z7⟩
   ·rintro ⟨j, ks⟩ g w9 ⟨hj, hl9, hc9, hk9, hj9, ho9, hi9, hb9, hq9, e9, z9⟩
    refine J.seq ?_
    refine J.region ?_
    refine L.va rfl (X.lss rfl rfl) ?_
    refine L.nil ?_
    refine J.seq ?_
    refine J.dec rfl (fun hlt2 => ?_) (fun hlt2 => ?_)
    ·have hlt2 : (j : Int) < (nr : Int) := hlt2
     have hin : j < ks.length := by omega
     obtain ⟨x, hx9⟩ : ∃ x, x = ks.getD j re0 := ⟨_, rfl⟩
     have gx := gtR (l := ks) (i := j) hin
     have mx := memD (l := ks) (i := j) (d := re0) hin
     rw [← hx9] at gx mx
     have xO := (hk9 x mx).1
     have xn := (hk9 x mx).2
     have hA := own_ne ho9 (by omega)
     refine J.skip ?_
     refine J.seq ?_
     refine J.block ?_
     refine J.seq ?_
     refine J.region ?_
     refine L.va rfl (X.move (by conv => lhs; whnf)) ?_
     refine L.va rfl (X.assign (by conv => lhs; whnf)) ?_
     refine L.nil ?_
     refine J.draw (ℓ := 12) (S := Ext w9) mixed (fun w10 hS hS_h => ?_)
     refine D.va 0 rfl (by kernel_rfl) (fun _ _ _ h => h) rfl (fun w' hw => X.fieldAddr rfl Tryz.underlying52 rfl sz_50 (by decide)) hS ?_
     refine D.va 1 rfl (by kernel_rfl) (fun _ _ _ h => h) rfl (fun w' hw => X.load rfl sc_50 (by first | exact Ld.blk (hb9.ext hw) rfl | exact hA | exact Ld.flat2 re_len (Reads.of_own (ho9.ext hw)) gx (r := 0) rfl)) hS ?_
     refine D.va 2 rfl (by kernel_rfl) (fun _ _ _ h => h) rfl (fun w' hw => X.move (by conv => lhs; whnf)) hS ?_
     refine D.va 3 rfl (by kernel_rfl) (fun _ _ _ h => h) rfl (fun w' hw => X.fieldAddr rfl Tryz.underlying52 rfl sz_50 (by decide)) hS ?_
     refine D.va 4 rfl (by kernel_rfl) (fun _ _ _ h => h) rfl (fun w' hw => X.load rfl sc_50 (by first | exact Ld.blk (hb9.ext hw) rfl | exact hA | exact Ld.flat2 re_len (Reads.of_own (ho9.ext hw)) gx (r := 0) rfl)) hS ?_
     refine D.va 5 rfl (by kernel_rfl) (fun _ _ _ h => h) rfl (fun w' hw => X.move (by conv => lhs; whnf)) hS ?_
     refine D.va 6 rfl (by kernel_rfl) (fun _ _ _ h => h) rfl (fun w' hw => (by first | exact X.indexAddrn rfl rfl Tryz.underlying50 sz_74 (by first | exact Option.some_ne_none _ | exact hA) (by omega) | exact X.indexAddr rfl rfl Tryz.underlying50 sz_74 (by first | exact Option.some_ne_none _ | exact hA) (by omega))) hS ?_
     refine D.va 7 rfl (by kernel_rfl) (fun _ _ _ h => h) rfl (fun w' hw => X.fieldP rfl Tryz.underlying74 rfl sz_71 (by decide) (by first | exact Option.some_ne_none _ | exact hA)) hS ?_
     refine D.va 8 rfl (by kernel_rfl) (fun _ _ _ h => h) rfl (fun w' hw => X.load rfl sc_71 (by first | exact Ld.blk (hb9.ext hw) rfl | exact hA | exact Ld.flat2 re_len (Reads.of_own (ho9.ext hw)) gx (r := 0) rfl)) hS ?_
     have zS := hS.le
     have c2 := cloneBy x.A x.n x.c x.b _ ((xO.ext hS).at (by omega)).r (by omega)
     refine D.one 9 (by kernel_rfl) rfl ?_
     refine L.call rfl en_61 rfl (c2) ?_
     rintro e w11 ⟨A11, c11, rfl, ho11, he11⟩
     refine ⟨_, rfl, ?_⟩
     have hS1 := hS.trans he11
     refine L.nil ?_
     refine ⟨fun _ => hS1, ?_⟩
     have z11 := he11.le
     have hoA := (ho9.ext hS).ext he11
     refine D.va 10 rfl (by kernel_rfl) (fun _ _ _ h => h) rfl (fun w' hw => (by first | exact X.indexAddrn rfl rfl Tryz.underlying50 sz_74 (by first | exact Option.some_ne_none _ | exact hA) (by omega) | exact X.indexAddr rfl rfl Tryz.underlying50 sz_74 (by first | exact Option.some_ne_none _ | exact hA) (by omega))) hS1 ?_
     refine D.va 11 rfl (by kernel_rfl) (fun _ _ _ h => h) rfl (fun w' hw => X.fieldP rfl Tryz.underlying74 rfl sz_71 (by decide) (by first | exact Option.some_ne_none _ | exact hA)) hS1 ?_
     refine D.one 12 (by kernel_rfl) rfl ?_
     refine L.storeO rfl rfl (by conv => lhs; whnf) rfl sz_71 (hoA) (by first | omega | (simp; omega)) ?_
     intro w12 ho12 hg12 hb12 hs12
     refine L.nil ?_
     refine ⟨fun h => absurd rfl h, ?_⟩
     have hC12 : TCh 74 w11 w12 := TCh.row hoA hg12
     obtain ⟨y, hy⟩ : ∃ y : Re, y = ⟨A11, x.n, c11, x.b, x.lo, x.hi⟩ := ⟨_, rfl⟩
     have hset := flat_set (f := Re.vs) (r := 0) (v := .slice A11 x.n c11) (y := y) re_len ks j hin (by omega) (by
      have e : ks[j]'hin = x := by
       have := gx
       rw [List.getElem?_eq_getElem hin] at this
       injection this
      rw [e, hy]
      rfl)
     have ho12 : w12.ownsRow w.heap.size 74 3 (.slice A6 nr c6') nr ((ks.set j y).flatMap Re.vs) := by
      rw [← hset]
      exact ho12
     have hcy : y.con = (ks.getD j re0).con := by rw [hy, ← hx9]
     have yO : y.Own N w12 := by
      rw [hy]
      exact Re.Own.put ⟨.inr (own_lowB ho11 (by omega)), xO.m, ⟨xO.o.b, xO.o.lo, xO.o.hi⟩⟩ (Below.mono hb12 hN) hC12 (by decide)
     have hk12 := hC12.blk ((hb9.ext hS).ext he11) (by decide)
     have hq12 := hC12.blk ((hq9.ext hS).ext he11) (by decide)
     have hi12 := hC12.own ((hi9.ext hS).ext he11) (by decide)
     have e12 : Ext w w12 := ((e9.trans hS).trans he11).grw hg12 (fun g hg => (hoA.lt g hg).1)
     refine D.done (by kernel_rfl) ?_
     replace hb9 := hb9.ext hS1
     refine J.region ?_
     refine L.va rfl (X.add rfl rfl (by omega)) ?_
     refine L.va rfl (X.move (by conv => lhs; whnf)) ?_
     refine L.nil ?_
     refine ⟨(j + 1, ks.set j y), At1 (by first | rfl | exact at_int rfl (by omega) | exact at_slice rfl (by omega) | exact at_int rfl (by simp)), (by (iterate 17 refine Agr.lk rfl ?_); exact Agr.lk rfl (Agr.hav rfl Agr.rfl')), ?_⟩
     refine ⟨⟨by omega, by rw [List.length_set]; exact hl9, by rw [map_setD hin hcy]; exact hc9, fun z hz => ?_, fun z hz => ⟨(((hj9 z hz).1.ext hS).ext he11).put (Below.mono hb12 hN) hC12 (by decide), (hj9 z hz).2⟩, ho12, hi12, hk12, hq12, e12, by omega⟩, by show nr - (j + 1) < nr - j; omega⟩
     rcases List.mem_or_eq_of_mem_set hz with hz | rfl
     ·exact ⟨(((hk9 z hz).1.ext hS).ext he11).put (Below.mono hb12 hN) hC12 (by decide), (hk9 z hz).2⟩
     ·exact ⟨yO, by rw [hy]; exact xn⟩
    ·have hlt2 : ¬ (j : Int) < (nr : Int) := hlt2
     obtain rfl : j = nr := by omega
     refine J.exit ?_
     refine J.seq ?_
     refine J.region ?_
     refine L.va rfl ((by first | exact X.loadAgg rfl (range_l hb9) Tryz.underlying52 rfl (by kernel_rfl) | exact X.loadAgg rfl (range_blk hb9) Tryz.underlying52 rfl (by kernel_rfl))) ?_
     refine L.storeAgg (vs := [_, _, _, _]) rfl rfl rfl rfl sz_52 (hq9) rfl ?_
     intro w10 hk10 hg10 hs10
     have hk10 : Blk w10 b2 52 (Ce.mk k t A3 i c3 js A6 j c6' rs).vs.toArray := hk10
     have hC10 : TCh 52 w9 w10 := TCh.put hq9 hg10
     have b10 : Below w.heap.size w9 w10 := Chg.below (.of_grown hg10 (S := fun g => g = b2) (fun g hg => by injection hg with hg; exact hg.symm)) (by omega) (fun g hg => by omega)
     have e10 : Ext w w10 := e9.grw hg10 (by intro g hg; injection hg with hg; omega)
     have z10 := e10.le
     refine L.nil ?_
     refine J.ret ?_
     refine finC rfl (run_cell hk10 Tryz.underlying52 rfl (by kernel_rfl)) ?_
     refine ⟨⟨k, t, A3, i, c3, js, A6, j, c6', ks⟩, rfl, ?_, ⟨hx.k, hx.t, own_lowB (hC10.own hi9 (by decide)) hN, fun y hy => (hj9 y hy).1.put (Below.mono b10 hN) hC10 (by decide), hl5, own_lowB (hC10.own ho9 (by decide)) hN, fun y hy => (hk9 y hy).1.put (Below.mono b10 hN) hC10 (by decide), hl9, ⟨Li, Lr, fun y hy => (hj9 y hy).2, fun y hy => (hk9 y hy).2⟩⟩, e10⟩
     show Con.mk k t _ _ = Con.mk k t _ _
     rw [hc5, hc9]
end Go.Proofs.YtpomklkfedpkfaaGreat
namespace Go.Proofs.YtpomklkfedpkfaaGreat
set_option maxRecDepth 100000
open Go.RowKit H
open Exa Flo
set_option linter.unusedVariables false
def okQ (q : List Int) : Bool := decide (q.length ≤ 7) && decide (0 < q.length → q.getD (q.length - 1) 0 ≠ 0)
def okW (x : WC) : Bool := decide (0 ≤ x.2.1 ∧ x.1 ≤ x.2.1 ∧ -x.2.1 ≤ x.1 ∧ x.2.2.2.1 ≤ x.2.2.2.2) && okQ x.2.2.1
def okR (x : RC) : Bool := decide (readE x.1 = 0) && decide (¬ keyF x.2.2 < keyF x.2.1)
def rightC (s : Sch) (m : Nat) (x : Con) : Bool := (s.kb m && decide ((x.k : Int) < s.kv m ∧ 1 ≤ x.t ∧ x.is.length = s.n1 ∧ x.rs.length = s.n2)) && (x.is.all okW && x.rs.all okR)
section
variable {s : Sch} {m : Nat} {x : Ce}
theorem all_no {α : Type} {p : α → Bool} {l : List α} {d : α} {i : Nat} (hi : i < l.length) (h : p (l.getD i d) = false) : l.all p = false := by
  rw [← Bool.not_eq_true, List.all_eq_true]
  intro h2
  rw [h2 _ (memD hi)] at h
  cases h
theorem all_yes {α : Type} {p : α → Bool} {l : List α} {d : α} (h : ∀ i, i < l.length → p (l.getD i d) = true) : l.all p = true := by
  rw [List.all_eq_true]
  intro q hq
  obtain ⟨i, hi, rfl⟩ := List.getElem_of_mem hq
  have := h i hi
  rwa [List.getD, List.getElem?_eq_getElem hi] at this
theorem rightC_kb (h : s.kb m = false) : rightC s m x.con = false := by unfold rightC; rw [h]; rfl
theorem rightC_h (h : ¬ ((x.k : Int) < s.kv m ∧ 1 ≤ x.t ∧ x.is.length = s.n1 ∧ x.rs.length = s.n2)) : rightC s m x.con = false := by
  unfold rightC
  rw [decide_eq_false (by simpa [Ce.con] using h), Bool.and_false]
  rfl
theorem rightC_i {i : Nat} (hi : i < x.is.length) (h : okW (x.is.getD i wh0).con = false) : rightC s m x.con = false := by
  unfold rightC
  rw [show (x.con.is.all okW) = false from by
    show (x.is.map Wh.con).all okW = false
    rw [List.all_map]
    exact all_no (d := wh0) hi h]
  simp
theorem rightC_r {i : Nat} (hi : i < x.rs.length) (h : okR (x.rs.getD i re0).con = false) : rightC s m x.con = false := by
  unfold rightC
  rw [show (x.con.rs.all okR) = false from by
    show (x.rs.map Re.con).all okR = false
    rw [List.all_map]
    exact all_no (d := re0) hi h]
  simp
theorem rightC_yes (h0 : s.kb m = true) (h1 : (x.k : Int) < s.kv m ∧ 1 ≤ x.t ∧ x.is.length = s.n1 ∧ x.rs.length = s.n2) (h2 : ∀ i, i < x.is.length → okW (x.is.getD i wh0).con = true) (h3 : ∀ i, i < x.rs.length → okR (x.rs.getD i re0).con = true) : rightC s m x.con = true := by
  unfold rightC
  rw [h0, decide_eq_true (by simpa [Ce.con] using h1), show (x.con.is.all okW) = true from by
    show (x.is.map Wh.con).all okW = true
    rw [List.all_map]
    exact all_yes (d := wh0) h2, show (x.con.rs.all okR) = true from by
    show (x.rs.map Re.con).all okR = true
    rw [List.all_map]
    exact all_yes (d := re0) h3]
  rfl
theorem okW_no {y : Wh} (h : y.a < 0 ∨ y.a < y.s ∨ y.s < -y.a ∨ y.hi < y.lo) : okW y.con = false := by
  unfold okW
  rw [decide_eq_false]
  · rfl
  · show ¬ (0 ≤ y.a ∧ y.s ≤ y.a ∧ -y.a ≤ y.s ∧ y.lo ≤ y.hi)
    omega
theorem okW_q {y : Wh} (h : okQ y.q = false) : okW y.con = false := by
  unfold okW
  rw [show okQ y.con.2.2.1 = false from h, Bool.and_false]
theorem okW_yes {y : Wh} (h : 0 ≤ y.a ∧ y.s ≤ y.a ∧ -y.a ≤ y.s ∧ y.lo ≤ y.hi) (hq : okQ y.q = true) : okW y.con = true := by
  unfold okW
  rw [decide_eq_true (show 0 ≤ y.con.2.1 ∧ y.con.1 ≤ y.con.2.1 ∧ -y.con.2.1 ≤ y.con.1 ∧ y.con.2.2.2.1 ≤ y.con.2.2.2.2 from h), show okQ y.con.2.2.1 = true from hq]
  rfl
theorem okQ_siz {q : List Int} {k : Nat} (hs : SizN q k) (h7 : q.length ≤ 7) : okQ q = decide (k = q.length) := by
  unfold okQ
  rw [decide_eq_true h7, Bool.true_and]
  by_cases h : k = q.length
  · rw [decide_eq_true h, decide_eq_true]
    intro h0
    subst h
    exact hs.nz h0
  · rw [decide_eq_false h, decide_eq_false]
    intro h0
    have := hs.le
    exact h0 (by omega) (hs.z _ (by omega) (by omega))
end
theorem aright {s : Sch} {m : Nat} {x : Ce} {w : World} {N : Nat} (H : s.Here w) (hm : m < 4294967296) (hN : N ≤ w.heap.size) (hx : x.At N w) (hL : x.Lt) : Calls Tryz.prog 33 #[s.val, .int .u32 (m : Int), x.val] w fun e w' => e = .returned (.bool (rightC s m x.con)) ∧ Ext w w' := by
 have li := hx.li
 have lr := hx.lr
 have Li := hL.i
 have Lr := hL.r
 have hle := H.hle
 have no : ∀ w' : World, rightC s m x.con = false → Ext w w' → Ending.returned (.bool false) = .returned (.bool (rightC s m x.con)) ∧ Ext w w' := fun w' h he => ⟨by rw [h], he⟩
 refine enter Tryz.func33 rfl (by kernel_rfl) ?_
 refine J.seq ?_
 refine J.region ?_
 refine L.boxA (l := [_, _, _, _]) rfl rfl ?_
 intro b1 w1 hb1 hs1 hk1 he1
 refine L.boxA (l := [_, _, _, _]) rfl rfl ?_
 intro b2 w2 hb2 hs2 hk2 he2
 have he02 := he1.trans he2
 have hk1 := hk1.ext he2
 have hk2 : Blk w2 b2 52 x.vs.toArray := hk2
 refine L.va rfl (X.assign (by conv => lhs; whnf)) ?_
 refine L.nil ?_
 refine J.seq ?_
 refine J.region ?_
 refine L.va rfl ((by first | exact X.loadAgg rfl (range_l hk1) Tryz.underlying26 rfl (by kernel_rfl) | exact X.loadAgg rfl (range_blk hk1) Tryz.underlying26 rfl (by kernel_rfl))) ?_
 refine L.va rfl (X.move (by conv => lhs; whnf)) ?_
 refine L.call rfl en_31 rfl ((H.ext he02).keys hm) ?_
 rintro e w3 ⟨rfl, he3⟩
 refine ⟨_, rfl, ?_⟩
 have he3 : Ext w2 w3 := he3
 have he03 := he02.trans he3
 have hk1 := hk1.ext he3
 have hk2 := hk2.ext he3
 have ek : x.con.k = x.k := rfl
 refine L.va rfl (X.move (by conv => lhs; whnf)) ?_
 iterate 2 refine L.va rfl (X.extract rfl rfl) ?_
 iterate 2 refine L.va rfl (X.assign (by conv => lhs; whnf)) ?_
 refine L.nil ?_
 iterate 2 refine J.seq ?_
 refine J.region ?_
 refine L.va rfl (X.move (by conv => lhs; whnf)) ?_
 refine L.va rfl (X.not rfl) ?_
 refine L.va rfl (X.move (by conv => lhs; whnf)) ?_
 cases hkb : s.kb m
 ·refine L.caseBT (k := 23) rfl (by rfl) ?_
  iterate 4 refine L.no rfl ?_
  refine L.va rfl (X.pickT rfl (by conv => lhs; whnf)) ?_
  refine L.va rfl (X.move (by conv => lhs; whnf)) ?_
  iterate 3 refine L.no rfl ?_
  refine L.va rfl (X.pickT rfl (by conv => lhs; whnf)) ?_
  refine L.va rfl (X.move (by conv => lhs; whnf)) ?_
  iterate 7 refine L.no rfl ?_
  refine L.va rfl (X.pickT rfl (by conv => lhs; whnf)) ?_
  refine L.va rfl (X.move (by conv => lhs; whnf)) ?_
  iterate 7 refine L.no rfl ?_
  refine L.va rfl (X.pickT rfl (by conv => lhs; whnf)) ?_
  refine L.nil ?_
  refine J.iteT rfl ?_
  refine J.seq ?_
  refine J.region ?_
  refine L.va rfl (X.assign (by conv => lhs; whnf)) ?_
  refine L.nil ?_
  refine J.ret ?_
  refine thn_ret <| ?_
  refine fin1 ?_
  exact no _ (rightC_kb hkb) he03
 ·refine L.caseBF (k := 23) rfl (by rfl) ?_
  refine L.va rfl (X.fieldAddr rfl Tryz.underlying52 rfl sz_48 (by decide)) ?_
  refine L.va rfl (X.load rfl sc_48 (by first | exact Ld.blk hk1 rfl | exact Ld.blk hk2 rfl)) ?_
  refine L.va rfl (X.move (by conv => lhs; whnf)) ?_
  refine L.va rfl (X.geq rfl rfl) ?_
  refine L.va rfl (X.pickF rfl (by conv => lhs; whnf)) ?_
  refine L.va rfl (X.move (by conv => lhs; whnf)) ?_
  refine L.caseDec (k := 29) rfl (fun h1 => ?_) (fun h1 => ?_)
  ·refine L.no rfl ?_
   iterate 2 refine L.no rfl ?_
   refine L.va rfl (X.pickT rfl (by conv => lhs; whnf)) ?_
   refine L.va rfl (X.move (by conv => lhs; whnf)) ?_
   iterate 7 refine L.no rfl ?_
   refine L.va rfl (X.pickT rfl (by conv => lhs; whnf)) ?_
   refine L.va rfl (X.move (by conv => lhs; whnf)) ?_
   iterate 7 refine L.no rfl ?_
   refine L.va rfl (X.pickT rfl (by conv => lhs; whnf)) ?_
   refine L.nil ?_
   refine J.iteT rfl ?_
   refine J.seq ?_
   refine J.region ?_
   refine L.va rfl (X.assign (by conv => lhs; whnf)) ?_
   refine L.nil ?_
   refine J.ret ?_
   refine thn_ret <| ?_
   refine fin1 ?_
   exact no _ (rightC_h (by omega)) he03
  refine L.va rfl (X.fieldAddr rfl Tryz.underlying52 rfl sz_2 (by decide)) ?_
  refine L.va rfl (X.load rfl sc_2 (by first | exact Ld.blk hk1 rfl | exact Ld.blk hk2 rfl)) ?_
  refine L.va rfl (X.lss rfl rfl) ?_
  refine L.va rfl (X.pickF rfl (by conv => lhs; whnf)) ?_
  refine L.va rfl (X.move (by conv => lhs; whnf)) ?_
  refine L.caseDec (k := 34) rfl (fun h2 => ?_) (fun h2 => ?_)
  ·refine L.no rfl ?_
   iterate 6 refine L.no rfl ?_
   refine L.va rfl (X.pickT rfl (by conv => lhs; whnf)) ?_
   refine L.va rfl (X.move (by conv => lhs; whnf)) ?_
   iterate 7 refine L.no rfl ?_
   refine L.va rfl (X.pickT rfl (by conv => lhs; whnf)) ?_
   refine L.nil ?_
   refine J.iteT rfl ?_
   refine J.seq ?_
   refine J.region ?_
   refine L.va rfl (X.assign (by conv => lhs; whnf)) ?_
   refine L.nil ?_
   refine J.ret ?_
   refine thn_ret <| ?_
   refine fin1 ?_
   exact no _ (rightC_h (by omega)) he03
  refine L.va rfl (X.fieldAddr rfl Tryz.underlying52 rfl sz_49 (by decide)) ?_
  refine L.va rfl (X.load rfl sc_49 (by first | exact Ld.blk hk1 rfl | exact Ld.blk hk2 rfl)) ?_
  refine L.va rfl (X.len rfl Tryz.underlying49) ?_
  refine L.va rfl (X.fieldAddr rfl Tryz.underlying26 rfl sz_23 (by decide)) ?_
  refine L.va rfl (X.load rfl sc_23 (by first | exact Ld.blk hk1 rfl | exact Ld.blk hk2 rfl)) ?_
  refine L.va rfl (X.len rfl Tryz.underlying23) ?_
  refine L.va rfl (X.neq rfl rfl) ?_
  refine L.va rfl (X.pickF rfl (by conv => lhs; whnf)) ?_
  refine L.va rfl (X.move (by conv => lhs; whnf)) ?_
  refine L.caseNdec (k := 43) rfl (fun h3 => ?_) (fun h3 => ?_)
  ·refine L.no rfl ?_
   iterate 6 refine L.no rfl ?_
   refine L.va rfl (X.pickT rfl (by conv => lhs; whnf)) ?_
   refine L.nil ?_
   refine J.iteT rfl ?_
   refine J.seq ?_
   refine J.region ?_
   refine L.va rfl (X.assign (by conv => lhs; whnf)) ?_
   refine L.nil ?_
   refine J.ret ?_
   refine thn_ret <| ?_
   refine fin1 ?_
   exact no _ (rightC_h (by omega)) he03
  refine L.va rfl (X.fieldAddr rfl Tryz.underlying52 rfl sz_50 (by decide)) ?_
  refine L.va rfl (X.load rfl sc_50 (by first | exact Ld.blk hk1 rfl | exact Ld.blk hk2 rfl)) ?_
  refine L.va rfl (X.len rfl Tryz.underlying50) ?_
  refine L.va rfl (X.fieldAddr rfl Tryz.underlying26 rfl sz_23 (by decide)) ?_
  refine L.va rfl (X.load rfl sc_23 (by first | exact Ld.blk hk1 rfl | exact Ld.blk hk2 rfl)) ?_
  refine L.va rfl (X.len rfl Tryz.underlying23) ?_
  refine L.va rfl (X.neq rfl rfl) ?_
  refine L.va rfl (X.pickF rfl (by conv => lhs; whnf)) ?_
  refine L.nil ?_
  refine J.ndec rfl (fun h4 => ?_) (fun h4 => ?_)
  ·refine J.seq ?_
   refine J.region ?_
   refine L.va rfl (X.assign (by conv => lhs; whnf)) ?_
   refine L.nil ?_
   refine J.ret ?_
   refine thn_ret <| ?_
   refine fin1 ?_
   exact no _ (rightC_h (by omega)) he03
  have hh : (x.k : Int) < s.kv m ∧ 1 ≤ x.t ∧ x.is.length = s.n1 ∧ x.rs.length = s.n2 := by omega
  refine J.skip ?_
  refine J.cut (X := Unit) [6, 10, 52, 53, 54, 55, 56, 57, 58, 59, 60, 61, 62, 63, 64, 65, 66, 67, 68, 69, 70, 71, 72, 73, 74, 75, 76, 77, 78, 79, 80, 81, 82, 83, 84, 85, 86, 87, 88, 89, 90, 91, 92, 93, 94, 95, 96, 97, 98, 99, 100] (fun _ => []) (fun _ w' => (∀ i, i < x.is.length → okW (x.is.getD i wh0).con = true) ∧ Ext w3 w') ?_ ?_
  ·refine J.seq ?_
   refine J.region ?_
   refine L.va rfl (X.fieldAddr rfl Tryz.underlying52 rfl sz_49 (by decide)) ?_
   refine L.va rfl (X.load rfl sc_49 (by first | exact Ld.blk hk1 rfl | exact Ld.blk hk2 rfl)) ?_
   refine L.va rfl (X.len rfl Tryz.underlying49) ?_
   refine L.va rfl (X.move (by conv => lhs; whnf)) ?_
   refine L.nil ?_
   refine J.block ?_
   refine J.loop (X := Nat) [6, 10, 55, 56, 57, 58, 59, 60, 61, 62, 63, 64, 65, 66, 67, 68, 69, 70, 71, 72, 73, 74, 75, 76, 77, 78, 79, 80, 81, 82, 83, 84, 85, 86, 87, 88, 89, 90, 91, 92, 93, 94, 95, 96, 97, 98, 99, 100] (fun i => [(55, .int .i64 (i : Int))]) (fun i w' => i ≤ x.ni ∧ (∀ j, j < i → okW (x.is.getD j wh0).con = true) ∧ Ext w3 w') (fun i => x.ni - i) (0) (At1 (by first | rfl | exact at_int rfl (by omega) | exact at_slice rfl (by omega) | exact at_int rfl (by simp))) ?_ ?_
   ·exact ⟨Nat.zero_le _, fun j hj => absurd hj (by omega), Ext.refl _⟩
   ·rintro i g w4 ⟨hi, hP, he34⟩
    have he4 := he03.trans he34
    have z4 := he4.le
    refine J.seq ?_
    refine J.region ?_
    refine L.va rfl (X.lss rfl rfl) ?_
    refine L.nil ?_
    refine J.seq ?_
    refine J.dec rfl (fun hlt => ?_) (fun hlt => ?_)
    ·have hin : i < x.is.length := by omega
     have hr4 := hx.i.ext he4
     have hA := hr4.some_ (by omega)
     have gy := gtW hin
     have my := memD (l := x.is) (i := i) (d := wh0) hin
     obtain ⟨y, hy⟩ : ∃ y, y = x.is.getD i wh0 := ⟨_, rfl⟩
     rw [← hy] at gy my
     have hbad : okW y.con = false → rightC s m x.con = false := fun h => rightC_i hin (by rw [← hy]; exact h)
     have y4 := (hx.hi y my).ext he4
     have yo := y4.o
     have ya := yo.a
     have ycp := y4.cp
     have y20 := hL.li y my
     have yl := y4.len
     refine J.skip ?_
     refine J.seq ?_
     refine J.block ?_
     refine J.seq ?_
     refine J.region ?_
     refine L.va rfl ((by first | exact X.indexAddrn rfl rfl Tryz.underlying49 sz_70 (by first | exact Option.some_ne_none _ | exact hA) (by omega) | exact X.indexAddr rfl rfl Tryz.underlying49 sz_70 (by first | exact Option.some_ne_none _ | exact hA) (by omega))) ?_
     refine L.va rfl (X.loadRow (cs := y.vs) rfl hr4 (fun r u hu => flat_row wh_len gy r u hu) (Nat.zero_lt_succ _) Tryz.underlying70 rfl (by kernel_rfl)) ?_
     refine L.alloc rfl zr_70 ?_
     intro b5 w5 hb5 hs5 hk5 he5
     refine L.storeAgg (vs := [_, _, _, _, _]) rfl rfl rfl rfl sz_70 (hk5) rfl ?_
     intro w6 hk6 hg6 hs6
     have he46 : Ext w4 w6 := he5.grw hg6 (by intro g hg; injection hg with hg; omega)
     have hk6 : Blk w6 b5 70 y.vs.toArray := hk6
     have he06 := he4.trans he46
     refine L.nil ?_
     refine J.seq ?_
     refine J.draw (ℓ := 1000000) (S := Ext w6) mixed (fun w7 hS hS_h => ?_)
     refine D.va 0 rfl (by kernel_rfl) (fun _ _ _ h => h) rfl (fun w' hw => X.fieldAddr rfl Tryz.underlying70 rfl sz_2 (by decide)) hS ?_
     refine D.va 1 rfl (by kernel_rfl) (fun _ _ _ h => h) rfl (fun w' hw => X.load rfl sc_2 (by first | exact Ld.blk (hk6.ext hw) rfl)) hS ?_
     refine D.va 2 rfl (by kernel_rfl) (fun _ _ _ h => h) rfl (fun w' hw => X.lss rfl rfl) hS ?_
     refine D.va 3 rfl (by kernel_rfl) (fun _ _ _ h => h) rfl (fun w' hw => X.move (by conv => lhs; whnf)) hS ?_
     have he07 := he06.trans hS
     refine D.caseDec (k := 62) rfl (fun h1 => ?_) (fun h1 => ?_)
     ·refine D.no 4 rfl (by kernel_rfl) (fun _ _ _ h => h) rfl hS ?_
      refine D.no 5 rfl (by kernel_rfl) (fun _ _ _ h => h) rfl hS ?_
      refine D.no 6 rfl (by kernel_rfl) (fun _ _ _ h => h) rfl hS ?_
      refine D.no 7 rfl (by kernel_rfl) (fun _ _ _ h => h) rfl hS ?_
      refine D.no 8 rfl (by kernel_rfl) (fun _ _ _ h => h) rfl hS ?_
      refine D.va 9 rfl (by kernel_rfl) (fun _ _ _ h => h) rfl (fun w' hw => X.pickT rfl (by conv => lhs; whnf)) hS ?_
      refine D.va 10 rfl (by kernel_rfl) (fun _ _ _ h => h) rfl (fun w' hw => X.move (by conv => lhs; whnf)) hS ?_
      refine D.no 11 rfl (by kernel_rfl) (fun _ _ _ h => h) rfl hS ?_
      refine D.no 12 rfl (by kernel_rfl) (fun _ _ _ h => h) rfl hS ?_
      refine D.no 13 rfl (by kernel_rfl) (fun _ _ _ h => h) rfl hS ?_
      refine D.no 14 rfl (by kernel_rfl) (fun _ _ _ h => h) rfl hS ?_
      refine D.no 15 rfl (by kernel_rfl) (fun _ _ _ h => h) rfl hS ?_
      refine D.no 16 rfl (by kernel_rfl) (fun _ _ _ h => h) rfl hS ?_
      refine D.va 17 rfl (by kernel_rfl) (fun _ _ _ h => h) rfl (fun w' hw => X.pickT rfl (by conv => lhs; whnf)) hS ?_
      refine D.va 18 rfl (by kernel_rfl) (fun _ _ _ h => h) rfl (fun w' hw => X.move (by conv => lhs; whnf)) hS ?_
      refine D.no 19 rfl (by kernel_rfl) (fun _ _ _ h => h) rfl hS ?_
      refine D.no 20 rfl (by kernel_rfl) (fun _ _ _ h => h) rfl hS ?_
      refine D.no 21 rfl (by kernel_rfl) (fun _ _ _ h => h) rfl hS ?_
      refine D.no 22 rfl (by kernel_rfl) (fun _ _ _ h => h) rfl hS ?_
      refine D.no 23 rfl (by kernel_rfl) (fun _ _ _ h => h) rfl hS ?_
      refine D.va 24 rfl (by kernel_rfl) (fun _ _ _ h => h) rfl (fun w' hw => X.pickT rfl (by conv => lhs; whnf)) hS ?_
      refine D.va 25 rfl (by kernel_rfl) (fun _ _ _ h => h) rfl (fun w' hw => X.move (by conv => lhs; whnf)) hS ?_
      refine D.no 26 rfl (by kernel_rfl) (fun _ _ _ h => h) rfl hS ?_
      refine D.no 27 rfl (by kernel_rfl) (fun _ _ _ h => h) rfl hS ?_
      refine D.no 28 rfl (by kernel_rfl) (fun _ _ _ h => h) rfl hS ?_
      refine D.no 29 rfl (by kernel_rfl) (fun _ _ _ h => h) rfl hS ?_
      refine D.va 30 rfl (by kernel_rfl) (fun _ _ _ h => h) rfl (fun w' hw => X.pickT rfl (by conv => lhs; whnf)) hS ?_
      refine D.va 31 rfl (by kernel_rfl) (fun _ _ _ h => h) rfl (fun w' hw => X.move (by conv => lhs; whnf)) hS ?_
      refine D.no 32 rfl (by kernel_rfl) (fun _ _ _ h => h) rfl hS ?_
      refine D.no 33 rfl (by kernel_rfl) (fun _ _ _ h => h) rfl hS ?_
      refine D.no 34 rfl (by kernel_rfl) (fun _ _ _ h => h) rfl hS ?_
      refine D.no 35 rfl (by kernel_rfl) (fun _ _ _ h => h) rfl hS ?_
      refine D.no 36 rfl (by kernel_rfl) (fun _ _ _ h => h) rfl hS ?_
      refine D.no 37 rfl (by kernel_rfl) (fun _ _ _ h => h) rfl hS ?_
      refine D.no 38 rfl (by kernel_rfl) (fun _ _ _ h => h) rfl hS ?_
      refine D.no 39 rfl (by kernel_rfl) (fun _ _ _ h => h) rfl hS ?_
      refine D.va 40 rfl (by kernel_rfl) (fun _ _ _ h => h) rfl (fun w' hw => X.pickT rfl (by conv => lhs; whnf)) hS ?_
      refine D.done (by kernel_rfl) ?_
      replace hk6 := hk6.ext hS
      refine J.iteT rfl ?_
      refine J.seq ?_
      refine J.region ?_
      refine L.va rfl (X.assign (by conv => lhs; whnf)) ?_
      refine L.nil ?_
      refine J.ret ?_
      refine inB_ret <|  thn_ret <|  thn_ret <|  inB_ret <|  thn_ret <| ?_
      refine fin1 ?_
      exact no _ (hbad (okW_no (.inl h1))) he07
     ·refine D.va 4 rfl (by kernel_rfl) (fun _ _ _ h => h) rfl (fun w' hw => X.fieldAddr rfl Tryz.underlying70 rfl sz_2 (by decide)) hS ?_
      refine D.va 5 rfl (by kernel_rfl) (fun _ _ _ h => h) rfl (fun w' hw => X.load rfl sc_2 (by first | exact Ld.blk (hk6.ext hw) rfl)) hS ?_
      refine D.va 6 rfl (by kernel_rfl) (fun _ _ _ h => h) rfl (fun w' hw => X.fieldAddr rfl Tryz.underlying70 rfl sz_2 (by decide)) hS ?_
      refine D.va 7 rfl (by kernel_rfl) (fun _ _ _ h => h) rfl (fun w' hw => X.load rfl sc_2 (by first | exact Ld.blk (hk6.ext hw) rfl)) hS ?_
      refine D.va 8 rfl (by kernel_rfl) (fun _ _ _ h => h) rfl (fun w' hw => X.gtr rfl rfl) hS ?_
      refine D.va 9 rfl (by kernel_rfl) (fun _ _ _ h => h) rfl (fun w' hw => X.pickF rfl (by conv => lhs; whnf)) hS ?_
      refine D.va 10 rfl (by kernel_rfl) (fun _ _ _ h => h) rfl (fun w' hw => X.move (by conv => lhs; whnf)) hS ?_
      refine D.caseDec (k := 69) rfl (fun h2 => ?_) (fun h2 => ?_)
      ·refine D.no 11 rfl (by kernel_rfl) (fun _ _ _ h => h) rfl hS ?_
       refine D.no 12 rfl (by kernel_rfl) (fun _ _ _ h => h) rfl hS ?_
       refine D.no 13 rfl (by kernel_rfl) (fun _ _ _ h => h) rfl hS ?_
       refine D.no 14 rfl (by kernel_rfl) (fun _ _ _ h => h) rfl hS ?_
       refine D.no 15 rfl (by kernel_rfl) (fun _ _ _ h => h) rfl hS ?_
       refine D.no 16 rfl (by kernel_rfl) (fun _ _ _ h => h) rfl hS ?_
       refine D.va 17 rfl (by kernel_rfl) (fun _ _ _ h => h) rfl (fun w' hw => X.pickT rfl (by conv => lhs; whnf)) hS ?_
       refine D.va 18 rfl (by kernel_rfl) (fun _ _ _ h => h) rfl (fun w' hw => X.move (by conv => lhs; whnf)) hS ?_
       refine D.no 19 rfl (by kernel_rfl) (fun _ _ _ h => h) rfl hS ?_
       refine D.no 20 rfl (by kernel_rfl) (fun _ _ _ h => h) rfl hS ?_
       refine D.no 21 rfl (by kernel_rfl) (fun _ _ _ h => h) rfl hS ?_
       refine D.no 22 rfl (by kernel_rfl) (fun _ _ _ h => h) rfl hS ?_
       refine D.no 23 rfl (by kernel_rfl) (fun _ _ _ h => h) rfl hS ?_
       refine D.va 24 rfl (by kernel_rfl) (fun _ _ _ h => h) rfl (fun w' hw => X.pickT rfl (by conv => lhs; whnf)) hS ?_
       refine D.va 25 rfl (by kernel_rfl) (fun _ _ _ h => h) rfl (fun w' hw => X.move (by conv => lhs; whnf)) hS ?_
       refine D.no 26 rfl (by kernel_rfl) (fun _ _ _ h => h) rfl hS ?_
       refine D.no 27 rfl (by kernel_rfl) (fun _ _ _ h => h) rfl hS ?_
       refine D.no 28 rfl (by kernel_rfl) (fun _ _ _ h => h) rfl hS ?_
       refine D.no 29 rfl (by kernel_rfl) (fun _ _ _ h => h) rfl hS ?_
       refine D.va 30 rfl (by kernel_rfl) (fun _ _ _ h => h) rfl (fun w' hw => X.pickT rfl (by conv => lhs; whnf)) hS ?_
       refine D.va 31 rfl (by kernel_rfl) (fun _ _ _ h => h) rfl (fun w' hw => X.move (by conv => lhs; whnf)) hS ?_
       refine D.no 32 rfl (by kernel_rfl) (fun _ _ _ h => h) rfl hS ?_
       refine D.no 33 rfl (by kernel_rfl) (fun _ _ _ h => h) rfl hS ?_
       refine D.no 34 rfl (by kernel_rfl) (fun _ _ _ h => h) rfl hS ?_
       refine D.no 35 rfl (by kernel_rfl) (fun _ _ _ h => h) rfl hS ?_
       refine D.no 36 rfl (by kernel_rfl) (fun _ _ _ h => h) rfl hS ?_
       refine D.no 37 rfl (by kernel_rfl) (fun _ _ _ h => h) rfl hS ?_
       refine D.no 38 rfl (by kernel_rfl) (fun _ _ _ h => h) rfl hS ?_
       refine D.no 39 rfl (by kernel_rfl) (fun _ _ _ h => h) rfl hS ?_
       refine D.va 40 rfl (by kernel_rfl) (fun _ _ _ h => h) rfl (fun w' hw => X.pickT rfl (by conv => lhs; whnf)) hS ?_
       refine D.done (by kernel_rfl) ?_
       replace hk6 := hk6.ext hS
       refine J.iteT rfl ?_
       refine J.seq ?_
       refine J.region ?_
       refine L.va rfl (X.assign (by conv => lhs; whnf)) ?_
       refine L.nil ?_
       refine J.ret ?_
       refine inB_ret <|  thn_ret <|  thn_ret <|  inB_ret <|  thn_ret <| ?_
       refine fin1 ?_
       exact no _ (hbad (okW_no (.inr (.inl h2)))) he07
      ·have hneg : IntKind.i64.wrap (0 - y.a) = -y.a := by rw [w64 (by omega)]; omega
       refine D.va 11 rfl (by kernel_rfl) (fun _ _ _ h => h) rfl (fun w' hw => X.fieldAddr rfl Tryz.underlying70 rfl sz_2 (by decide)) hS ?_
       refine D.va 12 rfl (by kernel_rfl) (fun _ _ _ h => h) rfl (fun w' hw => X.load rfl sc_2 (by first | exact Ld.blk (hk6.ext hw) rfl)) hS ?_
       refine D.va 13 rfl (by kernel_rfl) (fun _ _ _ h => h) rfl (fun w' hw => X.fieldAddr rfl Tryz.underlying70 rfl sz_2 (by decide)) hS ?_
       refine D.va 14 rfl (by kernel_rfl) (fun _ _ _ h => h) rfl (fun w' hw => X.load rfl sc_2 (by first | exact Ld.blk (hk6.ext hw) rfl)) hS ?_
       refine D.va 15 rfl (by kernel_rfl) (fun _ _ _ h => h) rfl (fun w' hw => X.negw rfl) hS ?_
       refine D.va 16 rfl (by kernel_rfl) (fun _ _ _ h => h) rfl (fun w' hw => X.lss rfl rfl) hS ?_
       refine D.va 17 rfl (by kernel_rfl) (fun _ _ _ h => h) rfl (fun w' hw => X.pickF rfl (by conv => lhs; whnf)) hS ?_
       refine D.va 18 rfl (by kernel_rfl) (fun _ _ _ h => h) rfl (fun w' hw => X.move (by conv => lhs; whnf)) hS ?_
       refine D.caseDec (k := 77) rfl (fun h3 => ?_) (fun h3 => ?_)
       ·rw [hneg] at h3
        refine D.no 19 rfl (by kernel_rfl) (fun _ _ _ h => h) rfl hS ?_
        refine D.no 20 rfl (by kernel_rfl) (fun _ _ _ h => h) rfl hS ?_
        refine D.no 21 rfl (by kernel_rfl) (fun _ _ _ h => h) rfl hS ?_
        refine D.no 22 rfl (by kernel_rfl) (fun _ _ _ h => h) rfl hS ?_
        refine D.no 23 rfl (by kernel_rfl) (fun _ _ _ h => h) rfl hS ?_
        refine D.va 24 rfl (by kernel_rfl) (fun _ _ _ h => h) rfl (fun w' hw => X.pickT rfl (by conv => lhs; whnf)) hS ?_
        refine D.va 25 rfl (by kernel_rfl) (fun _ _ _ h => h) rfl (fun w' hw => X.move (by conv => lhs; whnf)) hS ?_
        refine D.no 26 rfl (by kernel_rfl) (fun _ _ _ h => h) rfl hS ?_
        refine D.no 27 rfl (by kernel_rfl) (fun _ _ _ h => h) rfl hS ?_
        refine D.no 28 rfl (by kernel_rfl) (fun _ _ _ h => h) rfl hS ?_
        refine D.no 29 rfl (by kernel_rfl) (fun _ _ _ h => h) rfl hS ?_
        refine D.va 30 rfl (by kernel_rfl) (fun _ _ _ h => h) rfl (fun w' hw => X.pickT rfl (by conv => lhs; whnf)) hS ?_
        refine D.va 31 rfl (by kernel_rfl) (fun _ _ _ h => h) rfl (fun w' hw => X.move (by conv => lhs; whnf)) hS ?_
        refine D.no 32 rfl (by kernel_rfl) (fun _ _ _ h => h) rfl hS ?_
        refine D.no 33 rfl (by kernel_rfl) (fun _ _ _ h => h) rfl hS ?_
        refine D.no 34 rfl (by kernel_rfl) (fun _ _ _ h => h) rfl hS ?_
        refine D.no 35 rfl (by kernel_rfl) (fun _ _ _ h => h) rfl hS ?_
        refine D.no 36 rfl (by kernel_rfl) (fun _ _ _ h => h) rfl hS ?_
        refine D.no 37 rfl (by kernel_rfl) (fun _ _ _ h => h) rfl hS ?_
        refine D.no 38 rfl (by kernel_rfl) (fun _ _ _ h => h) rfl hS ?_
        refine D.no 39 rfl (by kernel_rfl) (fun _ _ _ h => h) rfl hS ?_
        refine D.va 40 rfl (by kernel_rfl) (fun _ _ _ h => h) rfl (fun w' hw => X.pickT rfl (by conv => lhs; whnf)) hS ?_
        refine D.done (by kernel_rfl) ?_
        replace hk6 := hk6.ext hS
        refine J.iteT rfl ?_
        refine J.seq ?_
        refine J.region ?_
        refine L.va rfl (X.assign (by conv => lhs; whnf)) ?_
        refine L.nil ?_
        refine J.ret ?_
        refine inB_ret <|  thn_ret <|  thn_ret <|  inB_ret <|  thn_ret <| ?_
        refine fin1 ?_
        exact no _ (hbad (okW_no (.inr (.inr (.inl h3))))) he07
       ·rw [hneg] at h3
        refine D.va 19 rfl (by kernel_rfl) (fun _ _ _ h => h) rfl (fun w' hw => X.fieldAddr rfl Tryz.underlying70 rfl sz_2 (by decide)) hS ?_
        refine D.va 20 rfl (by kernel_rfl) (fun _ _ _ h => h) rfl (fun w' hw => X.load rfl sc_2 (by first | exact Ld.blk (hk6.ext hw) rfl)) hS ?_
        refine D.va 21 rfl (by kernel_rfl) (fun _ _ _ h => h) rfl (fun w' hw => X.fieldAddr rfl Tryz.underlying70 rfl sz_2 (by decide)) hS ?_
        refine D.va 22 rfl (by kernel_rfl) (fun _ _ _ h => h) rfl (fun w' hw => X.load rfl sc_2 (by first | exact Ld.blk (hk6.ext hw) rfl)) hS ?_
        refine D.va 23 rfl (by kernel_rfl) (fun _ _ _ h => h) rfl (fun w' hw => X.gtr rfl rfl) hS ?_
        refine D.va 24 rfl (by kernel_rfl) (fun _ _ _ h => h) rfl (fun w' hw => X.pickF rfl (by conv => lhs; whnf)) hS ?_
        refine D.va 25 rfl (by kernel_rfl) (fun _ _ _ h => h) rfl (fun w' hw => X.move (by conv => lhs; whnf)) hS ?_
        refine D.caseDec (k := 84) rfl (fun h4 => ?_) (fun h4 => ?_)
        ·refine D.no 26 rfl (by kernel_rfl) (fun _ _ _ h => h) rfl hS ?_
         refine D.no 27 rfl (by kernel_rfl) (fun _ _ _ h => h) rfl hS ?_
         refine D.no 28 rfl (by kernel_rfl) (fun _ _ _ h => h) rfl hS ?_
         refine D.no 29 rfl (by kernel_rfl) (fun _ _ _ h => h) rfl hS ?_
         refine D.va 30 rfl (by kernel_rfl) (fun _ _ _ h => h) rfl (fun w' hw => X.pickT rfl (by conv => lhs; whnf)) hS ?_
         refine D.va 31 rfl (by kernel_rfl) (fun _ _ _ h => h) rfl (fun w' hw => X.move (by conv => lhs; whnf)) hS ?_
         refine D.no 32 rfl (by kernel_rfl) (fun _ _ _ h => h) rfl hS ?_
         refine D.no 33 rfl (by kernel_rfl) (fun _ _ _ h => h) rfl hS ?_
         refine D.no 34 rfl (by kernel_rfl) (fun _ _ _ h => h) rfl hS ?_
         refine D.no 35 rfl (by kernel_rfl) (fun _ _ _ h => h) rfl hS ?_
         refine D.no 36 rfl (by kernel_rfl) (fun _ _ _ h => h) rfl hS ?_
         refine D.no 37 rfl (by kernel_rfl) (fun _ _ _ h => h) rfl hS ?_
         refine D.no 38 rfl (by kernel_rfl) (fun _ _ _ h => h) rfl hS ?_
         refine D.no 39 rfl (by kernel_rfl) (fun _ _ _ h => h) rfl hS ?_
         refine D.va 40 rfl (by kernel_rfl) (fun _ _ _ h => h) rfl (fun w' hw => X.pickT rfl (by conv => lhs; whnf)) hS ?_
         refine D.done (by kernel_rfl) ?_
         replace hk6 := hk6.ext hS
         refine J.iteT rfl ?_
         refine J.seq ?_
         refine J.region ?_
         refine L.va rfl (X.assign (by conv => lhs; whnf)) ?_
         refine L.nil ?_
         refine J.ret ?_
         refine inB_ret <|  thn_ret <|  thn_ret <|  inB_ret <|  thn_ret <| ?_
         refine fin1 ?_
         exact no _ (hbad (okW_no (.inr (.inr (.inr h4))))) he07
        ·refine D.va 26 rfl (by kernel_rfl) (fun _ _ _ h => h) rfl (fun w' hw => X.fieldAddr rfl Tryz.underlying70 rfl sz_24 (by decide)) hS ?_
         refine D.va 27 rfl (by kernel_rfl) (fun _ _ _ h => h) rfl (fun w' hw => X.load rfl sc_24 (by first | exact Ld.blk (hk6.ext hw) rfl)) hS ?_
         refine D.va 28 rfl (by kernel_rfl) (fun _ _ _ h => h) rfl (fun w' hw => X.len rfl Tryz.underlying24) hS ?_
         refine D.va 29 rfl (by kernel_rfl) (fun _ _ _ h => h) rfl (fun w' hw => X.gtr rfl rfl) hS ?_
         refine D.va 30 rfl (by kernel_rfl) (fun _ _ _ h => h) rfl (fun w' hw => X.pickF rfl (by conv => lhs; whnf)) hS ?_
         refine D.va 31 rfl (by kernel_rfl) (fun _ _ _ h => h) rfl (fun w' hw => X.move (by conv => lhs; whnf)) hS ?_
         refine D.caseDec (k := 90) rfl (fun h5 => ?_) (fun h5 => ?_)
         ·refine D.no 32 rfl (by kernel_rfl) (fun _ _ _ h => h) rfl hS ?_
          refine D.no 33 rfl (by kernel_rfl) (fun _ _ _ h => h) rfl hS ?_
          refine D.no 34 rfl (by kernel_rfl) (fun _ _ _ h => h) rfl hS ?_
          refine D.no 35 rfl (by kernel_rfl) (fun _ _ _ h => h) rfl hS ?_
          refine D.no 36 rfl (by kernel_rfl) (fun _ _ _ h => h) rfl hS ?_
          refine D.no 37 rfl (by kernel_rfl) (fun _ _ _ h => h) rfl hS ?_
          refine D.no 38 rfl (by kernel_rfl) (fun _ _ _ h => h) rfl hS ?_
          refine D.no 39 rfl (by kernel_rfl) (fun _ _ _ h => h) rfl hS ?_
          refine D.va 40 rfl (by kernel_rfl) (fun _ _ _ h => h) rfl (fun w' hw => X.pickT rfl (by conv => lhs; whnf)) hS ?_
          refine D.done (by kernel_rfl) ?_
          replace hk6 := hk6.ext hS
          refine J.iteT rfl ?_
          refine J.seq ?_
          refine J.region ?_
          refine L.va rfl (X.assign (by conv => lhs; whnf)) ?_
          refine L.nil ?_
          refine J.ret ?_
          refine inB_ret <|  thn_ret <|  thn_ret <|  inB_ret <|  thn_ret <| ?_
          refine fin1 ?_
          refine no _ (hbad (okW_q ?_)) he07
          unfold okQ
          rw [decide_eq_false (by omega)]
          rfl
         ·have c8 := ntrim y.A y.n y.c y.q w7 (N := N) (by have := he07.le; omega) ((y4.ext he46).ext hS).r yl ycp (by omega)
          refine D.va 32 rfl (by kernel_rfl) (fun _ _ _ h => h) rfl (fun w' hw => X.fieldAddr rfl Tryz.underlying70 rfl sz_24 (by decide)) hS ?_
          refine D.va 33 rfl (by kernel_rfl) (fun _ _ _ h => h) rfl (fun w' hw => X.load rfl sc_24 (by first | exact Ld.blk (hk6.ext hw) rfl)) hS ?_
          refine D.va 36 rfl (by kernel_rfl) (fun _ _ _ h => h) rfl (fun w' hw => X.fieldAddr rfl Tryz.underlying70 rfl sz_24 (by decide)) hS ?_
          refine D.va 37 rfl (by kernel_rfl) (fun _ _ _ h => h) rfl (fun w' hw => X.load rfl sc_24 (by first | exact Ld.blk (hk6.ext hw) rfl)) hS ?_
          refine D.va 38 rfl (by kernel_rfl) (fun _ _ _ h => h) rfl (fun w' hw => X.len rfl Tryz.underlying24) hS ?_
          refine D.one 34 (by kernel_rfl) rfl ?_
          refine L.call rfl en_54 rfl (c8) ?_
          rintro e w8 ⟨A8, k8, c8', rfl, hk8, ho8, he8⟩
          refine ⟨_, rfl, ?_⟩
          have hS1 := hS.trans he8
          refine L.nil ?_
          refine ⟨fun _ => hS1, ?_⟩
          have hq := okQ_siz hk8 (by omega)
          have he08 := he07.trans he8
          refine D.va 35 rfl (by kernel_rfl) (fun _ _ _ h => h) rfl (fun w' hw => X.len rfl Tryz.underlying24) hS1 ?_
          refine D.va 39 rfl (by kernel_rfl) (fun _ _ _ h => h) rfl (fun w' hw => X.neq rfl rfl) hS1 ?_
          refine D.va 40 rfl (by kernel_rfl) (fun _ _ _ h => h) rfl (fun w' hw => X.pickF rfl (by conv => lhs; whnf)) hS1 ?_
          refine D.done (by kernel_rfl) ?_
          replace hk6 := hk6.ext hS1
          refine J.ndec rfl (fun h6 => ?_) (fun h6 => ?_)
          ·refine J.seq ?_
           refine J.region ?_
           refine L.va rfl (X.assign (by conv => lhs; whnf)) ?_
           refine L.nil ?_
           refine J.ret ?_
           refine inB_ret <|  thn_ret <|  thn_ret <|  inB_ret <|  thn_ret <| ?_
           refine fin1 ?_
           refine no _ (hbad (okW_q ?_)) he08
           rw [hq, decide_eq_false (by omega)]
          ·refine J.skip ?_
           refine J.region ?_
           refine L.va rfl (X.add rfl rfl (by omega)) ?_
           refine L.va rfl (X.move (by conv => lhs; whnf)) ?_
           refine L.nil ?_
           refine ⟨i + 1, At1 (by first | rfl | exact at_int rfl (by omega) | exact at_slice rfl (by omega) | exact at_int rfl (by simp)), (by (iterate 52 refine Agr.lk rfl ?_); exact Agr.lk rfl (Agr.hav rfl Agr.rfl')), ?_⟩
           refine ⟨⟨by omega, fun j hj => ?_, ((he34.trans he46).trans hS).trans he8⟩, by omega⟩
           rcases Nat.lt_or_ge j i with h | h
           ·exact hP j h
           ·obtain rfl : j = i := by omega
            rw [← hy]
            refine okW_yes ⟨by omega, by omega, by omega, by omega⟩ ?_
            rw [hq, decide_eq_true (by omega)]
    ·refine J.exit ?_
     refine ⟨(), At0 , (by (iterate 1 refine Agr.lk rfl ?_); refine Agr.lk rfl ?_; refine Agr.hav rfl ?_; (iterate 4 refine Agr.lk rfl ?_); exact Agr.rfl'), ?_⟩
     exact ⟨fun j hj => hP j (by omega), he34⟩
  ·rintro ⟨⟩ g w4 ⟨hW, he34⟩
   have hk4 := hk2.ext he34
   have he4 := he03.trans he34
   iterate 2 refine J.seq ?_
   refine J.region ?_
   refine L.va rfl (X.fieldAddr rfl Tryz.underlying52 rfl sz_50 (by decide)) ?_
   refine L.va rfl (X.load rfl sc_50 (by first | exact Ld.blk hk4 rfl)) ?_
   refine L.va rfl (X.len rfl Tryz.underlying50) ?_
   refine L.va rfl (X.move (by conv => lhs; whnf)) ?_
   refine L.nil ?_
   refine J.block ?_
   refine J.loop (X := Nat) [6, 12, 13, 14, 104, 105, 106, 107, 108, 109, 110, 111, 112, 113, 114, 115, 116, 117, 118, 119, 120, 121, 122, 123] (fun i => [(104, .int .i64 (i : Int))]) (fun i w' => i ≤ x.nr ∧ (∀ j, j < i → okR (x.rs.getD j re0).con = true) ∧ Ext w w') (fun i => x.nr - i) (0) (At1 (by first | rfl | exact at_int rfl (by omega) | exact at_slice rfl (by omega) | exact at_int rfl (by simp))) ?_ ?_
   ·exact ⟨Nat.zero_le _, fun j hj => absurd hj (by omega), he4⟩
   ·rintro i g w5 ⟨hi, hP, he5⟩
    have z5 := he5.le
    refine J.seq ?_
    refine J.region ?_
    refine L.va rfl (X.lss rfl rfl) ?_
    refine L.nil ?_
    refine J.seq ?_
    refine J.dec rfl (fun hlt => ?_) (fun hlt => ?_)
    ·have hin : i < x.rs.length := by omega
     have hr5 := hx.r.ext he5
     have hA := hr5.some_ (by omega)
     have gy := gtR hin
     have my := memD (l := x.rs) (i := i) (d := re0) hin
     obtain ⟨y, hy⟩ : ∃ y, y = x.rs.getD i re0 := ⟨_, rfl⟩
     rw [← hy] at gy my
     have hbad : okR y.con = false → rightC s m x.con = false := fun h => rightC_r hin (by rw [← hy]; exact h)
     have y5 := (hx.hr y my).ext he5
     have yo := y5.o
     have y300 := hL.lr y my
     have yl := y5.len
     refine J.skip ?_
     refine J.seq ?_
     refine J.block ?_
     refine J.seq ?_
     refine J.region ?_
     refine L.va rfl ((by first | exact X.indexAddrn rfl rfl Tryz.underlying50 sz_74 (by first | exact Option.some_ne_none _ | exact hA) (by omega) | exact X.indexAddr rfl rfl Tryz.underlying50 sz_74 (by first | exact Option.some_ne_none _ | exact hA) (by omega))) ?_
     refine L.va rfl (X.loadRow (cs := y.vs) rfl hr5 (fun r u hu => flat_row re_len gy r u hu) (Nat.zero_lt_succ _) Tryz.underlying74 rfl (by kernel_rfl)) ?_
     refine L.alloc rfl zr_74 ?_
     intro b6 w6 hb6 hs6 hk6 he6
     refine L.storeAgg (vs := [_, _, _]) rfl rfl rfl rfl sz_74 (hk6) rfl ?_
     intro w7 hk7 hg7 hs7
     have he57 : Ext w5 w7 := he6.grw hg7 (by intro g hg; injection hg with hg; omega)
     have hk7 : Blk w7 b6 74 y.vs.toArray := hk7
     have he07 := he5.trans he57
     have c8 := eread y.A y.n y.c y.b w7 (N := N) (by have := he07.le; omega) ((y5.ext he57)).r yo.b yl (by omega)
     refine L.nil ?_
     refine J.seq ?_
     refine J.region ?_
     refine L.va rfl (X.fieldAddr rfl Tryz.underlying74 rfl sz_71 (by decide)) ?_
     refine L.va rfl (X.load rfl sc_71 (by first | exact Ld.blk hk7 rfl)) ?_
     refine L.call rfl en_55 rfl (c8) ?_
     rintro e w8 ⟨p8, rfl, he8, hR⟩
     refine ⟨_, rfl, ?_⟩
     have he8 : Ext w7 w8 := he8
     have he08 := he07.trans he8
     have hk8 := hk7.ext he8
     have c9 := fless y.hi y.lo w8 yo.hi yo.lo
     by_cases h0 : ¬ readE y.b = 0
     ·refine L.va rfl (X.move (by conv => lhs; whnf)) ?_
      iterate 2 refine L.va rfl (X.extract rfl rfl) ?_
      iterate 2 refine L.va rfl (X.assign (by conv => lhs; whnf)) ?_
      refine L.nil ?_
      refine J.seq ?_
      refine J.region ?_
      refine L.va rfl (X.move (by conv => lhs; whnf)) ?_
      refine L.va rfl (X.neq rfl rfl) ?_
      refine L.va rfl (X.move (by conv => lhs; whnf)) ?_
      refine L.caseNdecT (k := 116) rfl (by exact h0) ?_
      iterate 5 refine L.no rfl ?_
      refine L.va rfl (X.pickT rfl (by conv => lhs; whnf)) ?_
      refine L.nil ?_
      refine J.iteT rfl ?_
      refine J.seq ?_
      refine J.region ?_
      refine L.va rfl (X.assign (by conv => lhs; whnf)) ?_
      refine L.nil ?_
      refine J.ret ?_
      refine inB_ret <|  thn_ret <|  thn_ret <|  inB_ret <|  thn_ret <| ?_
      refine fin1 ?_
      refine no _ (hbad ?_) he08
      unfold okR
      rw [decide_eq_false (show ¬ readE y.con.1 = 0 from h0)]
      rfl
     ·have h0 : readE y.b = 0 := by omega
      refine L.va rfl (X.move (by conv => lhs; whnf)) ?_
      iterate 2 refine L.va rfl (X.extract rfl rfl) ?_
      iterate 2 refine L.va rfl (X.assign (by conv => lhs; whnf)) ?_
      refine L.nil ?_
      refine J.seq ?_
      refine J.region ?_
      refine L.va rfl (X.move (by conv => lhs; whnf)) ?_
      refine L.va rfl (X.neq rfl rfl) ?_
      refine L.va rfl (X.move (by conv => lhs; whnf)) ?_
      refine L.caseNdecF (k := 116) rfl (by exact h0) ?_
      refine L.va rfl (X.fieldAddr rfl Tryz.underlying74 rfl sz_72 (by decide)) ?_
      refine L.va rfl (X.load rfl sc_72 (by first | exact Ld.blk hk8 rfl)) ?_
      refine L.va rfl (X.fieldAddr rfl Tryz.underlying74 rfl sz_72 (by decide)) ?_
      refine L.va rfl (X.load rfl sc_72 (by first | exact Ld.blk hk8 rfl)) ?_
      refine L.call rfl en_56 rfl (c9) ?_
      rintro e _ ⟨rfl, rfl⟩
      refine ⟨_, rfl, ?_⟩
      refine L.va rfl (X.pickF rfl (by conv => lhs; whnf)) ?_
      refine L.nil ?_
      refine J.ite rfl (fun h6 => ?_) (fun h6 => ?_)
      ·refine J.seq ?_
       refine J.region ?_
       refine L.va rfl (X.assign (by conv => lhs; whnf)) ?_
       refine L.nil ?_
       refine J.ret ?_
       refine inB_ret <|  thn_ret <|  thn_ret <|  inB_ret <|  thn_ret <| ?_
       refine fin1 ?_
       refine no _ (hbad ?_) he08
       unfold okR
       rw [decide_eq_false (show ¬ ¬ keyF y.con.2.2 < keyF y.con.2.1 from fun h => h (of_decide_eq_true h6)), Bool.and_false]
      ·have h6 : ¬ keyF y.hi < keyF y.lo := of_decide_eq_false h6
       refine J.skip ?_
       refine J.region ?_
       refine L.va rfl (X.add rfl rfl (by omega)) ?_
       refine L.va rfl (X.move (by conv => lhs; whnf)) ?_
       refine L.nil ?_
       refine ⟨i + 1, At1 (by first | rfl | exact at_int rfl (by omega) | exact at_slice rfl (by omega) | exact at_int rfl (by simp)), (by (iterate 24 refine Agr.lk rfl ?_); exact Agr.lk rfl (Agr.hav rfl Agr.rfl')), ?_⟩
       refine ⟨⟨by omega, fun j hj => ?_, he08⟩, by omega⟩
       rcases Nat.lt_or_ge j i with h | h
       ·exact hP j h
       ·obtain rfl : j = i := by omega
        rw [← hy]
        unfold okR
        rw [decide_eq_true (show readE y.con.1 = 0 from h0), decide_eq_true (show ¬ keyF y.con.2.2 < keyF y.con.2.1 from h6)]
        rfl
    ·refine J.exit ?_
     refine J.seq ?_
     refine J.region ?_
     refine L.va rfl (X.assign (by conv => lhs; whnf)) ?_
     refine L.nil ?_
     refine J.ret ?_
     refine fin1 ?_
     exact ⟨by rw [rightC_yes hkb hh hW (fun j hj => hP j (by omega))]; rfl, he5⟩
end Go.Proofs.YtpomklkfedpkfaaGreat
namespace Go.Proofs.YtpomklkfedpkfaaGreat
open Go.RowKit
set_option linter.unusedVariables false
namespace Dfp
abbrev Ris (l : List (Int × Int)) : Prop := l.Pairwise fun p q => p.1 < q.1
abbrev RisC (l : List Ce) : Prop := l.Pairwise fun x y => x.key < y.key
theorem ris_eq : ∀ {l m : List (Int × Int)}, Ris l → Ris m → (∀ x, x ∈ l ↔ x ∈ m) → l = m
  | [], [], _, _, _ => rfl
  | [], b :: t, _, _, h => absurd ((h b).2 (by simp)) (by simp)
  | a :: s, [], _, _, h => absurd ((h a).1 (by simp)) (by simp)
  | a :: s, b :: t, hl, hm, h => by
    have hl' := List.pairwise_cons.1 hl
    have hm' := List.pairwise_cons.1 hm
    have hab : a = b := by
      rcases List.mem_cons.1 ((h a).1 (by simp)) with h1 | h1
      · exact h1
      · rcases List.mem_cons.1 ((h b).2 (by simp)) with h2 | h2
        · exact h2.symm
        · have := hm'.1 a h1
          have := hl'.1 b h2
          omega
    subst hab
    rw [ris_eq hl'.2 hm'.2 fun x => ?_]
    constructor
    · intro hx
      rcases List.mem_cons.1 ((h x).1 (by simp [hx])) with h1 | h1
      · subst h1
        have := hl'.1 x hx
        omega
      · exact h1
    · intro hx
      rcases List.mem_cons.1 ((h x).2 (by simp [hx])) with h1 | h1
      · subst h1
        have := hm'.1 x hx
        omega
      · exact h1
theorem ris_of {l : List Ce} (h : rise l = true) : RisC l := by
  rw [rise_at] at h
  have key : ∀ i j, i < j → j < l.length → (l.getD i ce0).key < (l.getD j ce0).key := by
    intro i j hij
    induction j with
    | zero => omega
    | succ j ih =>
      intro hj
      rcases Nat.lt_or_ge i j with h1 | h1
      · exact Int.lt_trans (ih h1 (by omega)) (h j hj)
      · obtain rfl : i = j := by omega
        exact h i hj
  rw [RisC, List.pairwise_iff_getElem]
  intro i j hi hj hij
  have := key i j hij hj
  rw [List.getD, List.getD, List.getElem?_eq_getElem hi, List.getElem?_eq_getElem hj] at this
  exact this
def Becomes (sm : Ce → Ce → Bool) (a b : List Ce) (p : Int × Int) : Prop :=
  (p.2 = 1 ∧ (∃ x ∈ a, x.key = p.1) ∧ ∀ y ∈ b, y.key ≠ p.1) ∨ (p.2 = 2 ∧ (∃ y ∈ b, y.key = p.1) ∧ ∀ x ∈ a, x.key ≠ p.1) ∨ (p.2 = 3 ∧ ∃ x ∈ a, ∃ y ∈ b, x.key = p.1 ∧ y.key = p.1 ∧ sm x y = false)
theorem becomes_key {sm : Ce → Ce → Bool} {a b : List Ce} {p : Int × Int} (h : Becomes sm a b p) : (∃ x ∈ a, x.key = p.1) ∨ ∃ y ∈ b, y.key = p.1 := by
  rcases h with ⟨_, h, _⟩ | ⟨_, h, _⟩ | ⟨_, x, hx, y, hy, h1, h2, _⟩
  · exact .inl h
  · exact .inr h
  · exact .inl ⟨x, hx, h1⟩
theorem merge_ok (sm : Ce → Ce → Bool) (a b : List Ce) (ha : RisC a) (hb : RisC b) : Ris (mergeD sm a b) ∧ ∀ p, p ∈ mergeD sm a b ↔ Becomes sm a b p := by
  induction a, b using mergeD.induct with
  | case1 =>
    rw [mergeD]
    refine ⟨List.Pairwise.nil, fun p => ?_⟩
    unfold Becomes
    simp
  | case2 x a ih =>
    rw [mergeD]
    obtain ⟨hx, ha'⟩ := List.pairwise_cons.1 ha
    obtain ⟨i1, i2⟩ := ih ha' hb
    refine ⟨List.pairwise_cons.2 ⟨fun q hq => ?_, i1⟩, fun p => ?_⟩
    · rcases becomes_key ((i2 q).1 hq) with ⟨z, hz, e⟩ | ⟨z, hz, e⟩
      · have := hx z hz
        show x.key < q.1
        omega
      · cases hz
    · rw [List.mem_cons, i2]
      unfold Becomes
      obtain ⟨p1, p2⟩ := p
      simp only [Prod.mk.injEq]
      grind
  | case3 y b ih =>
    rw [mergeD]
    obtain ⟨hy, hb'⟩ := List.pairwise_cons.1 hb
    obtain ⟨i1, i2⟩ := ih ha hb'
    refine ⟨List.pairwise_cons.2 ⟨fun q hq => ?_, i1⟩, fun p => ?_⟩
    · rcases becomes_key ((i2 q).1 hq) with ⟨z, hz, e⟩ | ⟨z, hz, e⟩
      · cases hz
      · have := hy z hz
        show y.key < q.1
        omega
    · rw [List.mem_cons, i2]
      unfold Becomes
      obtain ⟨p1, p2⟩ := p
      simp only [Prod.mk.injEq]
      grind
  | case4 x a y b h ih =>
    rw [mergeD, if_pos h]
    obtain ⟨hx, ha'⟩ := List.pairwise_cons.1 ha
    obtain ⟨hy, hb'⟩ := List.pairwise_cons.1 hb
    obtain ⟨i1, i2⟩ := ih ha' hb
    refine ⟨List.pairwise_cons.2 ⟨fun q hq => ?_, i1⟩, fun p => ?_⟩
    · show x.key < q.1
      rcases becomes_key ((i2 q).1 hq) with ⟨z, hz, e⟩ | ⟨z, hz, e⟩
      · have := hx z hz
        omega
      · rcases List.mem_cons.1 hz with rfl | hz
        · omega
        · have := hy z hz
          omega
    · rw [List.mem_cons, i2]
      unfold Becomes
      obtain ⟨p1, p2⟩ := p
      simp only [Prod.mk.injEq]
      grind
  | case5 x a y b h1 h2 ih =>
    rw [mergeD, if_neg h1, if_pos h2]
    obtain ⟨hx, ha'⟩ := List.pairwise_cons.1 ha
    obtain ⟨hy, hb'⟩ := List.pairwise_cons.1 hb
    obtain ⟨i1, i2⟩ := ih ha hb'
    refine ⟨List.pairwise_cons.2 ⟨fun q hq => ?_, i1⟩, fun p => ?_⟩
    · show y.key < q.1
      rcases becomes_key ((i2 q).1 hq) with ⟨z, hz, e⟩ | ⟨z, hz, e⟩
      · rcases List.mem_cons.1 hz with rfl | hz
        · omega
        · have := hx z hz
          omega
      · have := hy z hz
        omega
    · rw [List.mem_cons, i2]
      unfold Becomes
      obtain ⟨p1, p2⟩ := p
      simp only [Prod.mk.injEq]
      grind
  | case6 x a y b h1 h2 ih =>
    rw [mergeD, if_neg h1, if_neg h2]
    obtain ⟨hx, ha'⟩ := List.pairwise_cons.1 ha
    obtain ⟨hy, hb'⟩ := List.pairwise_cons.1 hb
    obtain ⟨i1, i2⟩ := ih ha' hb'
    have hk : x.key = y.key := by omega
    refine ⟨?_, fun p => ?_⟩
    · rw [Ris, List.pairwise_append]
      refine ⟨by split <;> simp, i1, fun q hq r hr => ?_⟩
      have e : q = (x.key, 3) := by
        split at hq
        · cases hq
        · simpa using hq
      rw [e]
      show x.key < r.1
      rcases becomes_key ((i2 r).1 hr) with ⟨z, hz, e⟩ | ⟨z, hz, e⟩
      · have := hx z hz
        omega
      · have := hy z hz
        omega
    · rw [List.mem_append, i2]
      unfold Becomes
      obtain ⟨p1, p2⟩ := p
      cases hs : sm x y <;> grind
def Part (sm : Ce → Ce → Bool) (a b : List Ce) (i j : Nat) (p : Int × Int) : Prop :=
  (p.2 = 1 ∧ (∃ x ∈ a.take i, x.key = p.1) ∧ ∀ y ∈ b, y.key ≠ p.1) ∨ (p.2 = 2 ∧ (∃ y ∈ b.take j, y.key = p.1) ∧ ∀ x ∈ a, x.key ≠ p.1) ∨ (p.2 = 3 ∧ ∃ x ∈ a.take i, ∃ y ∈ b, x.key = p.1 ∧ y.key = p.1 ∧ sm x y = false)
structure PartL (sm : Ce → Ce → Bool) (a b : List Ce) (i j : Nat) (o : List (Int × Int)) : Prop where
  up : Ris o
  mem : ∀ p, p ∈ o ↔ Part sm a b i j p
variable {sm : Ce → Ce → Bool} {a b : List Ce} {i j : Nat} {o : List (Int × Int)}
theorem PartL.start (sm : Ce → Ce → Bool) (a b : List Ce) : PartL sm a b 0 0 [] := ⟨List.Pairwise.nil, fun p => by unfold Part; simp⟩
theorem PartL.all (h : PartL sm a b a.length b.length o) (ha : RisC a) (hb : RisC b) : o = mergeD sm a b := by
  obtain ⟨m1, m2⟩ := merge_ok sm a b ha hb
  refine ris_eq h.up m1 fun p => ?_
  rw [h.mem, m2]
  unfold Part Becomes
  rw [List.take_length, List.take_length]
theorem take_one {l : List Ce} {i : Nat} (h : i < l.length) : l.take (i + 1) = l.take i ++ [l.getD i ce0] := by
  rw [List.take_succ_eq_append_getElem h, List.getD, List.getElem?_eq_getElem h]
  rfl
theorem before {l : List Ce} (hl : RisC l) {i : Nat} (h : i < l.length) : ∀ x ∈ l.take i, x.key ≠ (l.getD i ce0).key := fun x hx => by
  obtain ⟨k, hk, rfl⟩ := List.getElem_of_mem hx
  rw [List.length_take] at hk
  have := List.pairwise_iff_getElem.1 hl k i (by omega) h (by omega)
  rw [List.getElem_take, List.getD, List.getElem?_eq_getElem h]
  show (l[k]).key ≠ (l[i]).key
  omega
end Dfp
end Go.Proofs.YtpomklkfedpkfaaGreat
namespace Go.Proofs.YtpomklkfedpkfaaGreat
set_option maxRecDepth 100000
open Go.RowKit H
open Dfp
set_option linter.unusedVariables false
theorem crising {w : World} {N : Nat} (A : Option Addr) (c : Nat) (l : List Ce) (hr : Reads w N 4 A l.length (l.flatMap Ce.vals)) (hN : N ≤ w.heap.size) (hm : l.length ≤ 1000000) : Calls Tryz.prog 32 #[.slice A l.length c] w fun e w' => e = .returned (.bool (rise l)) ∧ Ext w w' := by
 refine enter Tryz.func32 rfl (by kernel_rfl) ?_
 refine J.seq ?_
 refine J.region ?_
 refine L.va rfl (X.assign (by conv => lhs; whnf)) ?_
 refine L.nil ?_
 iterate 2 refine J.seq ?_
 refine J.region ?_
 refine L.va rfl (X.assign (by conv => lhs; whnf)) ?_
 refine L.nil ?_
 refine J.block ?_
 refine J.loop (X := Nat) [2, 3, 4, 5, 6, 7, 8, 9, 10, 11, 12, 13, 14, 15, 16, 17, 18, 19, 20, 21] (fun i => [(3, .int .i64 (i : Int))]) (fun i w' => 1 ≤ i ∧ (i ≤ l.length ∨ l.length = 0 ∧ i = 1) ∧ Ext w w' ∧ ∀ j, j + 1 < i → (l.getD j ce0).key < (l.getD (j + 1) ce0).key) (fun i => l.length + 1 - i) (1) (At1 (by first | rfl | exact at_int rfl (by omega) | exact at_slice rfl (by omega) | exact at_int rfl (by simp))) ?_ ?_
 ·exact ⟨by omega, by omega, Ext.refl _, fun j hj => by omega⟩
 ·rintro i g w2 ⟨h1, hi, he, hall⟩
  have hr2 := hr.low (Below.mono he hN) (Nat.le_refl _)
  have z := he.le
  iterate 2 refine J.seq ?_
  refine J.region ?_
  iterate 2 refine L.va rfl (X.move (by conv => lhs; whnf)) ?_
  refine L.va rfl (X.len rfl Tryz.underlying29) ?_
  refine L.va rfl (X.lss rfl rfl) ?_
  refine L.nil ?_
  refine J.dec rfl (fun hlt => ?_) (fun hlt => ?_)
  ·have hil : i < l.length := by omega
   have hA := hr2.some_ (by omega)
   obtain ⟨j, rfl⟩ : ∃ j, i = j + 1 := ⟨i - 1, by omega⟩
   have gi := gtX hil
   have gj := gtX (show j < l.length by omega)
   have hrow1 := fun (w' : World) (hw : Ext w2 w') => hr2.low (Below.mono hw (by omega)) (Nat.le_refl _)
   generalize hx : l.getD (j + 1) ce0 = x at *
   generalize hy : l.getD j ce0 = y at *
   have kx : x.key = (x.k : Int) := rfl
   have ky : y.key = (y.k : Int) := rfl
   refine J.skip ?_
   refine J.seq ?_
   refine J.block ?_
   refine J.seq ?_
   refine J.quiet mixed (by kernel_rfl) ?_
   iterate 2 refine Qt.va rfl (fun w' hw => X.move (by conv => lhs; whnf)) ?_
   refine Qt.va rfl (fun w' hw => (by first | exact X.indexAddrn rfl rfl Tryz.underlying29 sz_52 (by first | exact Option.some_ne_none _ | exact hA) (by omega) | exact X.indexAddr rfl rfl Tryz.underlying29 sz_52 (by first | exact Option.some_ne_none _ | exact hA) (by omega))) ?_
   refine Qt.va rfl (fun w' hw => X.fieldP rfl Tryz.underlying52 rfl sz_48 (by decide) (by first | exact Option.some_ne_none _ | exact hA)) ?_
   refine Qt.va rfl (fun w' hw => X.load rfl sc_48 (Ld.flat2 ce_len (hrow1 w' hw) gi (r := 0) rfl)) ?_
   iterate 2 refine Qt.va rfl (fun w' hw => X.move (by conv => lhs; whnf)) ?_
   refine Qt.va rfl (fun w' hw => X.sub rfl rfl (by omega)) ?_
   refine Qt.va rfl (fun w' hw => X.indexAddrn (j := j) rfl (show Value.int .i64 (((j + 1 : Nat) : Int) - 1) = _ by rw [show (((j + 1 : Nat) : Int) - 1) = (j : Int) by omega]) Tryz.underlying29 sz_52 hA (by omega)) ?_
   refine Qt.va rfl (fun w' hw => X.fieldP rfl Tryz.underlying52 rfl sz_48 (by decide) hA) ?_
   refine Qt.va rfl (fun w' hw => X.load rfl sc_48 (Ld.flat2 ce_len (hrow1 w' hw) gj (r := 0) rfl)) ?_
   refine Qt.va rfl (fun w' hw => X.leq rfl rfl) ?_
   refine Qt.nil (fun w3 hq => ?_)
   have he3 := he.trans hq
   refine J.dec rfl (fun hle => ?_) (fun hle => ?_)
   ·have e : rise l = false := by
     rw [← Bool.not_eq_true, rise_at]
     intro h
     have := h j hil
     rw [hx, hy] at this
     omega
    rw [e]
    refine J.seq ?_
    refine J.region ?_
    refine L.va rfl (X.assign (by conv => lhs; whnf)) ?_
    refine L.nil ?_
    refine J.ret ?_
    refine inB_ret <|  thn_ret <|  thn_ret <|  inB_ret <|  thn_ret <| ?_
    refine fin1 ?_
    exact ⟨rfl, he3⟩
   ·refine J.skip ?_
    refine J.region ?_
    refine L.va rfl (X.move (by conv => lhs; whnf)) ?_
    refine L.va rfl (X.add rfl rfl (by omega)) ?_
    refine L.va rfl (X.assign (by conv => lhs; whnf)) ?_
    refine L.nil ?_
    refine ⟨(j + 1) + 1, At1 (by first | rfl | exact at_int rfl (by omega) | exact at_slice rfl (by omega) | exact at_int rfl (by simp)), (by (iterate 19 refine Agr.lk rfl ?_); exact Agr.lk rfl (Agr.hav rfl Agr.rfl')), ?_⟩
    refine ⟨⟨by omega, by omega, he3, fun k hk => ?_⟩, by omega⟩
    rcases Nat.lt_or_ge k j with h2 | h2
    ·exact hall k (by omega)
    ·obtain rfl : k = j := by omega
     rw [hx, hy]
     omega
  ·have e : rise l = true := by
    rw [rise_at]
    intro j hj
    exact hall j (by omega)
   rw [e]
   refine J.exit ?_
   refine J.seq ?_
   refine J.region ?_
   refine L.va rfl (X.assign (by conv => lhs; whnf)) ?_
   refine L.nil ?_
   refine J.ret ?_
   refine fin1 ?_
   exact ⟨rfl, he⟩
end Go.Proofs.YtpomklkfedpkfaaGreat
namespace Go.Proofs.YtpomklkfedpkfaaGreat
open Go.RowKit
set_option linter.unusedVariables false
namespace Dfp
theorem risC_eq : ∀ {l m : List Ce}, RisC l → RisC m → (∀ x, x ∈ l ↔ x ∈ m) → l = m
  | [], [], _, _, _ => rfl
  | [], b :: t, _, _, h => absurd ((h b).2 (by simp)) (by simp)
  | a :: s, [], _, _, h => absurd ((h a).1 (by simp)) (by simp)
  | a :: s, b :: t, hl, hm, h => by
    have hl' := List.pairwise_cons.1 hl
    have hm' := List.pairwise_cons.1 hm
    have hab : a = b := by
      rcases List.mem_cons.1 ((h a).1 (by simp)) with h1 | h1
      · exact h1
      · rcases List.mem_cons.1 ((h b).2 (by simp)) with h2 | h2
        · exact h2.symm
        · have := hm'.1 a h1
          have := hl'.1 b h2
          omega
    subst hab
    rw [risC_eq hl'.2 hm'.2 fun x => ?_]
    constructor
    · intro hx
      rcases List.mem_cons.1 ((h x).1 (by simp [hx])) with h1 | h1
      · subst h1
        have := hl'.1 x hx
        omega
      · exact h1
    · intro hx
      rcases List.mem_cons.1 ((h x).2 (by simp [hx])) with h1 | h1
      · subst h1
        have := hm'.1 x hx
        omega
      · exact h1
theorem rise_of {l : List Ce} (h : RisC l) : rise l = true := by
  rw [rise_at]
  intro i hi
  have := List.pairwise_iff_getElem.1 h i (i + 1) (by omega) hi (by omega)
  rw [List.getD, List.getD, List.getElem?_eq_getElem (by omega : i < l.length), List.getElem?_eq_getElem hi]
  exact this
theorem take_oneL {l : List (Int × Int)} {i : Nat} (h : i < l.length) : l.take (i + 1) = l.take i ++ [l.getD i (0, 0)] := by
  rw [List.take_succ_eq_append_getElem h, List.getD, List.getElem?_eq_getElem h]
  rfl
theorem drop_oneL {l : List (Int × Int)} {i : Nat} (h : i < l.length) : l.drop i = l.getD i (0, 0) :: l.drop (i + 1) := by
  rw [List.drop_eq_getElem_cons h, List.getD, List.getElem?_eq_getElem h]
  rfl
theorem drop_one {l : List Ce} {i : Nat} (h : i < l.length) : l.drop i = l.getD i ce0 :: l.drop (i + 1) := by
  rw [List.drop_eq_getElem_cons h, List.getD, List.getElem?_eq_getElem h]
  rfl
theorem ris_cut {l : List (Int × Int)} (h : Ris l) {i : Nat} (hi : i < l.length) : (∀ q ∈ l.take i, q.1 < (l.getD i (0, 0)).1) ∧ ∀ q ∈ l.drop (i + 1), (l.getD i (0, 0)).1 < q.1 := by
  have e := List.take_append_drop i l
  rw [drop_oneL hi] at e
  rw [← e, Ris, List.pairwise_append] at h
  obtain ⟨_, h2, h3⟩ := h
  rw [List.pairwise_cons] at h2
  exact ⟨fun q hq => h3 q hq _ (by simp), h2.1⟩
theorem risC_cut {l : List Ce} (h : RisC l) {i : Nat} (hi : i < l.length) : (∀ q ∈ l.take i, q.key < (l.getD i ce0).key) ∧ ∀ q ∈ l.drop (i + 1), (l.getD i ce0).key < q.key := by
  have e := List.take_append_drop i l
  rw [drop_one hi] at e
  rw [← e, RisC, List.pairwise_append] at h
  obtain ⟨_, h2, h3⟩ := h
  rw [List.pairwise_cons] at h2
  exact ⟨fun q hq => h3 q hq _ (by simp), h2.1⟩
structure PS (a b : List Ce) (l : List (Int × Int)) (i p : Nat) (out : List Ce) : Prop where
  ris : RisC out
  mem : ∀ c, c ∈ out ↔ (c ∈ a.take p ∧ ∀ q ∈ l, q.1 ≠ c.key) ∨ (c ∈ b ∧ ∃ q ∈ l.take i, q.1 = c.key ∧ q.2 ≠ 1)
  lo : ∀ c ∈ a.take p, ∀ q ∈ l.drop i, c.key < q.1
  hi : ∀ c ∈ a.drop p, ∀ q ∈ l.take i, q.1 < c.key
variable {a b : List Ce} {l : List (Int × Int)} {i p : Nat} {out : List Ce}
theorem PS.start (a b : List Ce) (l : List (Int × Int)) : PS a b l 0 0 [] := ⟨List.Pairwise.nil, fun c => by simp, fun c hc => by simp at hc, fun c _ q hq => by simp at hq⟩
theorem snoc {o : List Ce} {x : Ce} (h : RisC o) (hx : ∀ c ∈ o, c.key < x.key) : RisC (o ++ [x]) := by
  rw [RisC, List.pairwise_append]
  exact ⟨h, by simp, fun c hc y hy => by rw [List.mem_singleton] at hy; rw [hy]; exact hx c hc⟩
theorem PS.here (h : PS a b l i p out) (ha : RisC a) (hi : i < l.length) (hge : p < a.length → (l.getD i (0, 0)).1 ≤ (a.getD p ce0).key) : (∃ c ∈ a, c.key = (l.getD i (0, 0)).1) ↔ (p < a.length ∧ (a.getD p ce0).key = (l.getD i (0, 0)).1) := by
  have hL := h.lo
  rw [drop_oneL hi] at hL
  constructor
  · rintro ⟨c, hc, e⟩
    rw [← List.take_append_drop p a] at hc
    rcases List.mem_append.1 hc with h1 | h1
    · have := hL c h1 _ (List.mem_cons_self ..); omega
    · have hp : p < a.length := by
        apply Decidable.byContradiction
        intro hn
        rw [List.drop_eq_nil_iff.2 (by omega)] at h1
        cases h1
      refine ⟨hp, ?_⟩
      have g := hge hp
      rw [drop_one hp] at h1
      rcases List.mem_cons.1 h1 with rfl | h2
      · exact e
      · have := (risC_cut ha hp).2 c h2; omega
  · rintro ⟨hp, e⟩
    exact ⟨_, memD hp, e⟩
theorem PS.put (h : PS a b l i p out) (ha : RisC a) (hb : RisC b) (hl : Ris l) (hi : i < l.length) (hge : p < a.length → (l.getD i (0, 0)).1 ≤ (a.getD p ce0).key) {p' : Nat}
    (hp : (p' = p + 1 ∧ p < a.length ∧ (a.getD p ce0).key = (l.getD i (0, 0)).1) ∨ (p' = p ∧ ¬ (p < a.length ∧ (a.getD p ce0).key = (l.getD i (0, 0)).1))) {y : Ce} (hy : y ∈ b) (hk : y.key = (l.getD i (0, 0)).1) (hx : (l.getD i (0, 0)).2 ≠ 1) : PS a b l (i + 1) p' (out ++ [y]) := by
  obtain ⟨l1, l2⟩ := ris_cut hl hi
  have hm : l.getD i (0, 0) ∈ l := memD hi
  have hL := h.lo
  rw [drop_oneL hi] at hL
  have hone : ∀ z ∈ b, z.key = y.key → z = y := fun z hz e => by
    obtain ⟨m, hm, rfl⟩ := List.getElem_of_mem hz
    obtain ⟨k, hk', rfl⟩ := List.getElem_of_mem hy
    rcases Nat.lt_trichotomy m k with h | rfl | h
    · have := List.pairwise_iff_getElem.1 hb m k hm hk' h
      omega
    · rfl
    · have := List.pairwise_iff_getElem.1 hb k m hk' hm h
      omega
  have htk : ∀ c, (c ∈ a.take p' ∧ ∀ q ∈ l, q.1 ≠ c.key) ↔ (c ∈ a.take p ∧ ∀ q ∈ l, q.1 ≠ c.key) := fun c => by
    rcases hp with ⟨rfl, hp, e⟩ | ⟨rfl, _⟩
    · rw [take_one hp, List.mem_append, List.mem_singleton]
      constructor
      · rintro ⟨h1 | rfl, h2⟩
        · exact ⟨h1, h2⟩
        · exact absurd e.symm (h2 _ hm)
      · rintro ⟨h1, h2⟩
        exact ⟨.inl h1, h2⟩
    · exact Iff.rfl
  refine ⟨snoc h.ris fun c hc => ?_, fun c => ?_, fun c hc q hq => ?_, fun c hc q hq => ?_⟩
  · rcases (h.mem c).1 hc with ⟨h1, _⟩ | ⟨_, q, hq, e, _⟩
    · have := hL c h1 _ (List.mem_cons_self ..); omega
    · have := l1 q hq; omega
  · rw [htk, List.mem_append, List.mem_singleton, h.mem, take_oneL hi]
    constructor
    · rintro ((h1 | ⟨h1, q, hq, h2⟩) | rfl)
      · exact .inl h1
      · exact .inr ⟨h1, q, List.mem_append_left _ hq, h2⟩
      · exact .inr ⟨hy, _, List.mem_append_right _ (by simp), hk.symm, hx⟩
    · rintro (h1 | ⟨h1, q, hq, h2, h3⟩)
      · exact .inl (.inl h1)
      · rcases List.mem_append.1 hq with h4 | h4
        · exact .inl (.inr ⟨h1, q, h4, h2, h3⟩)
        · rw [List.mem_singleton] at h4
          subst h4
          exact .inr (hone c h1 (by omega))
  · have h2 := l2 q hq
    rcases hp with ⟨rfl, hp, e⟩ | ⟨rfl, _⟩
    · rw [take_one hp, List.mem_append, List.mem_singleton] at hc
      rcases hc with h1 | rfl
      · have := hL c h1 _ (List.mem_cons_self ..); omega
      · omega
    · have := hL c hc _ (List.mem_cons_self ..); omega
  · rw [take_oneL hi, List.mem_append, List.mem_singleton] at hq
    have hc2 : (l.getD i (0, 0)).1 < c.key := by
      rcases hp with ⟨rfl, hp, e⟩ | ⟨rfl, hn⟩
      · have := (risC_cut ha hp).2 c hc; omega
      · have hp : p' < a.length := by
          apply Decidable.byContradiction
          intro hn
          rw [List.drop_eq_nil_iff.2 (by omega)] at hc
          cases hc
        have g := hge hp
        have g2 : (a.getD p' ce0).key ≠ (l.getD i (0, 0)).1 := fun e => hn ⟨hp, e⟩
        rw [drop_one hp] at hc
        rcases List.mem_cons.1 hc with rfl | h2
        · omega
        · have := (risC_cut ha hp).2 c h2; omega
    rcases hq with h1 | rfl
    · have := l1 q h1; omega
    · exact hc2
structure Pat (a b : List Ce) (l : List (Int × Int)) (o : List Ce) : Prop where
  ris : RisC o
  mem : ∀ c, c ∈ o ↔ (c ∈ a ∧ ∀ q ∈ l, q.1 ≠ c.key) ∨ (c ∈ b ∧ ∃ q ∈ l, q.1 = c.key ∧ q.2 ≠ 1)
theorem PS.all (h : PS a b l l.length p out) (ha : RisC a) : Pat a b l (out ++ a.drop p) := by
  have hH := h.hi
  rw [List.take_length] at hH
  have ea := List.take_append_drop p a
  have ha' := ha
  rw [← ea, RisC, List.pairwise_append] at ha'
  refine ⟨?_, fun c => ?_⟩
  · rw [RisC, List.pairwise_append]
    refine ⟨h.ris, ha'.2.1, fun c hc d hd => ?_⟩
    rcases (h.mem c).1 hc with ⟨h1, _⟩ | ⟨_, q, hq, e, _⟩
    · exact ha'.2.2 c h1 d hd
    · rw [List.take_length] at hq
      have := hH d hd q hq
      omega
  · rw [List.mem_append, h.mem, List.take_length]
    constructor
    · rintro ((⟨h1, h2⟩ | h1) | h1)
      · exact .inl ⟨List.mem_of_mem_take h1, h2⟩
      · exact .inr h1
      · refine .inl ⟨List.mem_of_mem_drop h1, fun q hq => ?_⟩
        have := hH c h1 q hq
        omega
    · rintro (⟨h1, h2⟩ | h1)
      · rw [← ea] at h1
        rcases List.mem_append.1 h1 with h3 | h3
        · exact .inl (.inl ⟨h3, h2⟩)
        · exact .inr h3
      · exact .inl (.inr h1)
theorem Pat.one {o o' : List Ce} (h : Pat a b l o) (h' : Pat a b l o') : o = o' := risC_eq h.ris h'.ris fun c => by rw [h.mem, h'.mem]
end Dfp
end Go.Proofs.YtpomklkfedpkfaaGreat
namespace Go.Proofs.YtpomklkfedpkfaaGreat
set_option maxRecDepth 100000
open Go.RowKit H
set_option linter.unusedVariables false
theorem con_atC {l : List Ce} (i : Nat) : (l.map Ce.con).getD i con0 = (l.getD i ce0).con := by
  rw [List.getD, List.getD, List.getElem?_map]
  cases l[i]? <;> rfl
theorem rsame15 {a b : Ces} {w : World} {N : Nat} (ha : a.At N w) (hb : b.At N w) (hN : N ≤ w.heap.size) (hm : a.n ≤ 1000000) (hs : ∀ x ∈ a.l, x.ni ≤ 1000000 ∧ x.nr ≤ 1000000) : Calls Tryz.prog 10 #[a.val, b.val] w fun e w' => e = .returned (.bool (sameL a.con b.con)) ∧ Ext w w' := by
 have la := ha.l
 have lb := hb.l
 refine enter Tryz.func10 rfl (by kernel_rfl) ?_
 refine J.seq ?_
 refine J.region ?_
 refine L.va rfl (X.assign (by conv => lhs; whnf)) ?_
 refine L.nil ?_
 iterate 2 refine J.seq ?_
 refine J.region ?_
 refine L.va rfl (X.move (by conv => lhs; whnf)) ?_
 refine L.va rfl (X.len rfl Tryz.underlying29) ?_
 refine L.va rfl (X.move (by conv => lhs; whnf)) ?_
 refine L.va rfl (X.len rfl Tryz.underlying29) ?_
 refine L.va rfl (X.neq rfl rfl) ?_
 refine L.nil ?_
 refine J.ndec rfl (fun h1 => ?_) (fun h1 => ?_)
 ·have e : sameL a.con b.con = false := eqL_len (by show (a.l.map Ce.con).length ≠ (b.l.map Ce.con).length; rw [List.length_map, List.length_map]; omega)
  rw [e]
  refine J.seq ?_
  refine J.region ?_
  refine L.va rfl (X.assign (by conv => lhs; whnf)) ?_
  refine L.nil ?_
  refine J.ret ?_
  refine thn_ret <| ?_
  refine fin1 ?_
  exact ⟨rfl, Ext.refl _⟩
 ·have hn : a.n = b.n := by omega
  refine J.skip ?_
  iterate 2 refine J.seq ?_
  refine J.region ?_
  refine L.va rfl (X.assign (by conv => lhs; whnf)) ?_
  refine L.nil ?_
  refine J.block ?_
  refine J.loop (X := Nat) [4, 5, 11, 12, 13, 14, 15, 16, 17, 18, 19, 20, 21, 22, 23, 24, 25, 26] (fun i => [(5, .int .i64 (i : Int))]) (fun i w' => i ≤ a.n ∧ (∀ j, j < i → sameC (a.l.getD j ce0).con (b.l.getD j ce0).con = true) ∧ Ext w w') (fun i => a.n - i) (0) (At1 (by first | rfl | exact at_int rfl (by omega) | exact at_slice rfl (by omega) | exact at_int rfl (by simp))) ?_ ?_
  ·exact ⟨Nat.zero_le _, fun j hj => absurd hj (by omega), Ext.refl _⟩
  ·rintro i g w2 ⟨hi, hP, he⟩
   have z := he.le
   have hra := ha.r.ext he
   have hrb := hb.r.ext he
   iterate 2 refine J.seq ?_
   refine J.region ?_
   iterate 2 refine L.va rfl (X.move (by conv => lhs; whnf)) ?_
   refine L.va rfl (X.len rfl Tryz.underlying29) ?_
   refine L.va rfl (X.lss rfl rfl) ?_
   refine L.nil ?_
   refine J.dec rfl (fun hlt => ?_) (fun hlt => ?_)
   ·have hin : i < a.n := by omega
    have hA := hra.some_ (by omega)
    have hB := hrb.some_ (by omega)
    have gx := gtX (l := a.l) (i := i) (by omega)
    have gy := gtX (l := b.l) (i := i) (by omega)
    have hX := (ha.one (i := i) hin).ext he
    have hY := (hb.one (i := i) (by omega)).ext he
    have hmx := hs _ (memD (d := ce0) (show i < a.l.length by omega))
    generalize ex : a.l.getD i ce0 = p at gx hX hmx
    generalize ey : b.l.getD i ce0 = q at gy hY
    have cS : ∀ w', Ext w2 w' → Calls Tryz.prog 27 #[p.val, q.val] w' fun e w'' => e = .returned (.bool (sameC p.con q.con)) ∧ Ext w' w'' := fun w' hw => rsame14 (hX.ext hw) (hY.ext hw) (by have := hw.le; omega) hmx
    refine J.skip ?_
    refine J.seq ?_
    refine J.block ?_
    refine J.seq ?_
    refine J.quiet mixed (by kernel_rfl) ?_
    iterate 2 refine Qt.va rfl (fun w' hw => X.move (by conv => lhs; whnf)) ?_
    refine Qt.va rfl (fun w' hw => (by first | exact X.indexAddrn rfl rfl Tryz.underlying29 sz_52 (by first | exact Option.some_ne_none _ | exact hA | exact hB) (by omega) | exact X.indexAddr rfl rfl Tryz.underlying29 sz_52 (by first | exact Option.some_ne_none _ | exact hA | exact hB) (by omega))) ?_
    refine Qt.va rfl (fun w' hw => X.loadRow (cs := p.vs) rfl (hra.ext hw) (fun r u hu => flat_row ce_len gx r u hu) (Nat.zero_lt_succ _) Tryz.underlying52 rfl (by kernel_rfl)) ?_
    iterate 2 refine Qt.va rfl (fun w' hw => X.move (by conv => lhs; whnf)) ?_
    refine Qt.va rfl (fun w' hw => (by first | exact X.indexAddrn rfl rfl Tryz.underlying29 sz_52 (by first | exact Option.some_ne_none _ | exact hA | exact hB) (by omega) | exact X.indexAddr rfl rfl Tryz.underlying29 sz_52 (by first | exact Option.some_ne_none _ | exact hA | exact hB) (by omega))) ?_
    refine Qt.va rfl (fun w' hw => X.loadRow (cs := q.vs) rfl (hrb.ext hw) (fun r u hu => flat_row ce_len gy r u hu) (Nat.zero_lt_succ _) Tryz.underlying52 rfl (by kernel_rfl)) ?_
    refine Qt.call rfl en_27 rfl (fun w' hw => calls_ext hw (cS w' hw)) ?_
    refine Qt.va rfl (fun w' hw => X.not rfl) ?_
    refine Qt.nil (fun w3 hq => ?_)
    have he3 := he.trans hq
    cases hk : sameC p.con q.con
    ·refine J.iteT rfl ?_
     have e : sameL a.con b.con = false := eqL_no (i := i) (by show i < (a.l.map Ce.con).length; rw [List.length_map]; omega) (by
      show sameC ((a.l.map Ce.con).getD i con0) ((b.l.map Ce.con).getD i con0) = false
      rw [con_atC, con_atC, ex, ey]
      exact hk)
     rw [e]
     refine J.seq ?_
     refine J.region ?_
     refine L.va rfl (X.assign (by conv => lhs; whnf)) ?_
     refine L.nil ?_
     refine J.ret ?_
     refine inB_ret <|  thn_ret <|  thn_ret <|  inB_ret <|  thn_ret <| ?_
     refine fin1 ?_
     exact ⟨rfl, he3⟩
    ·refine J.iteF rfl ?_
     refine J.skip ?_
     refine J.region ?_
     refine L.va rfl (X.move (by conv => lhs; whnf)) ?_
     refine L.va rfl (X.add rfl rfl (by omega)) ?_
     refine L.va rfl (X.assign (by conv => lhs; whnf)) ?_
     refine L.nil ?_
     refine ⟨i + 1, At1 (by first | rfl | exact at_int rfl (by omega) | exact at_slice rfl (by omega) | exact at_int rfl (by simp)), (by (iterate 17 refine Agr.lk rfl ?_); exact Agr.lk rfl (Agr.hav rfl Agr.rfl')), ?_⟩
     refine ⟨⟨by omega, fun j hj => ?_, he3⟩, by omega⟩
     rcases Nat.lt_or_ge j i with h | h
     ·exact hP j h
     ·obtain rfl : j = i := by omega
      rw [ex, ey]
      exact hk
   ·obtain rfl : i = a.n := by omega
    have e : sameL a.con b.con = true := eqL_yes (by show (a.l.map Ce.con).length = (b.l.map Ce.con).length; rw [List.length_map, List.length_map]; omega) (fun j hj => by
     show sameC ((a.l.map Ce.con).getD j con0) ((b.l.map Ce.con).getD j con0) = true
     rw [con_atC, con_atC]
     exact hP j (by have : j < (a.l.map Ce.con).length := hj; rw [List.length_map] at this; omega))
    rw [e]
    refine J.exit ?_
    refine J.seq ?_
    refine J.region ?_
    refine L.va rfl (X.assign (by conv => lhs; whnf)) ?_
    refine L.nil ?_
    refine J.ret ?_
    refine fin1 ?_
    exact ⟨rfl, he⟩
end Go.Proofs.YtpomklkfedpkfaaGreat
namespace Go.Proofs.YtpomklkfedpkfaaGreat
set_option maxRecDepth 100000
open Go.RowKit H
open Dfp
set_option linter.unusedVariables false
def riseK (l : List Con) : Bool := (List.range (l.length - 1)).all fun i => decide ((l.getD i con0).k < (l.getD (i + 1) con0).k)
theorem rise_con (l : List Ce) : rise l = riseK (l.map Ce.con) := by
  unfold rise riseK
  rw [List.length_map]
  congr 1
  funext i
  rw [con_atC, con_atC]
  apply Bool.eq_iff_iff.2
  rw [decide_eq_true_iff, decide_eq_true_iff]
  show ((l.getD i ce0).k : Int) < ((l.getD (i + 1) ce0).k : Int) ↔ (l.getD i ce0).k < (l.getD (i + 1) ce0).k
  omega
def rightK (s : Sch) (m : Nat) (l : List Con) : Bool := s.kb m && (riseK l && l.all (rightC s m))
theorem rightK_ris {s : Sch} {m : Nat} {l : List Ce} (h : rightK s m (l.map Ce.con) = true) : rise l = true := by
  unfold rightK at h
  rw [rise_con]
  simp only [Bool.and_eq_true] at h
  exact h.2.1
theorem cright {s : Sch} {m : Nat} {t : Ces} {w : World} {N : Nat} (H : s.Here w) (hm : m < 4294967296) (hN : N ≤ w.heap.size) (ht : t.At N w) (hn : t.n ≤ 1000) (hL : ∀ x ∈ t.l, x.Lt) : Calls Tryz.prog 16 #[s.val, .int .u32 (m : Int), t.val] w fun e w' => e = .returned (.bool (rightK s m t.con)) ∧ Ext w w' := by
 obtain ⟨A, n, c, l⟩ := t
 obtain rfl : l.length = n := ht.l
 have hn : l.length ≤ 1000 := hn
 have hr : Reads w N 4 A l.length (l.flatMap Ce.vs) := ht.r
 show Calls Tryz.prog 16 #[s.val, .int .u32 (m : Int), .slice A l.length c] w fun e w' => e = .returned (.bool (rightK s m (l.map Ce.con))) ∧ Ext w w'
 have hle := H.hle
 have no : ∀ w' : World, rightK s m (l.map Ce.con) = false → Ext w w' → Ending.returned (.bool false) = .returned (.bool (rightK s m (l.map Ce.con))) ∧ Ext w w' := fun w' h he => ⟨by rw [h], he⟩
 refine enter Tryz.func16 rfl (by kernel_rfl) ?_
 refine J.seq ?_
 refine J.region ?_
 refine L.boxA (l := [_, _, _, _]) rfl rfl ?_
 intro b1 w1 hb1 hs1 hk1 he1
 refine L.va rfl (X.assign (by conv => lhs; whnf)) ?_
 refine L.nil ?_
 iterate 2 refine J.seq ?_
 refine J.region ?_
 refine L.va rfl ((by first | exact X.loadAgg rfl (range_l hk1) Tryz.underlying26 rfl (by kernel_rfl) | exact X.loadAgg rfl (range_blk hk1) Tryz.underlying26 rfl (by kernel_rfl))) ?_
 refine L.va rfl (X.move (by conv => lhs; whnf)) ?_
 refine L.call rfl en_31 rfl ((H.ext he1).keys hm) ?_
 rintro e w2 ⟨rfl, he2⟩
 refine ⟨_, rfl, ?_⟩
 have he2 : Ext w1 w2 := he2
 have he02 := he1.trans he2
 have hk1 := hk1.ext he2
 refine L.va rfl (X.move (by conv => lhs; whnf)) ?_
 iterate 2 refine L.va rfl (X.extract rfl rfl) ?_
 iterate 2 refine L.va rfl (X.assign (by conv => lhs; whnf)) ?_
 refine L.nil ?_
 refine J.seq ?_
 refine J.region ?_
 refine L.va rfl (X.move (by conv => lhs; whnf)) ?_
 refine L.va rfl (X.not rfl) ?_
 refine L.va rfl (X.move (by conv => lhs; whnf)) ?_
 cases hkb : s.kb m
 ·refine L.caseBT (k := 19) rfl (by rfl) ?_
  iterate 3 refine L.no rfl ?_
  refine L.va rfl (X.pickT rfl (by conv => lhs; whnf)) ?_
  refine L.nil ?_
  refine J.iteT rfl ?_
  refine J.seq ?_
  refine J.region ?_
  refine L.va rfl (X.assign (by conv => lhs; whnf)) ?_
  refine L.nil ?_
  refine J.ret ?_
  refine thn_ret <| ?_
  refine fin1 ?_
  refine no _ ?_ he02
  unfold rightK
  rw [hkb]
  rfl
 ·have z2 := he02.le
  have c3 := crising (w := w2) A c l (hr.ext he02) (by omega) (by omega)
  refine L.caseBF (k := 19) rfl (by rfl) ?_
  refine L.va rfl (X.move (by conv => lhs; whnf)) ?_
  refine L.call rfl en_32 rfl (c3) ?_
  rintro e w3 ⟨rfl, he3⟩
  refine ⟨_, rfl, ?_⟩
  have he3 : Ext w2 w3 := he3
  have he03 := he02.trans he3
  have hk1 := hk1.ext he3
  refine L.va rfl (X.not rfl) ?_
  refine L.va rfl (X.pickF rfl (by conv => lhs; whnf)) ?_
  refine L.nil ?_
  cases hri : rise l
  ·refine J.iteT rfl ?_
   refine J.seq ?_
   refine J.region ?_
   refine L.va rfl (X.assign (by conv => lhs; whnf)) ?_
   refine L.nil ?_
   refine J.ret ?_
   refine thn_ret <| ?_
   refine fin1 ?_
   refine no _ ?_ he03
   unfold rightK
   rw [← rise_con, hri]
   simp
  ·refine J.iteF rfl ?_
   refine J.skip ?_
   iterate 2 refine J.seq ?_
   refine J.region ?_
   refine L.va rfl (X.move (by conv => lhs; whnf)) ?_
   refine L.va rfl (X.len rfl Tryz.underlying29) ?_
   refine L.va rfl (X.move (by conv => lhs; whnf)) ?_
   refine L.nil ?_
   refine J.block ?_
   refine J.loop (X := Nat) [6, 10, 26, 27, 28, 29, 30, 31, 32, 33, 34, 35] (fun i => [(26, .int .i64 (i : Int))]) (fun i w' => i ≤ l.length ∧ (∀ j, j < i → rightC s m (l.getD j ce0).con = true) ∧ Ext w3 w') (fun i => l.length - i) (0) (At1 (by first | rfl | exact at_int rfl (by omega) | exact at_slice rfl (by omega) | exact at_int rfl (by simp))) ?_ ?_
   ·exact ⟨Nat.zero_le _, fun j hj => absurd hj (by omega), Ext.refl _⟩
   ·rintro i g w4 ⟨hi, hP, he34⟩
    have he4 := he03.trans he34
    have hk4 := hk1.ext he34
    have z4 := he4.le
    refine J.seq ?_
    refine J.region ?_
    refine L.va rfl (X.lss rfl rfl) ?_
    refine L.nil ?_
    refine J.seq ?_
    refine J.dec rfl (fun hlt => ?_) (fun hlt => ?_)
    ·have hin : i < l.length := by omega
     have hr4 := hr.ext he4
     have hA := hr4.some_ (by omega)
     have gy := gtX hin
     have my := memD (l := l) (i := i) (d := ce0) hin
     obtain ⟨y, hy⟩ : ∃ y, y = l.getD i ce0 := ⟨_, rfl⟩
     rw [← hy] at gy my
     refine J.skip ?_
     refine J.seq ?_
     refine J.block ?_
     refine J.seq ?_
     refine J.region ?_
     refine L.va rfl ((by first | exact X.indexAddrn rfl rfl Tryz.underlying29 sz_52 (by first | exact Option.some_ne_none _ | exact hA) (by omega) | exact X.indexAddr rfl rfl Tryz.underlying29 sz_52 (by first | exact Option.some_ne_none _ | exact hA) (by omega))) ?_
     refine L.va rfl (X.loadRow (cs := y.vs) rfl hr4 (fun r u hu => flat_row ce_len gy r u hu) (Nat.zero_lt_succ _) Tryz.underlying52 rfl (by kernel_rfl)) ?_
     refine L.alloc rfl zr_52 ?_
     intro b5 w5 hb5 hs5 hk5 he5
     refine L.storeAgg (vs := [_, _, _, _]) rfl rfl rfl rfl sz_52 (hk5) rfl ?_
     intro w6 hk6 hg6 hs6
     have he46 : Ext w4 w6 := he5.grw hg6 (by intro g hg; injection hg with hg; omega)
     have hk6 : Blk w6 b5 52 y.vs.toArray := hk6
     have hk16 := hk4.ext he46
     have he06 := he4.trans he46
     have z6 := he06.le
     have c7 := aright (m := m) (x := y) (N := N) (H.ext he06) hm (by omega) ((ht.h y my).ext he06) (hL y my)
     refine L.nil ?_
     refine J.seq ?_
     refine J.region ?_
     refine L.va rfl (X.loadAgg rfl (range_blk hk16) Tryz.underlying26 rfl (by kernel_rfl)) ?_
     refine L.va rfl (X.move (by conv => lhs; whnf)) ?_
     refine L.va rfl (X.loadAgg rfl (range_l hk6) Tryz.underlying52 rfl (by kernel_rfl)) ?_
     refine L.call rfl en_33 rfl (c7) ?_
     rintro e w7 ⟨rfl, he7⟩
     refine ⟨_, rfl, ?_⟩
     have he07 := he06.trans he7
     refine L.va rfl (X.not rfl) ?_
     refine L.nil ?_
     cases hrc : rightC s m y.con
     ·refine J.iteT rfl ?_
      refine J.seq ?_
      refine J.region ?_
      refine L.va rfl (X.assign (by conv => lhs; whnf)) ?_
      refine L.nil ?_
      refine J.ret ?_
      refine inB_ret <|  thn_ret <|  thn_ret <|  inB_ret <|  thn_ret <| ?_
      refine fin1 ?_
      refine no _ ?_ he07
      have : (l.map Ce.con).all (rightC s m) = false := by
       rw [List.all_map]
       exact all_no (d := ce0) hin (by rw [← hy]; exact hrc)
      unfold rightK
      rw [this]
      simp
     ·refine J.iteF rfl ?_
      refine J.skip ?_
      refine J.region ?_
      refine L.va rfl (X.add rfl rfl (by omega)) ?_
      refine L.va rfl (X.move (by conv => lhs; whnf)) ?_
      refine L.nil ?_
      refine ⟨i + 1, At1 (by first | rfl | exact at_int rfl (by omega) | exact at_slice rfl (by omega) | exact at_int rfl (by simp)), (by (iterate 11 refine Agr.lk rfl ?_); exact Agr.lk rfl (Agr.hav rfl Agr.rfl')), ?_⟩
      refine ⟨⟨by omega, fun j hj => ?_, (he34.trans he46).trans he7⟩, by omega⟩
      rcases Nat.lt_or_ge j i with h | h
      ·exact hP j h
      ·obtain rfl : j = i := by omega
       rw [← hy]
       exact hrc
    ·refine J.exit ?_
     refine J.seq ?_
     refine J.region ?_
     refine L.va rfl (X.assign (by conv => lhs; whnf)) ?_
     refine L.nil ?_
     refine J.ret ?_
     refine fin1 ?_
     have : (l.map Ce.con).all (rightC s m) = true := by
      rw [List.all_map]
      exact all_yes (d := ce0) fun j hj => hP j (by omega)
     refine ⟨?_, he4⟩
     unfold rightK
     rw [this, ← rise_con, hri, hkb]
     rfl
end Go.Proofs.YtpomklkfedpkfaaGreat
