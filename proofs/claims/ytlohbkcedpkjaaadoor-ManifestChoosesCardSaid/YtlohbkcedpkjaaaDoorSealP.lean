import Derived.Test.YtlohbkcedpkjaaaDoorTextP
/-
  Plain mathematics of CRC-32C: registers as 32-bit words, bytes as integers; no program in sight.
-/
namespace Go.Proofs.YtlohbkcedpkjaaaDoor
namespace Crc
abbrev W32 := BitVec 32
def poly : W32 := 0x82f63b78#32
def st1 (r : W32) : W32 := if r.getLsbD 0 then (r >>> 1) ^^^ poly else r >>> 1
def stN : Nat → W32 → W32
  | 0, r => r
  | n + 1, r => stN n (st1 r)
theorem st1_xor (a b : W32) : st1 (a ^^^ b) = st1 a ^^^ st1 b := by
  unfold st1
  rw [BitVec.getLsbD_xor]
  cases ha : a.getLsbD 0 <;> cases hb : b.getLsbD 0 <;> simp [BitVec.ushiftRight_xor_distrib]
  · rw [BitVec.xor_assoc]
  · ac_rfl
  · rw [show a >>> 1 ^^^ poly ^^^ (b >>> 1 ^^^ poly) = (a >>> 1 ^^^ b >>> 1) ^^^ (poly ^^^ poly) by ac_rfl]; simp
theorem stN_xor (n : Nat) : ∀ a b : W32, stN n (a ^^^ b) = stN n a ^^^ stN n b := by
  induction n with
  | zero => intro a b; rfl
  | succ n ih => intro a b; simp only [stN, st1_xor, ih]
theorem st1_zero : st1 0#32 = 0#32 := by decide
theorem stN_zero (n : Nat) : stN n 0#32 = 0#32 := by
  induction n with
  | zero => rfl
  | succ n ih => simp only [stN, st1_zero, ih]
theorem stN_add (m : Nat) : ∀ (n : Nat) (r : W32), stN (m + n) r = stN n (stN m r) := by
  induction m with
  | zero => intro n r; simp [stN]
  | succ m ih => intro n r; rw [Nat.add_right_comm]; simp only [stN, ih]
/-- the inverse of one step -/
def un1 (s : W32) : W32 := if s.msb then ((s ^^^ poly) <<< 1) ||| 1#32 else s <<< 1
theorem un1_st1 (r : W32) : un1 (st1 r) = r := by
  unfold st1 un1
  have hm : (r >>> 1).msb = false := by simp [BitVec.msb_ushiftRight]
  have hp : poly.msb = true := by decide
  cases h : r.getLsbD 0 <;> simp [hm, hp, BitVec.msb_xor, BitVec.xor_assoc]
  · ext i hi
    simp
    by_cases h0 : i = 0
    · subst h0; simpa using h.symm
    · simp [h0, hi, show 1 + (i - 1) = i by omega]
  · ext i hi
    simp
    by_cases h0 : i = 0
    · subst h0; simpa using h.symm
    · simp [h0, hi, show 1 + (i - 1) = i by omega]
theorem shl_shr (s : W32) (h : s.msb = false) : (s <<< 1) >>> 1 = s := by
  have hm := BitVec.msb_eq_false_iff_two_mul_lt.1 h
  apply BitVec.eq_of_toNat_eq
  simp only [BitVec.toNat_ushiftRight, BitVec.toNat_shiftLeft, Nat.shiftLeft_eq, Nat.shiftRight_eq_div_pow]
  rw [Nat.mod_eq_of_lt (by omega)]
  omega
theorem st1_un1 (s : W32) : st1 (un1 s) = s := by
  unfold st1 un1
  cases h : s.msb <;> simp
  · exact shl_shr s h
  · rw [BitVec.ushiftRight_or_distrib]
    have h1 : (1#32 >>> 1) = 0#32 := by decide
    have hp : poly.msb = true := by decide
    rw [h1, BitVec.or_zero, shl_shr _ (by simp [BitVec.msb_xor, h, hp]), BitVec.xor_assoc]
    simp
def unN : Nat → W32 → W32
  | 0, s => s
  | n + 1, s => unN n (un1 s)
theorem stN_succ (n : Nat) (r : W32) : stN (n + 1) r = st1 (stN n r) := by rw [stN_add]; rfl
theorem unN_add (m : Nat) : ∀ (n : Nat) (r : W32), unN (m + n) r = unN n (unN m r) := by
  induction m with
  | zero => intro n r; simp [unN]
  | succ m ih => intro n r; rw [Nat.add_right_comm]; simp only [unN, ih]
theorem unN_succ (n : Nat) (r : W32) : unN (n + 1) r = un1 (unN n r) := by rw [unN_add]; rfl
theorem stN_unN (n : Nat) : ∀ s : W32, stN n (unN n s) = s := by
  induction n with
  | zero => intro s; rfl
  | succ n ih => intro s; rw [stN_succ]; simp only [unN, ih, st1_un1]
theorem unN_stN (n : Nat) : ∀ s : W32, unN n (stN n s) = s := by
  induction n with
  | zero => intro s; rfl
  | succ n ih => intro s; rw [stN_succ]; simp only [unN, un1_st1, ih]
theorem stN_inj (n : Nat) {a b : W32} (h : stN n a = stN n b) : a = b := by
  have := congrArg (unN n) h
  rwa [unN_stN, unN_stN] at this
/-- k bits of nought at the foot: k steps are a shift -/
theorem stN_low (k : Nat) : ∀ r : W32, (∀ i, i < k → r.getLsbD i = false) → stN k r = r >>> k := by
  induction k with
  | zero => intro r _; simp [stN]
  | succ k ih =>
    intro r h
    have h0 : r.getLsbD 0 = false := h 0 (by omega)
    simp only [stN]
    have e : st1 r = r >>> 1 := by unfold st1; rw [h0]; rfl
    rw [e, ih]
    · rw [← BitVec.shiftRight_add, Nat.add_comm]
    · intro i hi
      rw [BitVec.getLsbD_ushiftRight]
      exact h _ (by omega)
theorem stN_four (r : W32) : stN 4 r = r >>> 4 ^^^ stN 4 (r &&& 15#32) := by
  have e : r = (r &&& ~~~ 15#32) ^^^ (r &&& 15#32) := by
    ext i hi
    simp only [BitVec.getElem_xor, BitVec.getElem_and, BitVec.getElem_not]
    cases r[i] <;> cases (15#32)[i] <;> rfl
  have l : ∀ i, i < 4 → (r &&& ~~~ 15#32).getLsbD i = false := by
    intro i hi
    have : i = 0 ∨ i = 1 ∨ i = 2 ∨ i = 3 := by omega
    rcases this with rfl | rfl | rfl | rfl <;> simp
  have h := stN_xor 4 (r &&& ~~~ 15#32) (r &&& 15#32)
  rw [← e, stN_low 4 _ l, BitVec.ushiftRight_and_distrib] at h
  rw [h]
  have t : (~~~ 15#32) >>> 4 = 0x0fffffff#32 := by decide
  rw [t]
  congr 1
  ext i hi
  simp
  intro hr
  have : i < 28 := by
    apply Decidable.byContradiction
    intro hn
    have := BitVec.getLsbD_of_ge r (4 + i) (by omega)
    simp [this] at hr
  have h28 : ∀ i, i < 28 → (0x0fffffff#32).getLsbD i = true := by decide
  rw [← BitVec.getLsbD_eq_getElem]
  exact h28 i this
/-- the table of the program, by its index -/
def tab : List Nat := [0x00000000, 0x105ec76f, 0x20bd8ede, 0x30e349b1, 0x417b1dbc, 0x5125dad3, 0x61c69362, 0x7198540d, 0x82f63b78, 0x92a8fc17, 0xa24bb5a6, 0xb21572c9, 0xc38d26c4, 0xd3d3e1ab, 0xe330a81a, 0xf36e6f75]
theorem tab_is : ∀ k, k < 16 → (stN 4 (BitVec.ofNat 32 k)).toNat = tab.getD k 0 := by decide
/-- one byte -/
def stB (r : W32) (x : W32) : W32 := stN 8 (r ^^^ x)
def run (r : W32) (xs : List W32) : W32 := xs.foldl stB r
theorem run_append (r : W32) (xs ys : List W32) : run r (xs ++ ys) = run (run r xs) ys := by simp [run]
theorem run_inj (xs : List W32) : ∀ {a b : W32}, run a xs = run b xs → a = b := by
  induction xs with
  | nil => intro a b h; exact h
  | cons x xs ih =>
    intro a b h
    have := stN_inj 8 (ih (a := stB a x) (b := stB b x) h)
    have := congrArg (· ^^^ x) this
    simpa [BitVec.xor_assoc] using this
/-- linear: what noughts make of the register, and what the bytes make of nought -/
theorem run_split (xs : List W32) : ∀ a b : W32, run (a ^^^ b) xs = stN (8 * xs.length) a ^^^ run b xs := by
  induction xs with
  | nil => intro a b; rfl
  | cons x xs ih =>
    intro a b
    show run (stB (a ^^^ b) x) xs = _
    have e : stB (a ^^^ b) x = stN 8 a ^^^ stB b x := by
      unfold stB; rw [BitVec.xor_assoc, stN_xor]
    rw [e, ih, ← stN_add]
    have : 8 + 8 * xs.length = 8 * (x :: xs).length := by simp; omega
    rw [this]; rfl
def le : List W32 → W32
  | [] => 0#32
  | x :: xs => x ^^^ (le xs <<< 8)
def Byt (x : W32) : Prop := x.toNat < 256
theorem le_lt (xs : List W32) (h : ∀ x ∈ xs, Byt x) : xs.length ≤ 4 → (le xs).toNat < 2 ^ (8 * xs.length) := by
  induction xs with
  | nil => intro _; decide
  | cons x xs ih =>
    intro hl
    simp only [List.length_cons] at hl ⊢
    have h1 := ih (fun y hy => h y (List.mem_cons_of_mem _ hy)) (by omega)
    have hx : x.toNat < 256 := h x (List.mem_cons_self ..)
    simp only [le, BitVec.toNat_xor]
    apply Nat.xor_lt_two_pow
    · exact Nat.lt_of_lt_of_le hx (by
        have : 2 ^ 8 ≤ 2 ^ (8 * (xs.length + 1)) := Nat.pow_le_pow_right (by omega) (by omega)
        simpa using this)
    · rw [BitVec.toNat_shiftLeft]
      refine Nat.lt_of_le_of_lt (Nat.mod_le _ _) ?_
      rw [Nat.shiftLeft_eq, show 8 * (xs.length + 1) = 8 * xs.length + 8 by omega, Nat.pow_add]
      exact Nat.mul_lt_mul_of_pos_right h1 (by decide)
theorem stN_shl8 (s : W32) (h : s.toNat < 2 ^ 24) : stN 8 (s <<< 8) = s := by
  rw [stN_low 8 _ (by intro i hi; simp [hi])]
  apply BitVec.eq_of_toNat_eq
  simp only [BitVec.toNat_ushiftRight, BitVec.toNat_shiftLeft, Nat.shiftLeft_eq, Nat.shiftRight_eq_div_pow]
  rw [Nat.mod_eq_of_lt (by omega)]
  omega
theorem run_le (xs : List W32) : ∀ (_ : ∀ x ∈ xs, Byt x) (_ : xs.length ≤ 4) (r : W32), run r xs = stN (8 * xs.length) (r ^^^ le xs) := by
  induction xs with
  | nil => intro _ _ r; simp [run, stN, le]
  | cons x xs ih =>
    intro hb hl r
    simp only [List.length_cons] at hl
    have hb' : ∀ y ∈ xs, Byt y := fun y hy => hb y (List.mem_cons_of_mem _ hy)
    have hlt := le_lt xs hb' (by omega)
    have h24 : (le xs).toNat < 2 ^ 24 := Nat.lt_of_lt_of_le hlt (Nat.pow_le_pow_right (by omega) (by omega))
    show run (stB r x) xs = _
    rw [ih hb' (by omega)]
    have e : stB r x ^^^ le xs = stN 8 (r ^^^ le (x :: xs)) := by
      conv => lhs; rw [← stN_shl8 _ h24]
      unfold stB
      rw [← stN_xor]; simp only [le, BitVec.xor_assoc]
    rw [e, ← stN_add]
    congr 1
    simp; omega
theorem le_inj (xs : List W32) : ∀ (ys : List W32), (∀ x ∈ xs, Byt x) → (∀ x ∈ ys, Byt x) → xs.length = ys.length → xs.length ≤ 4 → le xs = le ys → xs = ys := by
  induction xs with
  | nil => intro ys _ _ hl _ _; cases ys with | nil => rfl | cons y ys => simp at hl
  | cons x xs ih =>
    intro ys hx hy hl h4 he
    cases ys with
    | nil => simp at hl
    | cons y ys =>
      simp only [List.length_cons] at hl h4
      have hx' : ∀ z ∈ xs, Byt z := fun z hz => hx z (List.mem_cons_of_mem _ hz)
      have hy' : ∀ z ∈ ys, Byt z := fun z hz => hy z (List.mem_cons_of_mem _ hz)
      have bx : x.toNat < 256 := hx x (List.mem_cons_self ..)
      have bby : y.toNat < 256 := hy y (List.mem_cons_self ..)
      have lx := le_lt xs hx' (by omega)
      have ly := le_lt ys hy' (by omega)
      have l24 : (le xs).toNat < 2 ^ 24 := Nat.lt_of_lt_of_le lx (Nat.pow_le_pow_right (by omega) (by omega))
      have m24 : (le ys).toNat < 2 ^ 24 := Nat.lt_of_lt_of_le ly (Nat.pow_le_pow_right (by omega) (by omega))
      simp only [le] at he
      have exy : x = y := by
        have h0 := congrArg (fun z : W32 => z.toNat % 256) he
        have low : ∀ (u v : W32), u.toNat < 256 → (u ^^^ v <<< 8).toNat % 256 = u.toNat := by
          intro u v hu
          rw [BitVec.toNat_xor, show (256 : Nat) = 2 ^ 8 from rfl, Nat.xor_mod_two_pow, BitVec.toNat_shiftLeft]
          have : v.toNat <<< 8 % 2 ^ 32 % 2 ^ 8 = 0 := by rw [Nat.shiftLeft_eq]; omega
          rw [this, Nat.xor_zero]; omega
        simp only [low x _ bx, low y _ bby] at h0
        exact BitVec.eq_of_toNat_eq h0
      subst exy
      have he2 : le xs <<< 8 = le ys <<< 8 := by
        have := congrArg (x ^^^ ·) he
        simpa [← BitVec.xor_assoc] using this
      have he3 := congrArg (stN 8) he2
      rw [stN_shl8 _ l24, stN_shl8 _ m24] at he3
      rw [ih ys hx' hy' (by omega) (by omega) he3]
/-- four bytes of a word, the lowest first -/
def b0 (r : W32) : W32 := r &&& 255#32
def bytes4 (r : W32) : List W32 := [b0 r, b0 (r >>> 8), b0 (r >>> 16), b0 (r >>> 24)]
theorem le_bytes4 (r : W32) : le (bytes4 r) = r := by
  unfold bytes4 le le le le le b0
  ext i hi
  have h255 : ∀ k, (255#32).getLsbD k = decide (k < 8) := by
    intro k
    by_cases hk : k < 32
    · have : ∀ k, k < 32 → (255#32).getLsbD k = decide (k < 8) := by decide
      exact this k hk
    · rw [BitVec.getLsbD_of_ge _ _ (by omega)]; simp; omega
  rw [← BitVec.getLsbD_eq_getElem, ← BitVec.getLsbD_eq_getElem]
  simp only [BitVec.getLsbD_xor, BitVec.getLsbD_and, BitVec.getLsbD_shiftLeft, BitVec.getLsbD_ushiftRight, h255, BitVec.getLsbD_zero]
  by_cases h1 : i < 8
  · simp [h1, hi]
  · by_cases h2 : i < 16
    · have e : 8 + (i - 8) = i := by omega
      simp [h1, hi, e, show i - 8 < 8 by omega, show i - 8 < 32 by omega]
    · by_cases h3 : i < 24
      · have e : 16 + (i - 8 - 8) = i := by omega
        simp [h1, hi, e, show ¬ i - 8 < 8 by omega, show i - 8 < 32 by omega, show i - 8 - 8 < 8 by omega, show i - 8 - 8 < 32 by omega]
      · have e : 24 + (i - 8 - 8 - 8) = i := by omega
        simp [h1, hi, e, show ¬ i - 8 < 8 by omega, show i - 8 < 32 by omega, show ¬ i - 8 - 8 < 8 by omega, show i - 8 - 8 < 32 by omega, show i - 8 - 8 - 8 < 8 by omega, show i - 8 - 8 - 8 < 32 by omega]
theorem b0_byt (r : W32) : Byt (b0 r) := by
  unfold Byt b0
  rw [BitVec.toNat_and]
  exact Nat.lt_of_le_of_lt Nat.and_le_right (by decide)
/-- the four bytes that bring the register c to the register r -/
theorem run_patch (c r : W32) : run c (bytes4 (unN 32 r ^^^ c)) = r := by
  rw [run_le _ (by intro x hx; simp [bytes4] at hx; rcases hx with rfl | rfl | rfl | rfl <;> exact b0_byt _) (by simp [bytes4]), le_bytes4]
  have : c ^^^ (unN 32 r ^^^ c) = unN 32 r := by
    rw [BitVec.xor_comm (unN 32 r) c, ← BitVec.xor_assoc]; simp
  rw [this]
  exact stN_unN 32 r
/-- what differs within four bytes in a row is told apart -/
theorem run_burst (c : W32) (p m m' s : List W32) (hm : ∀ x ∈ m, Byt x) (hm' : ∀ x ∈ m', Byt x) (hl : m.length = m'.length) (h4 : m.length ≤ 4)
    (h : run c (p ++ m ++ s) = run c (p ++ m' ++ s)) : m = m' := by
  rw [run_append, run_append, run_append, run_append] at h
  have h1 := run_inj s h
  rw [run_le m hm h4, run_le m' hm' (by omega), ← hl] at h1
  have h2 := stN_inj _ h1
  have h3 := congrArg (run c p ^^^ ·) h2
  simp [← BitVec.xor_assoc] at h3
  exact le_inj m m' hm hm' hl h4 h3
def wd (z : Int) : W32 := BitVec.ofNat 32 z.toNat
def more (c : W32) (zs : List Int) : W32 := ~~~ run (~~~ c) (zs.map wd)
theorem not_xor' (a : W32) : ~~~ a = a ^^^ BitVec.allOnes 32 := BitVec.xor_allOnes.symm
theorem more_append (c : W32) (xs ys : List Int) : more c (xs ++ ys) = more (more c xs) ys := by
  unfold more; rw [List.map_append, run_append]; simp
theorem more_split (c : W32) (ys : List Int) : more c ys = stN (8 * ys.length) c ^^^ more 0#32 ys := by
  unfold more
  have := run_split (ys.map wd) c (~~~ 0#32)
  have e : c ^^^ ~~~ 0#32 = ~~~ c := by rw [not_xor' c]; rfl
  rw [e] at this
  rw [this, List.length_map, not_xor', not_xor' (run _ _), BitVec.xor_assoc]
theorem more_nil (c : W32) : more c [] = c := by simp [more, run]
theorem wd_toNat (z : Int) (h : 0 ≤ z ∧ z < 256) : ((wd z).toNat : Int) = z := by
  unfold wd; rw [BitVec.toNat_ofNat]; omega
/-! matrices -/
def bitT (n : Nat) : List W32 := (List.range 32).map fun i => stN n (BitVec.twoPow 32 i)
theorem bitT_getD (n i : Nat) (h : i < 32) : (bitT n).getD i 0#32 = stN n (BitVec.twoPow 32 i) := by
  simp [bitT, h]
theorem bit_rest (r : W32) : r = (if r.getLsbD 0 then 1#32 else 0#32) ^^^ ((r >>> 1) <<< 1) := by
  ext j hj
  rw [← BitVec.getLsbD_eq_getElem, ← BitVec.getLsbD_eq_getElem, BitVec.getLsbD_xor, BitVec.getLsbD_shiftLeft, BitVec.getLsbD_ushiftRight]
  rcases Nat.eq_zero_or_pos j with rfl | h
  · cases h0 : r.getLsbD 0 <;> simp
  · have e : 1 + (j - 1) = j := by omega
    have h1 : (if r.getLsbD 0 then 1#32 else 0#32).getLsbD j = false := by
      cases r.getLsbD 0 <;> simp [BitVec.getLsbD_one]; omega
    rw [h1, e]; simp [show ¬ j < 1 by omega, hj]
theorem shl_bit (r : W32) (i : Nat) : r <<< i = (if r.getLsbD 0 then BitVec.twoPow 32 i else 0#32) ^^^ ((r >>> 1) <<< (i + 1)) := by
  conv => lhs; rw [bit_rest r]
  rw [BitVec.shiftLeft_xor_distrib, Nat.add_comm i 1, BitVec.shiftLeft_add]
  congr 1
  cases r.getLsbD 0
  · simp
  · rfl
theorem of_step (n i : Nat) (h : i < 32) (r out : W32) : out ^^^ stN n (r <<< i) = (if r.getLsbD 0 then out ^^^ (bitT n).getD i 0#32 else out) ^^^ stN n ((r >>> 1) <<< (i + 1)) := by
  rw [shl_bit r i, stN_xor]
  have g := bitT_getD n i h
  cases hr : r.getLsbD 0
  · simp [stN_zero]
  · rw [g]; simp [BitVec.xor_assoc]
theorem of_end (n i : Nat) (out : W32) : out ^^^ stN n (0#32 <<< i) = out := by
  rw [BitVec.zero_shiftLeft, stN_zero, BitVec.xor_zero]
theorem of_start (n : Nat) (r : W32) : 0#32 ^^^ stN n (r <<< 0) = stN n r := by simp
theorem bitT_one : bitT 1 = poly :: (List.range 31).map (fun i => BitVec.twoPow 32 i) := by decide
theorem bitT_len (n : Nat) : (bitT n).length = 32 := by simp [bitT]
/-- one more doubling -/
theorem twice_is (n i : Nat) (h : i < 32) : stN n ((bitT n).getD i 0#32) = (bitT (n + n)).getD i 0#32 := by
  rw [bitT_getD n i h, bitT_getD _ i h, ← stN_add]
end Crc
end Go.Proofs.YtlohbkcedpkjaaaDoor
/-
  Plain mathematics: a sheet's sector.
-/
namespace Go.Proofs.YtlohbkcedpkjaaaDoor
namespace Seal
open Byts
/-- a sheet's sector without its sum -/
def hd (k a b : Int) (zs : List Int) : List Int := [k] ++ (be 8 a ++ (be 8 b ++ (be 2 (zs.length : Int) ++ (zs ++ List.replicate (1001 - zs.length) 0))))
theorem hd_length (k a b : Int) (zs : List Int) (h : zs.length ≤ 1001) : (hd k a b zs).length = 1020 := by simp [hd, be_length]; omega
/-- what Put lays, one behind the other -/
def lay1 (k : Int) : List Int := (List.replicate 1024 0).set 0 k
def lay2 (k a : Int) : List Int := lay (lay1 k) 1 (be 8 a)
def lay3 (k a b : Int) : List Int := lay (lay2 k a) 9 (be 8 b)
def lay4 (k a b : Int) (n : Nat) : List Int := lay (lay3 k a b) 17 (be 2 (n : Int))
def lay5 (k a b : Int) (zs : List Int) : List Int := lay (lay4 k a b zs.length) 19 zs
theorem lay1_length (k : Int) : (lay1 k).length = 1024 := by unfold lay1; rw [List.length_set, List.length_replicate]
theorem lay2_length (k a : Int) : (lay2 k a).length = 1024 := by unfold lay2; rw [lay_length (by rw [be_length, lay1_length]; decide), lay1_length]
theorem lay3_length (k a b : Int) : (lay3 k a b).length = 1024 := by unfold lay3; rw [lay_length (by rw [be_length, lay2_length]; decide), lay2_length]
theorem lay4_length (k a b : Int) (n : Nat) : (lay4 k a b n).length = 1024 := by unfold lay4; rw [lay_length (by rw [be_length, lay3_length]; decide), lay3_length]
theorem lay5_length (k a b : Int) (zs : List Int) (h : zs.length ≤ 1001) : (lay5 k a b zs).length = 1024 := by unfold lay5; rw [lay_length (by rw [lay4_length]; omega), lay4_length]
theorem lay_app {k : Nat} (p q m : List Int) (bs : List Int) (hp : p.length = k) (hm : m.length = bs.length) : lay (p ++ (m ++ q)) k bs = p ++ (bs ++ q) := by
  subst hp
  unfold lay
  have e1 : List.drop (p.length + bs.length) p = [] := List.drop_of_length_le (by omega)
  have e2 : List.drop bs.length m = [] := List.drop_of_length_le (by omega)
  rw [List.take_left, List.drop_append, List.drop_append, hm]
  simp [e1, e2]
theorem lay5_is (k a b : Int) (zs : List Int) (h : zs.length ≤ 1001) : lay5 k a b zs = hd k a b zs ++ List.replicate 4 0 := by
  have s1 : lay1 k = [k] ++ (List.replicate 8 0 ++ List.replicate 1015 0) := by
    unfold lay1
    rw [show (1024 : Nat) = 1023 + 1 from rfl, List.replicate_succ, List.set_cons_zero, show (1023 : Nat) = 8 + 1015 from rfl, ← List.replicate_append_replicate]
    rfl
  have s2 : lay2 k a = ([k] ++ be 8 a) ++ (List.replicate 8 0 ++ List.replicate 1007 0) := by
    unfold lay2
    rw [s1, lay_app (k := 1) [k] _ _ _ rfl (by rw [be_length, List.length_replicate]), show (1015 : Nat) = 8 + 1007 from rfl, ← List.replicate_append_replicate, ← List.append_assoc]
  have s3 : lay3 k a b = ([k] ++ be 8 a ++ be 8 b) ++ (List.replicate 2 0 ++ List.replicate 1005 0) := by
    unfold lay3
    rw [s2, lay_app _ _ _ _ (by simp [be_length]) (by rw [be_length, List.length_replicate]), show (1007 : Nat) = 2 + 1005 from rfl, ← List.replicate_append_replicate, ← List.append_assoc]
  have s4 : lay4 k a b zs.length = ([k] ++ be 8 a ++ be 8 b ++ be 2 (zs.length : Int)) ++ (List.replicate zs.length 0 ++ List.replicate (1005 - zs.length) 0) := by
    unfold lay4
    rw [s3, lay_app _ _ _ _ (by simp [be_length]) (by rw [be_length, List.length_replicate]), List.replicate_append_replicate, show zs.length + (1005 - zs.length) = 1005 by omega, ← List.append_assoc]
  unfold lay5
  rw [s4, lay_app _ _ _ _ (by simp [be_length]) (by simp), show 1005 - zs.length = (1001 - zs.length) + 4 by omega, ← List.replicate_append_replicate]
  simp [hd, List.append_assoc]
/-- a sheet's sector -/
def sec (k a b : Int) (zs le : List Int) : List Int := hd k a b zs ++ le
theorem lay6_is (k a b : Int) (zs le : List Int) (h : zs.length ≤ 1001) (h4 : le.length = 4) : lay (lay5 k a b zs) 1020 le = sec k a b zs le := by
  rw [lay5_is k a b zs h]
  have := lay_app (k := 1020) (hd k a b zs) [] (List.replicate 4 0) le (hd_length k a b zs h) (by simp [h4])
  simpa [sec] using this
theorem lay5_take (k a b : Int) (zs : List Int) (h : zs.length ≤ 1001) : (lay5 k a b zs).take 1020 = hd k a b zs := by
  rw [lay5_is k a b zs h, List.take_append_of_le_length (by rw [hd_length k a b zs h]; exact Nat.le_refl _), List.take_of_length_le (by rw [hd_length k a b zs h]; exact Nat.le_refl _)]
theorem hd_bytes (k a b : Int) (zs : List Int) (hk : 0 ≤ k ∧ k < 256) (hz : ∀ z ∈ zs, 0 ≤ z ∧ z < 256) : ∀ z ∈ hd k a b zs, 0 ≤ z ∧ z < 256 := by
  intro z h
  simp only [hd, List.mem_append, List.mem_singleton] at h
  rcases h with rfl | h | h | h | h | h
  · exact hk
  · exact be_bytes _ _ z h
  · exact be_bytes _ _ z h
  · exact be_bytes _ _ z h
  · exact hz z h
  · rw [List.mem_replicate] at h; omega
end Seal
end Go.Proofs.YtlohbkcedpkjaaaDoor
/-
  Plain mathematics: the sheet of a sector.
-/
namespace Go.Proofs.YtlohbkcedpkjaaaDoor
namespace Seal
open Byts
/-- how long the body is, as the bytes tell -/
def sN (zs : List Int) : Int := num ((zs.drop 17).take 2)
/-- the body's rest, up to the sum -/
def sT (zs : List Int) : List Int := (zs.drop (19 + (sN zs).toNat)).take (1001 - (sN zs).toNat)
/-- why there is no sheet; 0: there is one -/
def sE (sm : List Int → List Int) (zs : List Int) : Int :=
  if zs.length ≠ 1024 then 6 else if zs.drop 1020 ≠ sm (zs.take 1020) then 13 else if zs.getD 0 0 = 0 ∨ 1001 < sN zs then 6
  else if ∃ z ∈ sT zs, z ≠ 0 then 6 else 0
def sK (sm : List Int → List Int) (zs : List Int) : Int := if sE sm zs = 0 then zs.getD 0 0 else 0
def sA (sm : List Int → List Int) (zs : List Int) : Int := if sE sm zs = 0 then num ((zs.drop 1).take 8) else 0
def sB (sm : List Int → List Int) (zs : List Int) : Int := if sE sm zs = 0 then num ((zs.drop 9).take 8) else 0
def sV (sm : List Int → List Int) (zs : List Int) : List Int := if sE sm zs = 0 then (zs.drop 19).take (sN zs).toNat else []
theorem mid_bytes {zs : List Int} (hz : ∀ z ∈ zs, 0 ≤ z ∧ z < 256) (i n : Nat) : ∀ z ∈ (zs.drop i).take n, 0 ≤ z ∧ z < 256 :=
  fun z h => hz z (List.mem_of_mem_drop (List.mem_of_mem_take h))
theorem sV_bytes (sm : List Int → List Int) (zs : List Int) (hz : ∀ z ∈ zs, 0 ≤ z ∧ z < 256) : ∀ z ∈ sV sm zs, 0 ≤ z ∧ z < 256 := by
  intro z h
  unfold sV at h
  split at h
  · exact mid_bytes hz _ _ z h
  · cases h
theorem num_mid {zs : List Int} (hz : ∀ z ∈ zs, 0 ≤ z ∧ z < 256) (i n : Nat) (hn : n ≤ 8) : 0 ≤ num ((zs.drop i).take n) ∧ num ((zs.drop i).take n) ≤ 18446744073709551615 := by
  have h := num_lt _ (mid_bytes hz i n)
  refine ⟨h.1, ?_⟩
  have hl : ((zs.drop i).take n).length ≤ 8 := by simp; omega
  have h256 : ∀ m, m ≤ 8 → (256 : Int) ^ m ≤ 18446744073709551616 := by decide
  have := h256 _ hl
  omega
theorem sN_bd {zs : List Int} (hz : ∀ z ∈ zs, 0 ≤ z ∧ z < 256) : 0 ≤ sN zs ∧ sN zs < 65536 := by
  have h := num_lt _ (mid_bytes hz 17 2)
  refine ⟨h.1, ?_⟩
  have hl : ((zs.drop 17).take 2).length ≤ 2 := by simp; omega
  have h256 : ∀ m, m ≤ 2 → (256 : Int) ^ m ≤ 65536 := by decide
  have := h256 _ hl
  unfold sN
  omega
/-- the head of the sheet that the bytes tell is those bytes, but for the rest -/
theorem hd_of (zs : List Int) (hz : ∀ z ∈ zs, 0 ≤ z ∧ z < 256) (hl : zs.length = 1024) (hn : sN zs ≤ 1001) :
    hd (zs.getD 0 0) (num ((zs.drop 1).take 8)) (num ((zs.drop 9).take 8)) ((zs.drop 19).take (sN zs).toNat) = zs.take (19 + (sN zs).toNat) ++ List.replicate (1001 - (sN zs).toNat) 0 ∧
    zs.take 1020 = zs.take (19 + (sN zs).toNat) ++ sT zs := by
  obtain ⟨hn0, _⟩ := sN_bd hz
  have hlen : ((zs.drop 19).take (sN zs).toNat).length = (sN zs).toNat := by simp; omega
  have b8 : ∀ i, i + 8 ≤ 1024 → be 8 (num ((zs.drop i).take 8)) = (zs.drop i).take 8 := by
    intro i hi
    have := be_num _ (mid_bytes hz i 8)
    rwa [show ((zs.drop i).take 8).length = 8 by simp; omega] at this
  have b2 : be 2 (sN zs) = (zs.drop 17).take 2 := by
    have := be_num _ (mid_bytes hz 17 2)
    rwa [show ((zs.drop 17).take 2).length = 2 by simp; omega] at this
  have tk : ∀ i n, zs.take i ++ (zs.drop i).take n = zs.take (i + n) := by
    intro i n
    rw [← List.take_add]
  constructor
  · unfold hd
    rw [hlen, Int.toNat_of_nonneg hn0, b2, b8 1 (by omega), b8 9 (by omega)]
    have h1 : [zs.getD 0 0] = zs.take 1 := by
      rcases zs with _ | ⟨a, t⟩
      · simp at hl
      · rfl
    rw [h1]
    simp only [← List.append_assoc]
    rw [tk 1 8, tk 9 8, tk 17 2, tk 19]
  · unfold sT
    rw [tk, show 19 + (sN zs).toNat + (1001 - (sN zs).toNat) = 1020 by omega]
theorem hd_same (zs : List Int) (hz : ∀ z ∈ zs, 0 ≤ z ∧ z < 256) (hl : zs.length = 1024) (hn : sN zs ≤ 1001) :
    hd (zs.getD 0 0) (num ((zs.drop 1).take 8)) (num ((zs.drop 9).take 8)) ((zs.drop 19).take (sN zs).toNat) = zs.take 1020 ↔ ¬ ∃ z ∈ sT zs, z ≠ 0 := by
  obtain ⟨h1, h2⟩ := hd_of zs hz hl hn
  rw [h1, h2, List.append_cancel_left_eq]
  have hs : (sT zs).length = 1001 - (sN zs).toNat := by unfold sT; simp; omega
  constructor
  · intro h ⟨z, hz, h0⟩
    rw [← h] at hz
    exact h0 (List.eq_of_mem_replicate hz)
  · intro h
    symm
    rw [List.eq_replicate_iff]
    exact ⟨hs, fun z hz => Classical.byContradiction fun h0 => h ⟨z, hz, h0⟩⟩
/-- with the right sum: the sector of the sheet that the bytes tell is the bytes, or the rest is not clear -/
theorem sec_same (sm : List Int → List Int) (h4 : ∀ l, (sm l).length = 4) (zs : List Int) (hz : ∀ z ∈ zs, 0 ≤ z ∧ z < 256) (hl : zs.length = 1024) (hs : zs.drop 1020 = sm (zs.take 1020)) (hn : sN zs ≤ 1001) :
    sec (zs.getD 0 0) (num ((zs.drop 1).take 8)) (num ((zs.drop 9).take 8)) ((zs.drop 19).take (sN zs).toNat) (sm (hd (zs.getD 0 0) (num ((zs.drop 1).take 8)) (num ((zs.drop 9).take 8)) ((zs.drop 19).take (sN zs).toNat))) = zs ↔ ¬ ∃ z ∈ sT zs, z ≠ 0 := by
  rw [← hd_same zs hz hl hn]
  unfold sec
  generalize hd (zs.getD 0 0) (num ((zs.drop 1).take 8)) (num ((zs.drop 9).take 8)) ((zs.drop 19).take (sN zs).toNat) = H
  constructor
  · intro h
    have := congrArg List.length h
    rw [List.length_append, h4, hl] at this
    rw [← h, List.take_append_of_le_length (by omega), List.take_of_length_le (by omega)]
  · intro h
    rw [h, ← hs, List.take_append_drop]
/-- what was put is got -/
theorem sec_get (sm : List Int → List Int) (h4 : ∀ l, (sm l).length = 4) (k a b : Int) (zs : List Int) (hk : 1 ≤ k) (hl : zs.length ≤ 1001) (ha : 0 ≤ a) (ha1 : a ≤ 18446744073709551615) (hb : 0 ≤ b) (hb1 : b ≤ 18446744073709551615) :
    sE sm (sec k a b zs (sm (hd k a b zs))) = 0 ∧ sK sm (sec k a b zs (sm (hd k a b zs))) = k ∧ sA sm (sec k a b zs (sm (hd k a b zs))) = a ∧ sB sm (sec k a b zs (sm (hd k a b zs))) = b ∧ sV sm (sec k a b zs (sm (hd k a b zs))) = zs := by
  have hhl := hd_length k a b zs hl
  have hX : (sec k a b zs (sm (hd k a b zs))).length = 1024 := by unfold sec; rw [List.length_append, hhl, h4]
  have hT : (sec k a b zs (sm (hd k a b zs))).take 1020 = hd k a b zs := by unfold sec; rw [← hhl, List.take_left]
  have hD : (sec k a b zs (sm (hd k a b zs))).drop 1020 = sm (hd k a b zs) := by unfold sec; rw [← hhl, List.drop_left]
  have h0 : (sec k a b zs (sm (hd k a b zs))).getD 0 0 = k := rfl
  have hx : sec k a b zs (sm (hd k a b zs)) = [k] ++ (be 8 a ++ (be 8 b ++ (be 2 (zs.length : Int) ++ (zs ++ (List.replicate (1001 - zs.length) 0 ++ sm (hd k a b zs)))))) := by
    simp [sec, hd]
  have hA : ((sec k a b zs (sm (hd k a b zs))).drop 1).take 8 = be 8 a := by
    rw [hx, List.drop_left' (by rfl), List.take_left' (be_length _ _)]
  have hB : ((sec k a b zs (sm (hd k a b zs))).drop 9).take 8 = be 8 b := by
    rw [hx, ← List.append_assoc, List.drop_left' (by simp [be_length]), List.take_left' (be_length _ _)]
  have hN : ((sec k a b zs (sm (hd k a b zs))).drop 17).take 2 = be 2 (zs.length : Int) := by
    rw [hx, ← List.append_assoc, ← List.append_assoc, List.drop_left' (by simp [be_length]), List.take_left' (be_length _ _)]
  have hsN : sN (sec k a b zs (sm (hd k a b zs))) = zs.length := by
    unfold sN
    rw [hN, num_be 2 _ (by omega) (by omega)]
  have hV : ((sec k a b zs (sm (hd k a b zs))).drop 19).take zs.length = zs := by
    rw [hx, ← List.append_assoc, ← List.append_assoc, ← List.append_assoc, List.drop_left' (by simp [be_length]), List.take_left' rfl]
  have hS : sT (sec k a b zs (sm (hd k a b zs))) = List.replicate (1001 - zs.length) 0 := by
    unfold sT
    rw [hsN, Int.toNat_natCast, hx, ← List.append_assoc, ← List.append_assoc, ← List.append_assoc, ← List.append_assoc, List.drop_left' (by simp [be_length]; omega), List.take_left' (by simp)]
  have hE : sE sm (sec k a b zs (sm (hd k a b zs))) = 0 := by
    unfold sE
    rw [if_neg (by rw [hX]; simp), if_neg (by rw [hT, hD]; simp), if_neg (by rw [h0, hsN]; omega), if_neg]
    rw [hS]
    rintro ⟨z, hz, hne⟩
    exact hne (List.eq_of_mem_replicate hz)
  refine ⟨hE, ?_, ?_, ?_, ?_⟩
  · unfold sK; rw [if_pos hE, h0]
  · unfold sA; rw [if_pos hE, hA, num_be 8 _ ha (by omega)]
  · unfold sB; rw [if_pos hE, hB, num_be 8 _ hb (by omega)]
  · unfold sV; rw [if_pos hE, hsN, Int.toNat_natCast, hV]
end Seal
end Go.Proofs.YtlohbkcedpkjaaaDoor
/-
  Plain mathematics: frames.
-/
namespace Go.Proofs.YtlohbkcedpkjaaaDoor
namespace Fram
open Byts
/-- a frame ahead of its sum -/
def fhd (zs : List Int) : List Int := 181 :: (be 3 (zs.length : Int) ++ zs)
theorem fhd_length (zs : List Int) : (fhd zs).length = 4 + zs.length := by simp [fhd, be_length]; omega
theorem fhd_bytes (zs : List Int) (hz : ∀ z ∈ zs, 0 ≤ z ∧ z < 256) : ∀ z ∈ fhd zs, 0 ≤ z ∧ z < 256 := by
  intro z h
  simp only [fhd, List.mem_cons, List.mem_append] at h
  rcases h with rfl | h | h
  · decide
  · exact be_bytes _ _ z h
  · exact hz z h
/-- a frame; sm: the four bytes of a sum -/
def frm (sm : List Int → List Int) (zs : List Int) : List Int := fhd zs ++ sm (fhd zs)
theorem frm_length (sm : List Int → List Int) (h4 : ∀ l, (sm l).length = 4) (zs : List Int) : (frm sm zs).length = 8 + zs.length := by simp [frm, fhd_length, h4]; omega
/-- the length that the first bytes tell -/
def nZ (zs : List Int) : Int := (zs.getD 1 0 * 256 + zs.getD 2 0) * 256 + zs.getD 3 0
theorem getD_nn {zs : List Int} (hz : ∀ z ∈ zs, 0 ≤ z ∧ z < 256) (i : Nat) : 0 ≤ zs.getD i 0 ∧ zs.getD i 0 < 256 := by
  rcases Nat.lt_or_ge i zs.length with h | h
  · have e : zs.getD i 0 = zs[i] := by simp [List.getD, h]
    rw [e]; exact hz _ (List.getElem_mem h)
  · have e : zs.getD i 0 = 0 := by simp [List.getD, List.getElem?_eq_none h]
    rw [e]; omega
theorem nZ_nn {zs : List Int} (hz : ∀ z ∈ zs, 0 ≤ z ∧ z < 256) : 0 ≤ nZ zs ∧ nZ zs < 16777216 := by
  have h1 := getD_nn hz 1
  have h2 := getD_nn hz 2
  have h3 := getD_nn hz 3
  unfold nZ; omega
/-- why there is no body; 0: there is one -/
def gE (sm : List Int → List Int) (zs : List Int) : Int :=
  if zs.length ≠ 0 ∧ zs.getD 0 0 ≠ 181 then 6 else if 60000 < nZ zs then 6 else if (zs.length : Int) < 8 + nZ zs then 5
  else if (zs.drop (4 + (nZ zs).toNat)).take 4 ≠ sm (zs.take (4 + (nZ zs).toNat)) then 13 else 0
def gB (sm : List Int → List Int) (zs : List Int) : List Int := if gE sm zs = 0 then (zs.drop 4).take (nZ zs).toNat else []
def gN (sm : List Int → List Int) (zs : List Int) : Int := if gE sm zs = 0 then 8 + nZ zs else 0
theorem gB_bytes (sm : List Int → List Int) (zs : List Int) (hz : ∀ z ∈ zs, 0 ≤ z ∧ z < 256) : ∀ z ∈ gB sm zs, 0 ≤ z ∧ z < 256 := by
  intro z h
  unfold gB at h
  split at h
  · exact hz z (List.mem_of_mem_drop (List.mem_of_mem_take h))
  · cases h
/-- the head of bytes that are long enough, and begin right, is that of the body -/
theorem fhd_of (zs : List Int) (hz : ∀ z ∈ zs, 0 ≤ z ∧ z < 256) (h0 : zs.getD 0 0 = 181) (hl : 8 + nZ zs ≤ (zs.length : Int)) : fhd ((zs.drop 4).take (nZ zs).toNat) = zs.take (4 + (nZ zs).toNat) := by
  obtain ⟨hn0, hn1⟩ := nZ_nn hz
  have hlen : ((zs.drop 4).take (nZ zs).toNat).length = (nZ zs).toNat := by simp; omega
  unfold fhd
  rw [hlen, Int.toNat_of_nonneg hn0]
  rcases zs with _ | ⟨a, _ | ⟨b, _ | ⟨c, _ | ⟨d, t⟩⟩⟩⟩
  case nil => simp at h0
  case cons.nil => simp at hl; omega
  case cons.cons.nil => simp at hl; omega
  case cons.cons.cons.nil => simp at hl; omega
  case cons.cons.cons.cons =>
    have ha : a = 181 := by simpa using h0
    subst ha
    have hn : nZ (181 :: b :: c :: d :: t) = (b * 256 + c) * 256 + d := by simp [nZ]
    have hb := hz b (by simp)
    have hc := hz c (by simp)
    have hd := hz d (by simp)
    have hbe : be 3 (nZ (181 :: b :: c :: d :: t)) = [b, c, d] := by
      rw [hn]
      have e : be 3 ((b * 256 + c) * 256 + d) = [((b * 256 + c) * 256 + d) / 65536 % 256, ((b * 256 + c) * 256 + d) / 256 % 256, ((b * 256 + c) * 256 + d) / 1 % 256] := rfl
      rw [e]
      congr 1
      · omega
      · congr 1
        · omega
        · congr 1; omega
    rw [hbe, Nat.add_comm 4]
    simp
theorem gE_frm (sm : List Int → List Int) (h4 : ∀ l, (sm l).length = 4) (zs more : List Int) (hl : zs.length ≤ 60000) : nZ (frm sm zs ++ more) = zs.length ∧ gE sm (frm sm zs ++ more) = 0 := by
  have e1 : frm sm zs ++ more = 181 :: (be 3 (zs.length : Int) ++ (zs ++ (sm (fhd zs) ++ more))) := by simp [frm, fhd]
  have e2 : be 3 (zs.length : Int) = [(zs.length : Int) / 65536 % 256, (zs.length : Int) / 256 % 256, (zs.length : Int) / 1 % 256] := rfl
  have hn : nZ (frm sm zs ++ more) = zs.length := by
    rw [e1, e2]; simp [nZ]; omega
  refine ⟨hn, ?_⟩
  unfold gE
  have hlen : (frm sm zs ++ more).length = 8 + zs.length + more.length := by rw [List.length_append, frm_length sm h4]
  rw [if_neg (by rw [e1]; simp), hn, if_neg (by omega), if_neg (by rw [hlen]; omega), if_neg]
  have e3 : 4 + ((zs.length : Int)).toNat = (fhd zs).length := by rw [fhd_length, Int.toNat_natCast]
  have e4 : frm sm zs ++ more = fhd zs ++ (sm (fhd zs) ++ more) := by simp [frm]
  rw [e3, e4, List.take_left, List.drop_left, List.take_append_of_le_length (by rw [h4]; exact Nat.le_refl _), List.take_of_length_le (by rw [h4]; exact Nat.le_refl _)]
  simp
theorem gB_frm (sm : List Int → List Int) (h4 : ∀ l, (sm l).length = 4) (zs more : List Int) (hl : zs.length ≤ 60000) : gB sm (frm sm zs ++ more) = zs ∧ gN sm (frm sm zs ++ more) = 8 + zs.length := by
  obtain ⟨hn, he⟩ := gE_frm sm h4 zs more hl
  unfold gB gN
  rw [if_pos he, if_pos he, hn]
  refine ⟨?_, rfl⟩
  have e1 : frm sm zs ++ more = (181 :: be 3 (zs.length : Int)) ++ (zs ++ (sm (fhd zs) ++ more)) := by simp [frm, fhd]
  rw [e1, List.drop_left' (by simp [be_length]), Int.toNat_natCast, List.take_left]
end Fram
end Go.Proofs.YtlohbkcedpkjaaaDoor
