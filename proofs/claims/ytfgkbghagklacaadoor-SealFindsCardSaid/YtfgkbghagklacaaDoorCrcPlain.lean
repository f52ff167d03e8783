/-
  Plain mathematics of CRC-32C: registers as 32-bit words, bytes as integers; no program in sight.
-/
namespace Go.Proofs.YtfgkbghagklacaaDoor
namespace Crc
abbrev W32 := BitVec 32
def poly : W32 := 0x82f63b78#32
def st1 (r : W32) : W32 := if r.getLsbD 0 then (r >>> 1) ^^^ poly else r >>> 1
def stN : Nat → W32 → W32
  | 0, r => r
  | n + 1, r => stN n (st1 r)
theorem st1_xor (a b : W32) : st1 (a ^^^ b) = st1 a ^^^ st1 b := by
  unfold st1
  rw [BitVec.getLsbD_xor]
  cases ha : a.getLsbD 0 <;> cases hb : b.getLsbD 0 <;> simp [BitVec.ushiftRight_xor_distrib]
  · rw [BitVec.xor_assoc]
  · ac_rfl
  · rw [show a >>> 1 ^^^ poly ^^^ (b >>> 1 ^^^ poly) = (a >>> 1 ^^^ b >>> 1) ^^^ (poly ^^^ poly) by ac_rfl]; simp
theorem stN_xor (n : Nat) : ∀ a b : W32, stN n (a ^^^ b) = stN n a ^^^ stN n b := by
  induction n with
  | zero => intro a b; rfl
  | succ n ih => intro a b; simp only [stN, st1_xor, ih]
theorem st1_zero : st1 0#32 = 0#32 := by decide
theorem stN_zero (n : Nat) : stN n 0#32 = 0#32 := by
  induction n with
  | zero => rfl
  | succ n ih => simp only [stN, st1_zero, ih]
theorem stN_add (m : Nat) : ∀ (n : Nat) (r : W32), stN (m + n) r = stN n (stN m r) := by
  induction m with
  | zero => intro n r; simp [stN]
  | succ m ih => intro n r; rw [Nat.add_right_comm]; simp only [stN, ih]
/-- the inverse of one step -/
def un1 (s : W32) : W32 := if s.msb then ((s ^^^ poly) <<< 1) ||| 1#32 else s <<< 1
theorem un1_st1 (r : W32) : un1 (st1 r) = r := by
  unfold st1 un1
  have hm : (r >>> 1).msb = false := by simp [BitVec.msb_ushiftRight]
  have hp : poly.msb = true := by decide
  cases h : r.getLsbD 0 <;> simp [hm, hp, BitVec.msb_xor, BitVec.xor_assoc]
  · ext i hi
    simp
    by_cases h0 : i = 0
    · subst h0; simpa using h.symm
    · simp [h0, hi, show 1 + (i - 1) = i by omega]
  · ext i hi
    simp
    by_cases h0 : i = 0
    · subst h0; simpa using h.symm
    · simp [h0, hi, show 1 + (i - 1) = i by omega]
theorem shl_shr (s : W32) (h : s.msb = false) : (s <<< 1) >>> 1 = s := by
  have hm := BitVec.msb_eq_false_iff_two_mul_lt.1 h
  apply BitVec.eq_of_toNat_eq
  simp only [BitVec.toNat_ushiftRight, BitVec.toNat_shiftLeft, Nat.shiftLeft_eq, Nat.shiftRight_eq_div_pow]
  rw [Nat.mod_eq_of_lt (by omega)]
  omega
theorem st1_un1 (s : W32) : st1 (un1 s) = s := by
  unfold st1 un1
  cases h : s.msb <;> simp
  · exact shl_shr s h
  · rw [BitVec.ushiftRight_or_distrib]
    have h1 : (1#32 >>> 1) = 0#32 := by decide
    have hp : poly.msb = true := by decide
    rw [h1, BitVec.or_zero, shl_shr _ (by simp [BitVec.msb_xor, h, hp]), BitVec.xor_assoc]
    simp
def unN : Nat → W32 → W32
  | 0, s => s
  | n + 1, s => unN n (un1 s)
theorem stN_succ (n : Nat) (r : W32) : stN (n + 1) r = st1 (stN n r) := by rw [stN_add]; rfl
theorem unN_add (m : Nat) : ∀ (n : Nat) (r : W32), unN (m + n) r = unN n (unN m r) := by
  induction m with
  | zero => intro n r; simp [unN]
  | succ m ih => intro n r; rw [Nat.add_right_comm]; simp only [unN, ih]
theorem unN_succ (n : Nat) (r : W32) : unN (n + 1) r = un1 (unN n r) := by rw [unN_add]; rfl
theorem stN_unN (n : Nat) : ∀ s : W32, stN n (unN n s) = s := by
  induction n with
  | zero => intro s; rfl
  | succ n ih => intro s; rw [stN_succ]; simp only [unN, ih, st1_un1]
theorem unN_stN (n : Nat) : ∀ s : W32, unN n (stN n s) = s := by
  induction n with
  | zero => intro s; rfl
  | succ n ih => intro s; rw [stN_succ]; simp only [unN, un1_st1, ih]
theorem stN_inj (n : Nat) {a b : W32} (h : stN n a = stN n b) : a = b := by
  have := congrArg (unN n) h
  rwa [unN_stN, unN_stN] at this
/-- k bits of nought at the foot: k steps are a shift -/
theorem stN_low (k : Nat) : ∀ r : W32, (∀ i, i < k → r.getLsbD i = false) → stN k r = r >>> k := by
  induction k with
  | zero => intro r _; simp [stN]
  | succ k ih =>
    intro r h
    have h0 : r.getLsbD 0 = false := h 0 (by omega)
    simp only [stN]
    have e : st1 r = r >>> 1 := by unfold st1; rw [h0]; rfl
    rw [e, ih]
    · rw [← BitVec.shiftRight_add, Nat.add_comm]
    · intro i hi
      rw [BitVec.getLsbD_ushiftRight]
      exact h _ (by omega)
theorem stN_four (r : W32) : stN 4 r = r >>> 4 ^^^ stN 4 (r &&& 15#32) := by
  have e : r = (r &&& ~~~ 15#32) ^^^ (r &&& 15#32) := by
    ext i hi
    simp only [BitVec.getElem_xor, BitVec.getElem_and, BitVec.getElem_not]
    cases r[i] <;> cases (15#32)[i] <;> rfl
  have l : ∀ i, i < 4 → (r &&& ~~~ 15#32).getLsbD i = false := by
    intro i hi
    have : i = 0 ∨ i = 1 ∨ i = 2 ∨ i = 3 := by omega
    rcases this with rfl | rfl | rfl | rfl <;> simp
  have h := stN_xor 4 (r &&& ~~~ 15#32) (r &&& 15#32)
  rw [← e, stN_low 4 _ l, BitVec.ushiftRight_and_distrib] at h
  rw [h]
  have t : (~~~ 15#32) >>> 4 = 0x0fffffff#32 := by decide
  rw [t]
  congr 1
  ext i hi
  simp
  intro hr
  have : i < 28 := by
    apply Decidable.byContradiction
    intro hn
    have := BitVec.getLsbD_of_ge r (4 + i) (by omega)
    simp [this] at hr
  have h28 : ∀ i, i < 28 → (0x0fffffff#32).getLsbD i = true := by decide
  rw [← BitVec.getLsbD_eq_getElem]
  exact h28 i this
/-- the table of the program, by its index -/
def tab : List Nat := [0x00000000, 0x105ec76f, 0x20bd8ede, 0x30e349b1, 0x417b1dbc, 0x5125dad3, 0x61c69362, 0x7198540d, 0x82f63b78, 0x92a8fc17, 0xa24bb5a6, 0xb21572c9, 0xc38d26c4, 0xd3d3e1ab, 0xe330a81a, 0xf36e6f75]
theorem tab_is : ∀ k, k < 16 → (stN 4 (BitVec.ofNat 32 k)).toNat = tab.getD k 0 := by decide
/-- one byte -/
def stB (r : W32) (x : W32) : W32 := stN 8 (r ^^^ x)
def run (r : W32) (xs : List W32) : W32 := xs.foldl stB r
theorem run_append (r : W32) (xs ys : List W32) : run r (xs ++ ys) = run (run r xs) ys := by simp [run]
theorem run_inj (xs : List W32) : ∀ {a b : W32}, run a xs = run b xs → a = b := by
  induction xs with
  | nil => intro a b h; exact h
  | cons x xs ih =>
    intro a b h
    have := stN_inj 8 (ih (a := stB a x) (b := stB b x) h)
    have := congrArg (· ^^^ x) this
    simpa [BitVec.xor_assoc] using this
/-- linear: what noughts make of the register, and what the bytes make of nought -/
theorem run_split (xs : List W32) : ∀ a b : W32, run (a ^^^ b) xs = stN (8 * xs.length) a ^^^ run b xs := by
  induction xs with
  | nil => intro a b; rfl
  | cons x xs ih =>
    intro a b
    show run (stB (a ^^^ b) x) xs = _
    have e : stB (a ^^^ b) x = stN 8 a ^^^ stB b x := by
      unfold stB; rw [BitVec.xor_assoc, stN_xor]
    rw [e, ih, ← stN_add]
    have : 8 + 8 * xs.length = 8 * (x :: xs).length := by simp; omega
    rw [this]; rfl
def le : List W32 → W32
  | [] => 0#32
  | x :: xs => x ^^^ (le xs <<< 8)
def Byt (x : W32) : Prop := x.toNat < 256
theorem le_lt (xs : List W32) (h : ∀ x ∈ xs, Byt x) : xs.length ≤ 4 → (le xs).toNat < 2 ^ (8 * xs.length) := by
  induction xs with
  | nil => intro _; decide
  | cons x xs ih =>
    intro hl
    simp only [List.length_cons] at hl ⊢
    have h1 := ih (fun y hy => h y (List.mem_cons_of_mem _ hy)) (by omega)
    have hx : x.toNat < 256 := h x (List.mem_cons_self ..)
    simp only [le, BitVec.toNat_xor]
    apply Nat.xor_lt_two_pow
    · exact Nat.lt_of_lt_of_le hx (by
        have : 2 ^ 8 ≤ 2 ^ (8 * (xs.length + 1)) := Nat.pow_le_pow_right (by omega) (by omega)
        simpa using this)
    · rw [BitVec.toNat_shiftLeft]
      refine Nat.lt_of_le_of_lt (Nat.mod_le _ _) ?_
      rw [Nat.shiftLeft_eq, show 8 * (xs.length + 1) = 8 * xs.length + 8 by omega, Nat.pow_add]
      exact Nat.mul_lt_mul_of_pos_right h1 (by decide)
theorem stN_shl8 (s : W32) (h : s.toNat < 2 ^ 24) : stN 8 (s <<< 8) = s := by
  rw [stN_low 8 _ (by intro i hi; simp [hi])]
  apply BitVec.eq_of_toNat_eq
  simp only [BitVec.toNat_ushiftRight, BitVec.toNat_shiftLeft, Nat.shiftLeft_eq, Nat.shiftRight_eq_div_pow]
  rw [Nat.mod_eq_of_lt (by omega)]
  omega
theorem run_le (xs : List W32) : ∀ (_ : ∀ x ∈ xs, Byt x) (_ : xs.length ≤ 4) (r : W32), run r xs = stN (8 * xs.length) (r ^^^ le xs) := by
  induction xs with
  | nil => intro _ _ r; simp [run, stN, le]
  | cons x xs ih =>
    intro hb hl r
    simp only [List.length_cons] at hl
    have hb' : ∀ y ∈ xs, Byt y := fun y hy => hb y (List.mem_cons_of_mem _ hy)
    have hlt := le_lt xs hb' (by omega)
    have h24 : (le xs).toNat < 2 ^ 24 := Nat.lt_of_lt_of_le hlt (Nat.pow_le_pow_right (by omega) (by omega))
    show run (stB r x) xs = _
    rw [ih hb' (by omega)]
    have e : stB r x ^^^ le xs = stN 8 (r ^^^ le (x :: xs)) := by
      conv => lhs; rw [← stN_shl8 _ h24]
      unfold stB
      rw [← stN_xor]; simp only [le, BitVec.xor_assoc]
    rw [e, ← stN_add]
    congr 1
    simp; omega
theorem le_inj (xs : List W32) : ∀ (ys : List W32), (∀ x ∈ xs, Byt x) → (∀ x ∈ ys, Byt x) → xs.length = ys.length → xs.length ≤ 4 → le xs = le ys → xs = ys := by
  induction xs with
  | nil => intro ys _ _ hl _ _; cases ys with | nil => rfl | cons y ys => simp at hl
  | cons x xs ih =>
    intro ys hx hy hl h4 he
    cases ys with
    | nil => simp at hl
    | cons y ys =>
      simp only [List.length_cons] at hl h4
      have hx' : ∀ z ∈ xs, Byt z := fun z hz => hx z (List.mem_cons_of_mem _ hz)
      have hy' : ∀ z ∈ ys, Byt z := fun z hz => hy z (List.mem_cons_of_mem _ hz)
      have bx : x.toNat < 256 := hx x (List.mem_cons_self ..)
      have bby : y.toNat < 256 := hy y (List.mem_cons_self ..)
      have lx := le_lt xs hx' (by omega)
      have ly := le_lt ys hy' (by omega)
      have l24 : (le xs).toNat < 2 ^ 24 := Nat.lt_of_lt_of_le lx (Nat.pow_le_pow_right (by omega) (by omega))
      have m24 : (le ys).toNat < 2 ^ 24 := Nat.lt_of_lt_of_le ly (Nat.pow_le_pow_right (by omega) (by omega))
      simp only [le] at he
      have exy : x = y := by
        have h0 := congrArg (fun z : W32 => z.toNat % 256) he
        have low : ∀ (u v : W32), u.toNat < 256 → (u ^^^ v <<< 8).toNat % 256 = u.toNat := by
          intro u v hu
          rw [BitVec.toNat_xor, show (256 : Nat) = 2 ^ 8 from rfl, Nat.xor_mod_two_pow, BitVec.toNat_shiftLeft]
          have : v.toNat <<< 8 % 2 ^ 32 % 2 ^ 8 = 0 := by rw [Nat.shiftLeft_eq]; omega
          rw [this, Nat.xor_zero]; omega
        simp only [low x _ bx, low y _ bby] at h0
        exact BitVec.eq_of_toNat_eq h0
      subst exy
      have he2 : le xs <<< 8 = le ys <<< 8 := by
        have := congrArg (x ^^^ ·) he
        simpa [← BitVec.xor_assoc] using this
      have he3 := congrArg (stN 8) he2
      rw [stN_shl8 _ l24, stN_shl8 _ m24] at he3
      rw [ih ys hx' hy' (by omega) (by omega) he3]
/-- four bytes of a word, the lowest first -/
def b0 (r : W32) : W32 := r &&& 255#32
def bytes4 (r : W32) : List W32 := [b0 r, b0 (r >>> 8), b0 (r >>> 16), b0 (r >>> 24)]
theorem le_bytes4 (r : W32) : le (bytes4 r) = r := by
  unfold bytes4 le le le le le b0
  ext i hi
  have h255 : ∀ k, (255#32).getLsbD k = decide (k < 8) := by
    intro k
    by_cases hk : k < 32
    · have : ∀ k, k < 32 → (255#32).getLsbD k = decide (k < 8) := by decide
      exact this k hk
    · rw [BitVec.getLsbD_of_ge _ _ (by omega)]; simp; omega
  rw [← BitVec.getLsbD_eq_getElem, ← BitVec.getLsbD_eq_getElem]
  simp only [BitVec.getLsbD_xor, BitVec.getLsbD_and, BitVec.getLsbD_shiftLeft, BitVec.getLsbD_ushiftRight, h255, BitVec.getLsbD_zero]
  by_cases h1 : i < 8
  · simp [h1, hi]
  · by_cases h2 : i < 16
    · have e : 8 + (i - 8) = i := by omega
      simp [h1, hi, e, show i - 8 < 8 by omega, show i - 8 < 32 by omega]
    · by_cases h3 : i < 24
      · have e : 16 + (i - 8 - 8) = i := by omega
        simp [h1, hi, e, show ¬ i - 8 < 8 by omega, show i - 8 < 32 by omega, show i - 8 - 8 < 8 by omega, show i - 8 - 8 < 32 by omega]
      · have e : 24 + (i - 8 - 8 - 8) = i := by omega
        simp [h1, hi, e, show ¬ i - 8 < 8 by omega, show i - 8 < 32 by omega, show ¬ i - 8 - 8 < 8 by omega, show i - 8 - 8 < 32 by omega, show i - 8 - 8 - 8 < 8 by omega, show i - 8 - 8 - 8 < 32 by omega]
theorem b0_byt (r : W32) : Byt (b0 r) := by
  unfold Byt b0
  rw [BitVec.toNat_and]
  exact Nat.lt_of_le_of_lt Nat.and_le_right (by decide)
/-- the four bytes that bring the register c to the register r -/
theorem run_patch (c r : W32) : run c (bytes4 (unN 32 r ^^^ c)) = r := by
  rw [run_le _ (by intro x hx; simp [bytes4] at hx; rcases hx with rfl | rfl | rfl | rfl <;> exact b0_byt _) (by simp [bytes4]), le_bytes4]
  have : c ^^^ (unN 32 r ^^^ c) = unN 32 r := by
    rw [BitVec.xor_comm (unN 32 r) c, ← BitVec.xor_assoc]; simp
  rw [this]
  exact stN_unN 32 r
/-- what differs within four bytes in a row is told apart -/
theorem run_burst (c : W32) (p m m' s : List W32) (hm : ∀ x ∈ m, Byt x) (hm' : ∀ x ∈ m', Byt x) (hl : m.length = m'.length) (h4 : m.length ≤ 4)
    (h : run c (p ++ m ++ s) = run c (p ++ m' ++ s)) : m = m' := by
  rw [run_append, run_append, run_append, run_append] at h
  have h1 := run_inj s h
  rw [run_le m hm h4, run_le m' hm' (by omega), ← hl] at h1
  have h2 := stN_inj _ h1
  have h3 := congrArg (run c p ^^^ ·) h2
  simp [← BitVec.xor_assoc] at h3
  exact le_inj m m' hm hm' hl h4 h3
def wd (z : Int) : W32 := BitVec.ofNat 32 z.toNat
def more (c : W32) (zs : List Int) : W32 := ~~~ run (~~~ c) (zs.map wd)
theorem not_xor' (a : W32) : ~~~ a = a ^^^ BitVec.allOnes 32 := BitVec.xor_allOnes.symm
theorem more_append (c : W32) (xs ys : List Int) : more c (xs ++ ys) = more (more c xs) ys := by
  unfold more; rw [List.map_append, run_append]; simp
theorem more_split (c : W32) (ys : List Int) : more c ys = stN (8 * ys.length) c ^^^ more 0#32 ys := by
  unfold more
  have := run_split (ys.map wd) c (~~~ 0#32)
  have e : c ^^^ ~~~ 0#32 = ~~~ c := by rw [not_xor' c]; rfl
  rw [e] at this
  rw [this, List.length_map, not_xor', not_xor' (run _ _), BitVec.xor_assoc]
theorem more_nil (c : W32) : more c [] = c := by simp [more, run]
theorem wd_toNat (z : Int) (h : 0 ≤ z ∧ z < 256) : ((wd z).toNat : Int) = z := by
  unfold wd; rw [BitVec.toNat_ofNat]; omega
/-! matrices -/
def bitT (n : Nat) : List W32 := (List.range 32).map fun i => stN n (BitVec.twoPow 32 i)
theorem bitT_getD (n i : Nat) (h : i < 32) : (bitT n).getD i 0#32 = stN n (BitVec.twoPow 32 i) := by
  simp [bitT, h]
theorem bit_rest (r : W32) : r = (if r.getLsbD 0 then 1#32 else 0#32) ^^^ ((r >>> 1) <<< 1) := by
  ext j hj
  rw [← BitVec.getLsbD_eq_getElem, ← BitVec.getLsbD_eq_getElem, BitVec.getLsbD_xor, BitVec.getLsbD_shiftLeft, BitVec.getLsbD_ushiftRight]
  rcases Nat.eq_zero_or_pos j with rfl | h
  · cases h0 : r.getLsbD 0 <;> simp
  · have e : 1 + (j - 1) = j := by omega
    have h1 : (if r.getLsbD 0 then 1#32 else 0#32).getLsbD j = false := by
      cases r.getLsbD 0 <;> simp [BitVec.getLsbD_one]; omega
    rw [h1, e]; simp [show ¬ j < 1 by omega, hj]
theorem shl_bit (r : W32) (i : Nat) : r <<< i = (if r.getLsbD 0 then BitVec.twoPow 32 i else 0#32) ^^^ ((r >>> 1) <<< (i + 1)) := by
  conv => lhs; rw [bit_rest r]
  rw [BitVec.shiftLeft_xor_distrib, Nat.add_comm i 1, BitVec.shiftLeft_add]
  congr 1
  cases r.getLsbD 0
  · simp
  · rfl
theorem of_step (n i : Nat) (h : i < 32) (r out : W32) : out ^^^ stN n (r <<< i) = (if r.getLsbD 0 then out ^^^ (bitT n).getD i 0#32 else out) ^^^ stN n ((r >>> 1) <<< (i + 1)) := by
  rw [shl_bit r i, stN_xor]
  have g := bitT_getD n i h
  cases hr : r.getLsbD 0
  · simp [stN_zero]
  · rw [g]; simp [BitVec.xor_assoc]
theorem of_end (n i : Nat) (out : W32) : out ^^^ stN n (0#32 <<< i) = out := by
  rw [BitVec.zero_shiftLeft, stN_zero, BitVec.xor_zero]
theorem of_start (n : Nat) (r : W32) : 0#32 ^^^ stN n (r <<< 0) = stN n r := by simp
theorem bitT_one : bitT 1 = poly :: (List.range 31).map (fun i => BitVec.twoPow 32 i) := by decide
theorem bitT_len (n : Nat) : (bitT n).length = 32 := by simp [bitT]
/-- one more doubling -/
theorem twice_is (n i : Nat) (h : i < 32) : stN n ((bitT n).getD i 0#32) = (bitT (n + n)).getD i 0#32 := by
  rw [bitT_getD n i h, bitT_getD _ i h, ← stN_add]
end Crc
end Go.Proofs.YtfgkbghagklacaaDoor
