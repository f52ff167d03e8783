/-
  Tourneys: the reference's Less and Least; Sort.
-/
import Derived.Test.YtmnlaekcojblkaaWTouB
namespace Go.Proofs.Ytmnlaekcojblkaa
set_option maxRecDepth 100000
open Go.RowKit H
open Odr Tou HeapK
set_option linter.unusedVariables false
/-- the bytes of a constant string: the block is marked, its cells stay -/
theorem run_mark {P : Program} {w : World} {t e : TypeId} {g n c : Nat} {cs : Array Value} (hb : Blk w g e cs) (ht : P.underlying t = some (.slice e)) (he : P.underlying e = some (.int .u8)) :
    (convert t t (.slice (some ⟨g, 0, none⟩) n c)).run P w = .ok (.slice (some ⟨g, 0, none⟩) n c) (w.freeze ⟨g, cs.size, none⟩ 1) := by
  have hsh : w.shape? g = some (e, cs.size) := by
    unfold World.shape?
    rw [show w.heap[g]? = _ from hb]
  simp [convert, run_underlying ht, run_underlying he, markStringish, hsh]
theorem freeze_at {w : World} {g e : Nat} {cs : Array Value} (hb : Blk w g e cs) : (w.freeze ⟨g, cs.size, none⟩ 1).heap[g]? = some (.cells cs e (cs.size, cs.size + 1)) := by
  have hlt := hb.lt
  unfold World.freeze
  rw [if_neg (by decide)]
  show (w.heap.modify g _)[g]? = _
  rw [Array.getElem?_eq_getElem (by rw [Array.size_modify]; exact hlt), Array.getElem_modify_self]
  have hk : w.heap[g] = .cells cs e (0, 0) := by
    have := hb
    unfold Blk at this
    rw [Array.getElem?_eq_getElem hlt] at this
    exact Option.some.inj this
  rw [hk]
  rfl
theorem freeze_grown (w : World) (g k : Nat) : w.grownBy (w.freeze ⟨g, k, none⟩ 1) (some g) := by
  unfold World.freeze
  rw [if_neg (by decide)]
  refine ⟨rfl, rfl, rfl, by show w.heap.size ≤ (w.heap.modify g _).size; rw [Array.size_modify]; exact Nat.le_refl _, fun j hj hne => ?_⟩
  show (w.heap.modify g _)[j]? = _
  rw [Array.getElem?_modify, if_neg (fun e => hne (by rw [e]))]
theorem L.mark {P : Program} {n : Nat} {ops rest : List Oper} {Q : Exit → Fr → World → Prop} {f : Fr} {w : World} {d : Option Tmp} {ty : TypeId} {pos : String} {aft : Array Edge} {gd : Option (Nat × Bool)} {x : Operand} {t e : TypeId} {g m c q : Nat} {cs : Array Value} (hg : wn ops f gd = true) (hx : ev f x = .slice (some ⟨g, 0, none⟩) m c) (hb : Blk w g e cs) (hq : cs.size = q)
    (ht : P.underlying t = some (.slice e)) (he : P.underlying e = some (.int .u8))
    (h : ∀ w', Reads w' (g + 1) 1 (some ⟨g, 0, none⟩) q cs.toList → w.grownBy w' (some g) → L P n ops Q rest (putO f d (.slice (some ⟨g, 0, none⟩) m c)) w') : L P n ops Q (⟨d, .convert t t x, ty, pos, aft, gd⟩ :: rest) f w := by
  refine L.val hg (w' := w.freeze ⟨g, cs.size, none⟩ 1) (v := .slice (some ⟨g, 0, none⟩) m c) ?_ (h _ ?_ (freeze_grown w g _))
  · have := run_mark (n := m) (c := c) hb ht he
    simp only [execOp, hx]
    simp [this]
  · subst hq
    refine ⟨by simp, fun _ => ⟨⟨g, 0, none⟩, rfl, Nat.lt_succ_self _, fun j u hu => ?_⟩⟩
    have := cell_of_row _ g j cs e _ (freeze_at hb)
    rw [Addr.add_mid, Nat.zero_add, this]
    simpa using hu
theorem less07 (A1 : Option Addr) (n1 c1 : Nat) (A2 : Option Addr) (n2 c2 : Nat) (u v : List Int) (w : World) (h1 : Reads w w.heap.size 1 A1 n1 (nums .u8 u)) (h2 : Reads w w.heap.size 1 A2 n2 (nums .u8 v)) (hn1 : n1 ≤ maxLen) (hn2 : n2 ≤ maxLen) :
    Calls Try.prog 24 #[.slice A1 n1 c1, .slice A2 n2 c2] w fun e w' => e = .returned (.bool (lessB u v)) ∧ Ext w w' := by
  have l1 : u.length = n1 := by have := h1.1; simpa [nums] using this
  have l2 : v.length = n2 := by have := h2.1; simpa [nums] using this
  unfold maxLen at hn1 hn2
  refine enter Try.func24 rfl (by kernel_rfl) ?_
  refine J.seq ?_
  refine J.region ?_
  refine L.va rfl (X.assign (by conv => lhs; whnf)) ?_
  refine L.nil ?_
  refine J.seq ?_
  refine J.seq ?_
  refine J.region ?_
  refine L.va rfl (X.assign (by conv => lhs; whnf)) ?_
  refine L.nil ?_
  refine J.block ?_
  -- loop
  refine J.loop (X := Nat) [4, 5, 6, 7, 8, 9, 10, 11, 12, 13, 14, 15, 16, 17, 18, 19, 20, 21, 22, 23, 24, 25, 26, 27, 28, 29, 30, 31, 32, 33, 34, 35] (fun i => [(5, .int .i64 (i : Int))]) (fun i w' => i ≤ n1 ∧ i ≤ n2 ∧ (∀ j, j < i → u.getD j 0 = v.getD j 0) ∧ Ext w w') (fun i => n1 - i) (0) (At1 (by first | rfl | exact at_int rfl (by omega) | exact at_slice rfl (by omega) | exact at_int rfl (by simp))) ?_ ?_
  · exact ⟨Nat.zero_le _, Nat.zero_le _, fun j hj => absurd hj (by omega), Ext.refl _⟩
  · rintro i g w2 ⟨hi, hi2, hP, he⟩
    have k1 := h1.ext he
    have k2 := h2.ext he
    refine J.seq ?_
    refine J.seq ?_
    refine J.region ?_
    refine L.va rfl (X.move (by conv => lhs; whnf)) ?_
    refine L.va rfl (X.move (by conv => lhs; whnf)) ?_
    refine L.va rfl (X.len rfl Try.underlying33) ?_
    refine L.va rfl (X.lss rfl rfl) ?_
    refine L.va rfl (X.move (by conv => lhs; whnf)) ?_
    -- case t10
    by_cases hlt : i < n1 ∧ i < n2
    · have hA1 := k1.some_ (by omega)
      have hA2 := k2.some_ (by omega)
      refine L.caseDecT (k := 10) rfl (by omega) ?_
      refine L.va rfl (X.move (by conv => lhs; whnf)) ?_
      refine L.va rfl (X.move (by conv => lhs; whnf)) ?_
      refine L.va rfl (X.len rfl Try.underlying33) ?_
      refine L.va rfl (X.lss rfl rfl) ?_
      refine L.va rfl (X.pickT rfl (by conv => lhs; whnf)) ?_
      refine L.nil ?_
      -- cond
      refine J.decT rfl (by omega) ?_
      refine J.skip ?_
      refine J.seq ?_
      refine J.block ?_
      refine J.seq ?_
      -- draw
      refine J.quiet mixed (by kernel_rfl) ?_
      refine Qt.va rfl (fun w' hw => X.move (by conv => lhs; whnf)) ?_
      refine Qt.va rfl (fun w' hw => X.move (by conv => lhs; whnf)) ?_
      refine Qt.va rfl (fun w' hw => (by first | exact X.index1n rfl rfl Try.underlying33 sz_5 (by first | exact Option.some_ne_none _ | exact k1.some_ (by omega) | exact k2.some_ (by omega) | exact hA1 | exact hA2) (by omega) | exact X.index1 rfl rfl Try.underlying33 sz_5 (by first | exact Option.some_ne_none _ | exact k1.some_ (by omega) | exact k2.some_ (by omega) | exact hA1 | exact hA2) (by omega))) ?_
      refine Qt.va rfl (fun w' hw => X.load rfl sc_5 (by first | exact Ld.num (k1.ext hw) (by omega) | exact Ld.num (k2.ext hw) (by omega) | exact hA1 | exact hA2)) ?_
      refine Qt.va rfl (fun w' hw => X.move (by conv => lhs; whnf)) ?_
      refine Qt.va rfl (fun w' hw => X.move (by conv => lhs; whnf)) ?_
      refine Qt.va rfl (fun w' hw => (by first | exact X.index1n rfl rfl Try.underlying33 sz_5 (by first | exact Option.some_ne_none _ | exact k1.some_ (by omega) | exact k2.some_ (by omega) | exact hA1 | exact hA2) (by omega) | exact X.index1 rfl rfl Try.underlying33 sz_5 (by first | exact Option.some_ne_none _ | exact k1.some_ (by omega) | exact k2.some_ (by omega) | exact hA1 | exact hA2) (by omega))) ?_
      refine Qt.va rfl (fun w' hw => X.load rfl sc_5 (by first | exact Ld.num (k1.ext hw) (by omega) | exact Ld.num (k2.ext hw) (by omega) | exact hA1 | exact hA2)) ?_
      refine Qt.va rfl (fun w' hw => X.neq rfl rfl) ?_
      refine Qt.nil (fun w3 hq => ?_)
      replace k1 := k1.ext hq
      replace k2 := k2.ext hq
      -- cond
      refine J.ndec rfl (fun hd => ?_) (fun hd => ?_)
      · rw [lessB_at (i := i) (by omega) (by omega) hP hd]
        refine J.seq ?_
        -- draw
        refine J.quiet mixed (by kernel_rfl) ?_
        refine Qt.va rfl (fun w' hw => X.move (by conv => lhs; whnf)) ?_
        refine Qt.va rfl (fun w' hw => X.move (by conv => lhs; whnf)) ?_
        refine Qt.va rfl (fun w' hw => (by first | exact X.index1n rfl rfl Try.underlying33 sz_5 (by first | exact Option.some_ne_none _ | exact k1.some_ (by omega) | exact k2.some_ (by omega) | exact hA1 | exact hA2) (by omega) | exact X.index1 rfl rfl Try.underlying33 sz_5 (by first | exact Option.some_ne_none _ | exact k1.some_ (by omega) | exact k2.some_ (by omega) | exact hA1 | exact hA2) (by omega))) ?_
        refine Qt.va rfl (fun w' hw => X.load rfl sc_5 (by first | exact Ld.num (k1.ext hw) (by omega) | exact Ld.num (k2.ext hw) (by omega) | exact hA1 | exact hA2)) ?_
        refine Qt.va rfl (fun w' hw => X.move (by conv => lhs; whnf)) ?_
        refine Qt.va rfl (fun w' hw => X.move (by conv => lhs; whnf)) ?_
        refine Qt.va rfl (fun w' hw => (by first | exact X.index1n rfl rfl Try.underlying33 sz_5 (by first | exact Option.some_ne_none _ | exact k1.some_ (by omega) | exact k2.some_ (by omega) | exact hA1 | exact hA2) (by omega) | exact X.index1 rfl rfl Try.underlying33 sz_5 (by first | exact Option.some_ne_none _ | exact k1.some_ (by omega) | exact k2.some_ (by omega) | exact hA1 | exact hA2) (by omega))) ?_
        refine Qt.va rfl (fun w' hw => X.load rfl sc_5 (by first | exact Ld.num (k1.ext hw) (by omega) | exact Ld.num (k2.ext hw) (by omega) | exact hA1 | exact hA2)) ?_
        refine Qt.va rfl (fun w' hw => X.lss rfl rfl) ?_
        refine Qt.va rfl (fun w' hw => X.assign (by conv => lhs; whnf)) ?_
        refine Qt.nil (fun w4 hq4 => ?_)
        replace k1 := k1.ext hq4
        replace k2 := k2.ext hq4
        -- ret
        refine J.ret ?_
        refine inB_ret <|  thn_ret <|  thn_ret <|  inB_ret <|  thn_ret <| ?_
        refine fin1 ?_
        exact ⟨rfl, (he.trans hq).trans hq4⟩
      · skip
        refine J.skip ?_
        refine J.region ?_
        refine L.va rfl (X.move (by conv => lhs; whnf)) ?_
        refine L.va rfl (X.add rfl rfl (by omega)) ?_
        refine L.va rfl (X.assign (by conv => lhs; whnf)) ?_
        refine L.nil ?_
        -- loopend
        refine ⟨i + 1, At1 (by first | rfl | exact at_int rfl (by omega) | exact at_slice rfl (by omega) | exact at_int rfl (by simp)), (by (iterate 23 refine Agr.lk rfl ?_); exact Agr.lk rfl (Agr.hav rfl Agr.rfl')), ?_⟩
        refine ⟨⟨by omega, by omega, fun j hj => ?_, he.trans hq⟩, by omega⟩
        rcases Nat.lt_or_ge j i with h | h
        · exact hP j h
        · obtain rfl : j = i := by omega
          exact hd
    · refine L.caseDec (k := 10) rfl (fun ha => ?_) (fun ha => ?_)
      · refine L.va rfl (X.move (by conv => lhs; whnf)) ?_
        refine L.va rfl (X.move (by conv => lhs; whnf)) ?_
        refine L.va rfl (X.len rfl Try.underlying33) ?_
        refine L.va rfl (X.lss rfl rfl) ?_
        refine L.va rfl (X.pickT rfl (by conv => lhs; whnf)) ?_
        refine L.nil ?_
        -- cond
        refine J.decF rfl (by omega) ?_
        rw [lessB_end fun j k1 k2 => hP j (by omega), l1, l2]
        refine J.exit ?_
        refine J.seq ?_
        refine J.region ?_
        refine L.va rfl (X.move (by conv => lhs; whnf)) ?_
        refine L.va rfl (X.len rfl Try.underlying33) ?_
        refine L.va rfl (X.move (by conv => lhs; whnf)) ?_
        refine L.va rfl (X.len rfl Try.underlying33) ?_
        refine L.va rfl (X.lss rfl rfl) ?_
        refine L.va rfl (X.assign (by conv => lhs; whnf)) ?_
        refine L.nil ?_
        -- ret
        refine J.ret ?_
        refine fin1 ?_
        exact ⟨congrArg (fun b => Ending.returned (.bool b)) (decide_eq_decide.2 Int.ofNat_lt), he⟩
      · refine L.no rfl ?_
        refine L.no rfl ?_
        refine L.no rfl ?_
        refine L.no rfl ?_
        refine L.va rfl (X.pickF rfl (by conv => lhs; whnf)) ?_
        refine L.nil ?_
        -- cond
        refine J.iteF rfl ?_
        rw [lessB_end fun j k1 k2 => hP j (by omega), l1, l2]
        refine J.exit ?_
        refine J.seq ?_
        refine J.region ?_
        refine L.va rfl (X.move (by conv => lhs; whnf)) ?_
        refine L.va rfl (X.len rfl Try.underlying33) ?_
        refine L.va rfl (X.move (by conv => lhs; whnf)) ?_
        refine L.va rfl (X.len rfl Try.underlying33) ?_
        refine L.va rfl (X.lss rfl rfl) ?_
        refine L.va rfl (X.assign (by conv => lhs; whnf)) ?_
        refine L.nil ?_
        -- ret
        refine J.ret ?_
        refine fin1 ?_
        exact ⟨congrArg (fun b => Ending.returned (.bool b)) (decide_eq_decide.2 Int.ofNat_lt), he⟩
theorem tsort (s : Bys) (w : World) (hs : s.At w.heap.size w) (hn : s.n ≤ 900000) : Calls Try.prog 31 #[s.val] w fun e w' => ∃ A m c o, e = .returned (.slice A m c) ∧ w'.ownsRow w.heap.size 3 1 (.slice A m c) m (nums .i64 o) ∧ Firsts (ahL s.ks) s.n m o ∧ m = s.n ∧ Ext w w' := by
  refine enter Try.func31 rfl (by kernel_rfl) ?_
  refine J.seq ?_
  refine J.region ?_
  refine L.va rfl (X.assign (by conv => lhs; whnf)) ?_
  refine L.nil ?_
  refine J.seq ?_
  refine J.region ?_
  refine L.va rfl (X.move (by conv => lhs; whnf)) ?_
  refine L.va rfl (X.move (by conv => lhs; whnf)) ?_
  refine L.va rfl (X.len rfl Try.underlying38) ?_
  -- callfn bushel/tourney.Least
  refine L.call rfl en_29 rfl (tleast s (s.n : Int) w hs hn) ?_
  rintro e w1 ⟨A, m, c, o, rfl, ho, hf, hm, he⟩
  refine ⟨_, rfl, ?_⟩
  refine L.va rfl (X.assign (by conv => lhs; whnf)) ?_
  refine L.nil ?_
  -- ret
  refine J.ret ?_
  refine fin1 ?_
  exact ⟨A, m, c, o, rfl, ho, hf, by omega, he⟩
theorem pos_next (R : Nat → Nat → Bool) (j i : Nat) : (List.range (j + 1)).countP (fun x => R x i) = (List.range j).countP (fun x => R x i) + if R j i = true then 1 else 0 := by
  rw [List.range_succ, List.countP_append, List.countP_cons, List.countP_nil, Nat.zero_add]
theorem cnt_le (R : Nat → Nat → Bool) (j i : Nat) : (List.range j).countP (fun x => R x i) ≤ j := by
  have := List.countP_le_length (p := fun x => R x i) (l := List.range j)
  rwa [List.length_range] at this
theorem rleast (s : Bys) (k : Int) (w : World) (hs : s.At w.heap.size w) (hn : s.n ≤ 900000) : Calls Try.prog 30 #[s.val, .int .i64 k] w fun e w' => ∃ A m c o, e = .returned (.slice A m c) ∧ w'.ownsRow w.heap.size 3 1 (.slice A m c) m (nums .i64 o) ∧ o.length = m ∧ (∀ x, x < s.n → pos (ahL s.ks) s.n x < m → o.getD (pos (ahL s.ks) s.n x) 0 = (x : Int)) ∧ m = min s.n k.toNat ∧ Ext w w' := by
  have hl := hs.l
  have hR := ahL_ord s.ks
  have hmx : max (min k (s.n : Int)) 0 = ((min s.n k.toNat : Nat) : Int) := by omega
  obtain ⟨m, hm⟩ : ∃ m, m = min s.n k.toNat := ⟨_, rfl⟩
  rw [← hm] at hmx
  have hmn : m ≤ s.n := by omega
  have hmm : m ≤ maxLen := by unfold maxLen; omega
  refine enter Try.func30 rfl (by kernel_rfl) ?_
  -- t12
  -- t13
  refine J.seq ?_
  refine J.region ?_
  refine L.va rfl (X.assign (by conv => lhs; whnf)) ?_
  refine L.nil ?_
  refine J.seq ?_
  refine J.region ?_
  refine L.va rfl (X.move (by conv => lhs; whnf)) ?_
  refine L.va rfl (X.move (by conv => lhs; whnf)) ?_
  refine L.va rfl (X.len rfl Try.underlying38) ?_
  refine L.va rfl (X.min2 rfl rfl) ?_
  refine L.va rfl (X.max2 rfl rfl) ?_
  -- makeSlice
  rw [hmx]
  refine L.make (q := m) (c := m) rfl rfl rfl Try.underlying29 el_3 (by omega) ?_
  intro b1 w1 hb1 hs1 hk1 he1
  rw [made_nums] at hk1
  have hwb : w.heap.size ≤ b1 := by omega
  have ho1 : w1.ownsRow w.heap.size 3 1 (.slice (some ⟨b1, 0, none⟩) m m) m (nums .i64 (List.replicate m 0)) := blk_own1 (q := m) hk1 (by omega) hmm (by simp [nums])
  refine L.va rfl (X.assign (by conv => lhs; whnf)) ?_
  refine L.nil ?_
  refine J.seq ?_
  refine J.seq ?_
  refine J.region ?_
  refine L.va rfl (X.assign (by conv => lhs; whnf)) ?_
  refine L.nil ?_
  refine J.block ?_
  -- loop
  refine J.loop (X := Nat × List Int) [6, 7, 8, 15, 16, 17, 18, 19, 20, 21, 22, 23, 24, 25, 26, 27, 28, 29, 30, 31, 32, 33, 34, 35, 36, 37, 38, 39, 40, 41, 42, 43, 44, 45, 46, 47, 48, 49, 50, 51, 52, 53, 54, 55, 56, 57, 58, 59, 60, 61, 62] (fun (i, o) => [(6, .int .i64 (i : Int))]) (fun (i, o) w' => i ≤ s.n ∧ o.length = m ∧ (∀ x, x < i → pos (ahL s.ks) s.n x < m → o.getD (pos (ahL s.ks) s.n x) 0 = (x : Int)) ∧ w'.ownsRow w.heap.size 3 1 (.slice (some ⟨b1, 0, none⟩) m m) m (nums .i64 o) ∧ Ext w w') (fun (i, _) => s.n - i) ((0, List.replicate m 0)) (At1 (by first | rfl | exact at_int rfl (by omega) | exact at_slice rfl (by omega) | exact at_int rfl (by simp))) ?_ ?_
  · exact ⟨Nat.zero_le _, List.length_replicate .., fun x hx => absurd hx (by omega), ho1, he1⟩
  · rintro ⟨i, o⟩ g w2 ⟨hi, hol, hP, ho2, he2⟩
    refine J.seq ?_
    refine J.seq ?_
    refine J.region ?_
    refine L.va rfl (X.move (by conv => lhs; whnf)) ?_
    refine L.va rfl (X.move (by conv => lhs; whnf)) ?_
    refine L.va rfl (X.len rfl Try.underlying38) ?_
    refine L.va rfl (X.lss rfl rfl) ?_
    refine L.nil ?_
    -- cond
    refine J.dec rfl (fun hlt => ?_) (fun hlt => ?_)
    · have hin : i < s.n := by omega
      have z2 := he2.le
      have hA := hs.r.some_ (by omega)
      obtain ⟨y, hy⟩ : ∃ y, y = s.l.getD i by0 := ⟨_, rfl⟩
      have gy := gtBy (l := s.l) (i := i) (by omega)
      have my := hs.h _ (memBy (l := s.l) (i := i) (by omega))
      rw [← hy] at gy my
      have ey : s.ks.getD i [] = y.l := by rw [Bys.ks_at, hy]
      have ly : ∀ (w' : World), Ext w w' → Ld w' (pA s.A i) (.slice y.A y.n y.c) := fun w' hw => by have h := Ld.flat2 by_len (hs.r.ext hw) gy (r := 0) rfl; rwa [Nat.mul_one] at h
      refine J.skip ?_
      refine J.seq ?_
      refine J.block ?_
      refine J.seq ?_
      refine J.region ?_
      refine L.va rfl (X.assign (by conv => lhs; whnf)) ?_
      refine L.nil ?_
      refine J.seq ?_
      refine J.seq ?_
      refine J.region ?_
      refine L.va rfl (X.assign (by conv => lhs; whnf)) ?_
      refine L.nil ?_
      refine J.block ?_
      -- loop
      refine J.loop (X := Nat × Nat) [7, 8, 21, 22, 23, 24, 25, 26, 27, 28, 29, 30, 31, 32, 33, 34, 35, 36, 37, 38, 39, 40, 41, 42, 43, 44, 45, 46, 47, 48, 49, 50, 51, 52, 53, 54] (fun (j, n) => [(8, .int .i64 (j : Int)), (7, .int .i64 (n : Int))]) (fun (j, n) w' => j ≤ s.n ∧ n = (List.range j).countP (fun x => ahL s.ks x i) ∧ Ext w2 w') (fun (j, _) => s.n - j) ((0, 0)) (At2 (by first | rfl | exact at_int rfl (by omega) | exact at_slice rfl (by omega) | exact at_int rfl (by simp)) (by first | rfl | exact at_int rfl (by omega) | exact at_slice rfl (by omega) | exact at_int rfl (by simp))) ?_ ?_
      · exact ⟨Nat.zero_le _, rfl, Ext.refl _⟩
      · rintro ⟨j, n⟩ g w3 ⟨hj, hn3, he3⟩
        have hnj := cnt_le (ahL s.ks) j i
        rw [← hn3] at hnj
        have hnx := pos_next (ahL s.ks) j i
        rw [← hn3] at hnx
        have he03 := he2.trans he3
        refine J.seq ?_
        refine J.seq ?_
        refine J.region ?_
        refine L.va rfl (X.move (by conv => lhs; whnf)) ?_
        refine L.va rfl (X.move (by conv => lhs; whnf)) ?_
        refine L.va rfl (X.len rfl Try.underlying38) ?_
        refine L.va rfl (X.lss rfl rfl) ?_
        refine L.nil ?_
        -- cond
        refine J.dec rfl (fun hlt2 => ?_) (fun hlt2 => ?_)
        · have hjn : j < s.n := by omega
          obtain ⟨x, hx⟩ : ∃ x, x = s.l.getD j by0 := ⟨_, rfl⟩
          have gx := gtBy (l := s.l) (i := j) (by omega)
          have mx := hs.h _ (memBy (l := s.l) (i := j) (by omega))
          rw [← hx] at gx mx
          have ex : s.ks.getD j [] = x.l := by rw [Bys.ks_at, hx]
          have lx : ∀ (w' : World), Ext w w' → Ld w' (pA s.A j) (.slice x.A x.n x.c) := fun w' hw => by have h := Ld.flat2 by_len (hs.r.ext hw) gx (r := 0) rfl; rwa [Nat.mul_one] at h
          have e : ahL s.ks j i = (lessB x.l y.l || (!lessB y.l x.l && decide (j < i))) := by unfold ahL; rw [ex, ey]
          have c1 := fun (w' : World) (hw : Ext w w') => less07 x.A x.n x.c y.A y.n y.c x.l y.l w' ((mx.ext hw).more hw.le).r ((my.ext hw).more hw.le).r mx.m my.m
          have c2 := fun (w' : World) (hw : Ext w w') => less07 y.A y.n y.c x.A x.n x.c y.l x.l w' ((my.ext hw).more hw.le).r ((mx.ext hw).more hw.le).r my.m mx.m
          refine J.skip ?_
          refine J.seq ?_
          refine J.block ?_
          refine J.seq ?_
          -- draw
          refine J.quiet mixed (by kernel_rfl) ?_
          refine Qt.va rfl (fun w' hw => X.move (by conv => lhs; whnf)) ?_
          refine Qt.va rfl (fun w' hw => X.move (by conv => lhs; whnf)) ?_
          refine Qt.va rfl (fun w' hw => (by first | exact X.index1n rfl rfl Try.underlying38 sz_33 (by first | exact Option.some_ne_none _ | exact hA | exact lx w' (he03.trans hw) | exact ly w' (he03.trans hw)) (by omega) | exact X.index1 rfl rfl Try.underlying38 sz_33 (by first | exact Option.some_ne_none _ | exact hA | exact lx w' (he03.trans hw) | exact ly w' (he03.trans hw)) (by omega))) ?_
          refine Qt.va rfl (fun w' hw => X.load rfl sc_33 (by first | exact hA | exact lx w' (he03.trans hw) | exact ly w' (he03.trans hw))) ?_
          refine Qt.va rfl (fun w' hw => X.move (by conv => lhs; whnf)) ?_
          refine Qt.va rfl (fun w' hw => X.move (by conv => lhs; whnf)) ?_
          refine Qt.va rfl (fun w' hw => (by first | exact X.index1n rfl rfl Try.underlying38 sz_33 (by first | exact Option.some_ne_none _ | exact hA | exact lx w' (he03.trans hw) | exact ly w' (he03.trans hw)) (by omega) | exact X.index1 rfl rfl Try.underlying38 sz_33 (by first | exact Option.some_ne_none _ | exact hA | exact lx w' (he03.trans hw) | exact ly w' (he03.trans hw)) (by omega))) ?_
          refine Qt.va rfl (fun w' hw => X.load rfl sc_33 (by first | exact hA | exact lx w' (he03.trans hw) | exact ly w' (he03.trans hw))) ?_
          -- callfn bushel/bushelref07.Less
          refine Qt.call rfl en_24 rfl (fun w' hw => calls_ext hw (c1 w' (he03.trans hw))) ?_
          refine Qt.va rfl (fun w' hw => X.move (by conv => lhs; whnf)) ?_
          -- case t36
          cases k1 : lessB x.l y.l
          · refine Qt.caseBF (k := 36) rfl (by rfl) ?_
            refine Qt.va rfl (fun w' hw => X.move (by conv => lhs; whnf)) ?_
            refine Qt.va rfl (fun w' hw => X.move (by conv => lhs; whnf)) ?_
            refine Qt.va rfl (fun w' hw => X.lss rfl rfl) ?_
            refine Qt.va rfl (fun w' hw => X.move (by conv => lhs; whnf)) ?_
            -- case t40
            refine Qt.caseDec (k := 40) rfl (fun hji => ?_) (fun hji => ?_)
            · refine Qt.va rfl (fun w' hw => X.move (by conv => lhs; whnf)) ?_
              refine Qt.va rfl (fun w' hw => X.move (by conv => lhs; whnf)) ?_
              refine Qt.va rfl (fun w' hw => (by first | exact X.index1n rfl rfl Try.underlying38 sz_33 (by first | exact Option.some_ne_none _ | exact hA | exact lx w' (he03.trans hw) | exact ly w' (he03.trans hw)) (by omega) | exact X.index1 rfl rfl Try.underlying38 sz_33 (by first | exact Option.some_ne_none _ | exact hA | exact lx w' (he03.trans hw) | exact ly w' (he03.trans hw)) (by omega))) ?_
              refine Qt.va rfl (fun w' hw => X.load rfl sc_33 (by first | exact hA | exact lx w' (he03.trans hw) | exact ly w' (he03.trans hw))) ?_
              refine Qt.va rfl (fun w' hw => X.move (by conv => lhs; whnf)) ?_
              refine Qt.va rfl (fun w' hw => X.move (by conv => lhs; whnf)) ?_
              refine Qt.va rfl (fun w' hw => (by first | exact X.index1n rfl rfl Try.underlying38 sz_33 (by first | exact Option.some_ne_none _ | exact hA | exact lx w' (he03.trans hw) | exact ly w' (he03.trans hw)) (by omega) | exact X.index1 rfl rfl Try.underlying38 sz_33 (by first | exact Option.some_ne_none _ | exact hA | exact lx w' (he03.trans hw) | exact ly w' (he03.trans hw)) (by omega))) ?_
              refine Qt.va rfl (fun w' hw => X.load rfl sc_33 (by first | exact hA | exact lx w' (he03.trans hw) | exact ly w' (he03.trans hw))) ?_
              -- callfn bushel/bushelref07.Less
              refine Qt.call rfl en_24 rfl (fun w' hw => calls_ext hw (c2 w' (he03.trans hw))) ?_
              refine Qt.va rfl (fun w' hw => X.not rfl) ?_
              refine Qt.va rfl (fun w' hw => X.pickT rfl (by conv => lhs; whnf)) ?_
              refine Qt.va rfl (fun w' hw => X.pickF rfl (by conv => lhs; whnf)) ?_
              refine Qt.nil (fun w4 hq => ?_)
              -- cond
              cases k2 : lessB y.l x.l
              · have er : ahL s.ks j i = true := by rw [e, k1, k2, decide_eq_true (by omega)]; rfl
                rw [if_pos er] at hnx
                refine J.iteT rfl ?_
                refine J.region ?_
                refine L.va rfl (X.move (by conv => lhs; whnf)) ?_
                refine L.va rfl (X.add rfl rfl (by omega)) ?_
                refine L.va rfl (X.assign (by conv => lhs; whnf)) ?_
                refine L.nil ?_
                refine J.region ?_
                refine L.va rfl (X.move (by conv => lhs; whnf)) ?_
                refine L.va rfl (X.add rfl rfl (by omega)) ?_
                refine L.va rfl (X.assign (by conv => lhs; whnf)) ?_
                refine L.nil ?_
                -- loopend
                refine ⟨(j + 1, n + 1), At2 (by first | rfl | exact at_int rfl (by omega) | exact at_slice rfl (by omega) | exact at_int rfl (by simp)) (by first | rfl | exact at_int rfl (by omega) | exact at_slice rfl (by omega) | exact at_int rfl (by simp)), (by (iterate 38 refine Agr.lk rfl ?_); exact Agr.lk rfl (Agr.hav rfl Agr.rfl')), ?_⟩
                exact ⟨⟨by omega, hnx.symm, he3.trans hq⟩, by show s.n - (j + 1) < s.n - j; omega⟩
              · have er : ahL s.ks j i = false := by rw [e, k1, k2]; rfl
                rw [if_neg (by rw [er]; decide)] at hnx
                refine J.iteF rfl ?_
                refine J.skip ?_
                refine J.region ?_
                refine L.va rfl (X.move (by conv => lhs; whnf)) ?_
                refine L.va rfl (X.add rfl rfl (by omega)) ?_
                refine L.va rfl (X.assign (by conv => lhs; whnf)) ?_
                refine L.nil ?_
                -- loopend
                refine ⟨(j + 1, n), At2 (by first | rfl | exact at_int rfl (by omega) | exact at_slice rfl (by omega) | exact at_int rfl (by simp)) (by first | rfl | exact at_int rfl (by omega) | exact at_slice rfl (by omega) | exact at_int rfl (by simp)), (by (iterate 35 refine Agr.lk rfl ?_); exact Agr.lk rfl (Agr.hav rfl Agr.rfl')), ?_⟩
                exact ⟨⟨by omega, hnx.symm, he3.trans hq⟩, by show s.n - (j + 1) < s.n - j; omega⟩
            · have er : ahL s.ks j i = false := by rw [e, k1, decide_eq_false (by omega), Bool.and_false]; rfl
              rw [if_neg (by rw [er]; decide)] at hnx
              refine Qt.no rfl ?_
              refine Qt.no rfl ?_
              refine Qt.no rfl ?_
              refine Qt.no rfl ?_
              refine Qt.no rfl ?_
              refine Qt.no rfl ?_
              refine Qt.no rfl ?_
              refine Qt.no rfl ?_
              refine Qt.no rfl ?_
              refine Qt.no rfl ?_
              refine Qt.va rfl (fun w' hw => X.pickF rfl (by conv => lhs; whnf)) ?_
              refine Qt.va rfl (fun w' hw => X.pickF rfl (by conv => lhs; whnf)) ?_
              refine Qt.nil (fun w4 hq => ?_)
              -- cond
              refine J.iteF rfl ?_
              refine J.skip ?_
              refine J.region ?_
              refine L.va rfl (X.move (by conv => lhs; whnf)) ?_
              refine L.va rfl (X.add rfl rfl (by omega)) ?_
              refine L.va rfl (X.assign (by conv => lhs; whnf)) ?_
              refine L.nil ?_
              -- loopend
              refine ⟨(j + 1, n), At2 (by first | rfl | exact at_int rfl (by omega) | exact at_slice rfl (by omega) | exact at_int rfl (by simp)) (by first | rfl | exact at_int rfl (by omega) | exact at_slice rfl (by omega) | exact at_int rfl (by simp)), (by (iterate 35 refine Agr.lk rfl ?_); exact Agr.lk rfl (Agr.hav rfl Agr.rfl')), ?_⟩
              exact ⟨⟨by omega, hnx.symm, he3.trans hq⟩, by show s.n - (j + 1) < s.n - j; omega⟩
          · have er : ahL s.ks j i = true := by rw [e, k1]; rfl
            rw [if_pos er] at hnx
            refine Qt.caseBT (k := 36) rfl (by rfl) ?_
            refine Qt.no rfl ?_
            refine Qt.no rfl ?_
            refine Qt.no rfl ?_
            refine Qt.no rfl ?_
            refine Qt.no rfl ?_
            refine Qt.no rfl ?_
            refine Qt.no rfl ?_
            refine Qt.no rfl ?_
            refine Qt.no rfl ?_
            refine Qt.no rfl ?_
            refine Qt.no rfl ?_
            refine Qt.no rfl ?_
            refine Qt.no rfl ?_
            refine Qt.no rfl ?_
            refine Qt.no rfl ?_
            refine Qt.va rfl (fun w' hw => X.pickT rfl (by conv => lhs; whnf)) ?_
            refine Qt.nil (fun w4 hq => ?_)
            -- cond
            refine J.iteT rfl ?_
            refine J.region ?_
            refine L.va rfl (X.move (by conv => lhs; whnf)) ?_
            refine L.va rfl (X.add rfl rfl (by omega)) ?_
            refine L.va rfl (X.assign (by conv => lhs; whnf)) ?_
            refine L.nil ?_
            refine J.region ?_
            refine L.va rfl (X.move (by conv => lhs; whnf)) ?_
            refine L.va rfl (X.add rfl rfl (by omega)) ?_
            refine L.va rfl (X.assign (by conv => lhs; whnf)) ?_
            refine L.nil ?_
            -- loopend
            refine ⟨(j + 1, n + 1), At2 (by first | rfl | exact at_int rfl (by omega) | exact at_slice rfl (by omega) | exact at_int rfl (by simp)) (by first | rfl | exact at_int rfl (by omega) | exact at_slice rfl (by omega) | exact at_int rfl (by simp)), (by (iterate 37 refine Agr.lk rfl ?_); exact Agr.lk rfl (Agr.hav rfl Agr.rfl')), ?_⟩
            exact ⟨⟨by omega, hnx.symm, he3.trans hq⟩, by show s.n - (j + 1) < s.n - j; omega⟩
        · obtain rfl : j = s.n := by omega
          have hpn : n = pos (ahL s.ks) s.n i := hn3
          have ho3 := ho2.ext he3
          refine J.exit ?_
          refine J.seq ?_
          refine J.region ?_
          refine L.va rfl (X.move (by conv => lhs; whnf)) ?_
          refine L.va rfl (X.move (by conv => lhs; whnf)) ?_
          refine L.va rfl (X.len rfl Try.underlying29) ?_
          refine L.va rfl (X.lss rfl rfl) ?_
          refine L.nil ?_
          -- cond
          refine J.dec rfl (fun hlt3 => ?_) (fun hlt3 => ?_)
          · refine J.region ?_
            refine L.va rfl (X.move (by conv => lhs; whnf)) ?_
            refine L.va rfl (X.move (by conv => lhs; whnf)) ?_
            refine L.va rfl (X.move (by conv => lhs; whnf)) ?_
            refine L.va rfl ((by first | exact X.index1n rfl rfl Try.underlying29 sz_3 (by first | exact Option.some_ne_none _ ) (by omega) | exact X.index1 rfl rfl Try.underlying29 sz_3 (by first | exact Option.some_ne_none _ ) (by omega))) ?_
            -- store
            refine L.storeON rfl rfl (by conv => lhs; whnf) sz_3 (ho3) (by omega) ?_
            intro w4 ho4 hg4 hb4 hs4
            have he4 : Ext w w4 := he03.grw hg4 (by intro g hg; injection hg with hg; subst hg; exact hwb)
            refine L.nil ?_
            refine J.region ?_
            refine L.va rfl (X.move (by conv => lhs; whnf)) ?_
            refine L.va rfl (X.add rfl rfl (by omega)) ?_
            refine L.va rfl (X.assign (by conv => lhs; whnf)) ?_
            refine L.nil ?_
            -- loopend
            refine ⟨(i + 1, o.set n (i : Int)), At1 (by first | rfl | exact at_int rfl (by omega) | exact at_slice rfl (by omega) | exact at_int rfl (by simp)), (by (iterate 15 refine Agr.lk rfl ?_); refine Agr.lk rfl ?_; refine Agr.hav rfl ?_; (iterate 6 refine Agr.lk rfl ?_); exact Agr.lk rfl (Agr.hav rfl Agr.rfl')), ?_⟩
            refine ⟨⟨by omega, by rw [List.length_set]; exact hol, fun x hx hxm => ?_, ho4, he4⟩, by show s.n - (i + 1) < s.n - i; omega⟩
            rw [getD_set _ _ _ _ (by omega)]
            by_cases ex : x = i
            · subst ex
              rw [if_pos hpn]
            · rw [if_neg (fun h => ex (hR.inj (n := s.n) (by omega) (by omega) (by omega)))]
              exact hP x (by omega) hxm
          · refine J.skip ?_
            refine J.region ?_
            refine L.va rfl (X.move (by conv => lhs; whnf)) ?_
            refine L.va rfl (X.add rfl rfl (by omega)) ?_
            refine L.va rfl (X.assign (by conv => lhs; whnf)) ?_
            refine L.nil ?_
            -- loopend
            refine ⟨(i + 1, o), At1 (by first | rfl | exact at_int rfl (by omega) | exact at_slice rfl (by omega) | exact at_int rfl (by simp)), (by (iterate 11 refine Agr.lk rfl ?_); refine Agr.lk rfl ?_; refine Agr.hav rfl ?_; (iterate 6 refine Agr.lk rfl ?_); exact Agr.lk rfl (Agr.hav rfl Agr.rfl')), ?_⟩
            refine ⟨⟨by omega, hol, fun x hx hxm => ?_, ho3, he03⟩, by show s.n - (i + 1) < s.n - i; omega⟩
            by_cases ex : x = i
            · subst ex; omega
            · exact hP x (by omega) hxm
    · refine J.exit ?_
      refine J.seq ?_
      refine J.region ?_
      refine L.va rfl (X.move (by conv => lhs; whnf)) ?_
      refine L.va rfl (X.assign (by conv => lhs; whnf)) ?_
      refine L.nil ?_
      -- ret
      refine J.ret ?_
      refine fin1 ?_
      exact ⟨_, _, _, o, rfl, ho2, hol, fun x hx => hP x (by omega), hm, he2⟩
end Go.Proofs.Ytmnlaekcojblkaa
