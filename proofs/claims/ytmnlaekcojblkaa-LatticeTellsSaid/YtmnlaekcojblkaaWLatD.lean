/-
  Lattices: all sets between two, walked.
-/
import Derived.Test.YtmnlaekcojblkaaWLatB
namespace Go.Proofs.Ytmnlaekcojblkaa
set_option maxRecDepth 100000
open Go.RowKit H
open Mk Clo
set_option linter.unusedVariables false
def ad (a : Nat) (l : List Nat) : List Nat := l.map (a + ·)
theorem ad_len (a : Nat) (l : List Nat) : (ad a l).length = l.length := List.length_map _
theorem ad_snoc (a : Nat) (l : List Nat) (x : Nat) : ad a (l ++ [x]) = ad a l ++ [a + x] := by unfold ad; rw [List.map_append]; rfl
theorem upto_len (f x : Nat) : (upto f x).length ≤ x := by
  unfold upto
  refine Nat.le_trans (List.length_filter_le _ _) ?_
  rw [List.length_range]
  exact Nat.le_refl _
theorem btw_no_sub (a b : Nat) (w : World) (ha : a < 4294967296) (hb : b < 4294967296) (h : sb a b = false) :
    Calls Try.prog 37 #[.int .u32 (a : Int), .int .u32 (b : Int)] w fun e w' => e = .returned (.tuple #[.slice none 0 0, .int .i64 1]) ∧ Ext w w' := by
  have c1 := lsub_any a b w ha hb
  rw [h] at c1
  refine enter Try.func37 rfl (by kernel_rfl) ?_
  refine J.seq ?_
  refine J.region ?_
  refine L.va rfl (X.assign (by conv => lhs; whnf)) ?_
  refine L.va rfl (X.assign (by conv => lhs; whnf)) ?_
  refine L.nil ?_
  refine J.seq ?_
  refine J.seq ?_
  refine J.region ?_
  refine L.va rfl (X.move (by conv => lhs; whnf)) ?_
  refine L.va rfl (X.move (by conv => lhs; whnf)) ?_
  -- callfn bushel/lattice.Sub
  refine L.call rfl en_39 rfl (c1) ?_
  rintro e _ ⟨rfl, rfl⟩
  refine ⟨_, rfl, ?_⟩
  refine L.va rfl (X.not rfl) ?_
  refine L.nil ?_
  -- cond
  refine J.iteT rfl ?_
  refine J.seq ?_
  refine J.region ?_
  refine L.va rfl (X.assign (by conv => lhs; whnf)) ?_
  refine L.va rfl (X.assign (by conv => lhs; whnf)) ?_
  refine L.nil ?_
  -- ret
  refine J.ret ?_
  refine thn_ret <| ?_
  refine fin2 ?_
  exact ⟨rfl, Ext.refl _⟩
theorem btw_many (a b : Nat) (w : World) (ha : a < 4294967296) (hb : b < 4294967296) (h : sb a b = true) (hc : 12 < cnt 32 (b - a)) :
    Calls Try.prog 37 #[.int .u32 (a : Int), .int .u32 (b : Int)] w fun e w' => e = .returned (.tuple #[.slice none 0 0, .int .i64 3]) ∧ Ext w w' := by
  have c1 := lsub_any a b w ha hb
  rw [h] at c1
  have e2 : bits .andNot .u32 (b : Int) (a : Int) = ((b - a : Nat) : Int) := by rw [u32_andNot_nat b a hb ha, andNot_sub hb h]
  refine enter Try.func37 rfl (by kernel_rfl) ?_
  refine J.seq ?_
  refine J.region ?_
  refine L.va rfl (X.assign (by conv => lhs; whnf)) ?_
  refine L.va rfl (X.assign (by conv => lhs; whnf)) ?_
  refine L.nil ?_
  refine J.seq ?_
  refine J.seq ?_
  refine J.region ?_
  refine L.va rfl (X.move (by conv => lhs; whnf)) ?_
  refine L.va rfl (X.move (by conv => lhs; whnf)) ?_
  -- callfn bushel/lattice.Sub
  refine L.call rfl en_39 rfl (c1) ?_
  rintro e _ ⟨rfl, rfl⟩
  refine ⟨_, rfl, ?_⟩
  refine L.va rfl (X.not rfl) ?_
  refine L.nil ?_
  -- cond
  refine J.iteF rfl ?_
  refine J.skip ?_
  refine J.seq ?_
  refine J.region ?_
  refine L.va rfl (X.move (by conv => lhs; whnf)) ?_
  refine L.va rfl (X.move (by conv => lhs; whnf)) ?_
  refine L.va rfl (X.andNot rfl rfl) ?_
  refine L.va rfl (X.assign (by conv => lhs; whnf)) ?_
  refine L.nil ?_
  -- until
  rw [e2]
  refine J.seq ?_
  refine J.seq ?_
  refine J.region ?_
  refine L.va rfl (X.move (by conv => lhs; whnf)) ?_
  -- callfn bushel/lattice.Count
  refine L.call rfl en_40 rfl (lcount_any (b - a) _ (by omega)) ?_
  rintro e _ ⟨rfl, rfl⟩
  refine ⟨_, rfl, ?_⟩
  refine L.va rfl (X.gtr rfl rfl) ?_
  refine L.nil ?_
  -- cond
  refine J.decT rfl (by omega) ?_
  refine J.seq ?_
  refine J.region ?_
  refine L.va rfl (X.assign (by conv => lhs; whnf)) ?_
  refine L.va rfl (X.assign (by conv => lhs; whnf)) ?_
  refine L.nil ?_
  -- ret
  refine J.ret ?_
  refine thn_ret <| ?_
  refine fin2 ?_
  exact ⟨rfl, Ext.refl _⟩
theorem btw_some (a b : Nat) (w : World) (ha : a < 4294967296) (hb : b < 4294967296) (h : sb a b = true) (hc : cnt 32 (b - a) ≤ 12) :
    Calls Try.prog 37 #[.int .u32 (a : Int), .int .u32 (b : Int)] w fun e w' => ∃ (A : Option Addr) (c q : Nat), e = .returned (.tuple #[.slice A q c, .int .i64 0]) ∧ q = (ad a (subs (b - a))).length ∧ w'.ownsRow w.heap.size 53 1 (.slice A q c) q (nums .u32 (zl (ad a (subs (b - a))))) ∧ Ext w w' := by
  have c1 := lsub_any a b w ha hb
  rw [h] at c1
  have e2 : bits .andNot .u32 (b : Int) (a : Int) = ((b - a : Nat) : Int) := by rw [u32_andNot_nat b a hb ha, andNot_sub hb h]
  have hle := sb_le h
  have hor := fun x hx => or_add 32 a b x hb h hx
  obtain ⟨v, hv⟩ : ∃ v, v = b - a := ⟨_, rfl⟩
  rw [← hv] at e2 hc hor
  rw [← hv]
  have hv32 : v < 4294967296 := by omega
  have enx : ∀ s : Nat, s ≤ v → bits .and .u32 (IntKind.u32.wrap ((s : Int) - (v : Int))) (v : Int) = ((nx v s : Nat) : Int) := by
    intro s hs
    have : IntKind.u32.wrap ((s : Int) - (v : Int)) = (((s + 4294967296 - v) % 4294967296 : Nat) : Int) := by
      rw [IntKind.wrap_u32']; omega
    rw [this, u32_and_nat _ v (Nat.mod_lt _ (by decide)) (by omega)]
    rfl
  refine enter Try.func37 rfl (by kernel_rfl) ?_
  refine J.seq ?_
  refine J.region ?_
  refine L.va rfl (X.assign (by conv => lhs; whnf)) ?_
  refine L.va rfl (X.assign (by conv => lhs; whnf)) ?_
  refine L.nil ?_
  refine J.seq ?_
  refine J.seq ?_
  refine J.region ?_
  refine L.va rfl (X.move (by conv => lhs; whnf)) ?_
  refine L.va rfl (X.move (by conv => lhs; whnf)) ?_
  -- callfn bushel/lattice.Sub
  refine L.call rfl en_39 rfl (c1) ?_
  rintro e _ ⟨rfl, rfl⟩
  refine ⟨_, rfl, ?_⟩
  refine L.va rfl (X.not rfl) ?_
  refine L.nil ?_
  -- cond
  refine J.iteF rfl ?_
  refine J.skip ?_
  refine J.seq ?_
  refine J.region ?_
  refine L.va rfl (X.move (by conv => lhs; whnf)) ?_
  refine L.va rfl (X.move (by conv => lhs; whnf)) ?_
  refine L.va rfl (X.andNot rfl rfl) ?_
  refine L.va rfl (X.assign (by conv => lhs; whnf)) ?_
  refine L.nil ?_
  -- until
  rw [e2]
  refine J.seq ?_
  refine J.seq ?_
  refine J.region ?_
  refine L.va rfl (X.move (by conv => lhs; whnf)) ?_
  -- callfn bushel/lattice.Count
  refine L.call rfl en_40 rfl (lcount_any v _ (by omega)) ?_
  rintro e _ ⟨rfl, rfl⟩
  refine ⟨_, rfl, ?_⟩
  refine L.va rfl (X.gtr rfl rfl) ?_
  refine L.nil ?_
  -- cond
  refine J.decF rfl (by omega) ?_
  refine J.skip ?_
  refine J.seq ?_
  refine J.region ?_
  refine L.va rfl (X.move (by conv => lhs; whnf)) ?_
  -- buildSlice
  refine L.bslice (vs := [_]) rfl (Evs.cons (by conv => lhs; whnf) Evs.nil) rfl rfl rfl rfl Try.underlying54 sz_53 zr_53 (by decide) ?_
  intro b2 w1 hb2 hs2 hk he
  have ho : w1.ownsRow w.heap.size 53 1 (.slice (some ⟨b2, 0, none⟩) 1 1) 1 (nums .u32 [(a : Int)]) := blk_own1 hk (by omega : w.heap.size ≤ b2) (by unfold maxLen; omega) rfl
  refine L.va rfl (X.assign (by conv => lhs; whnf)) ?_
  refine L.nil ?_
  -- until
  refine J.seq ?_
  refine J.seq ?_
  refine J.region ?_
  refine L.va rfl (X.move (by conv => lhs; whnf)) ?_
  refine L.va rfl (X.negw rfl) ?_
  refine L.va rfl (X.move (by conv => lhs; whnf)) ?_
  refine L.va rfl (X.and rfl rfl) ?_
  refine L.va rfl (X.assign (by conv => lhs; whnf)) ?_
  refine L.nil ?_
  refine J.block ?_
  -- loop
  have e0 := enx 0 (by omega)
  rw [show ((0 : Nat) : Int) = 0 from rfl] at e0
  rw [e0]
  have hl0 : upto v (if nx v 0 = 0 then v + 1 else nx v 0) = [0] := by rw [upto_next v 0 (by omega) (sb_zero v)]; rfl
  refine J.loop (X := Nat × Nat × Option Addr × Nat) [7, 8, 25, 26, 27, 28, 29, 30, 31, 32, 33, 34, 35, 36, 37] (fun (s, n, A, c) => [(8, .int .u32 (s : Int)), (7, .slice A n c)]) (fun (s, n, A, c) w' => sb s v = true ∧ n = (ad a (upto v (if s = 0 then v + 1 else s))).length ∧ w'.ownsRow w.heap.size 53 1 (.slice A n c) n (nums .u32 (zl (ad a (upto v (if s = 0 then v + 1 else s))))) ∧ Ext w w') (fun (s, _) => if s = 0 then 0 else v + 1 - s) ((nx v 0, 1, some ⟨b2, 0, none⟩, 1)) (At2 (by first | rfl | exact at_int rfl (by omega) | exact at_slice rfl (by omega) | exact at_int rfl (by simp)) (by first | rfl | exact at_int rfl (by omega) | exact at_slice rfl (by omega) | exact at_int rfl (by simp))) ?_ ?_
  · exact ⟨nx_sb v 0, by rw [hl0]; rfl, by rw [hl0]; exact ho, he⟩
  · rintro ⟨s, n, A, c⟩ g w2 ⟨h1, h2, h3, h4⟩
    have hsv := sb_le h1
    have hz2 := h4.le
    have hnl : n ≤ v + 1 := by
      rw [h2, ad_len]
      refine Nat.le_trans (upto_len _ _) ?_
      split <;> omega
    refine J.seq ?_
    refine J.seq ?_
    refine J.region ?_
    refine L.va rfl (X.move (by conv => lhs; whnf)) ?_
    refine L.va rfl (X.neq rfl rfl) ?_
    refine L.nil ?_
    -- cond
    refine J.ndec rfl (fun hne => ?_) (fun hne => ?_)
    · have hs0 : s ≠ 0 := by intro h; apply hne; rw [h]; rfl
      rw [if_neg hs0] at h2 h3
      have eor : bits .or .u32 (a : Int) (s : Int) = ((a + s : Nat) : Int) := by
        rw [u32_or_nat a s ha (by omega), hor s h1]
      have hnx := upto_next v s (by omega) h1
      have es := enx s hsv
      refine J.skip ?_
      refine J.seq ?_
      refine J.block ?_
      refine J.region ?_
      refine L.va rfl (X.move (by conv => lhs; whnf)) ?_
      refine L.va rfl (X.move (by conv => lhs; whnf)) ?_
      refine L.va rfl (X.move (by conv => lhs; whnf)) ?_
      refine L.va rfl (X.or rfl rfl) ?_
      -- buildSlice
      refine L.bslice (vs := [_]) rfl (Evs.cons (by conv => lhs; whnf) Evs.nil) rfl rfl rfl rfl Try.underlying54 sz_53 zr_53 (by decide) ?_
      intro b3 w3 hb3 hs3 hk3 he3
      rw [eor] at hk3
      -- append
      refine L.appendQ (q := n + 1) (ys := zl (ad a (upto v s)) ++ [((a + s : Nat) : Int)]) rfl rfl rfl Try.underlying54 el_53 (h3.ext he3) ((blk_reads (q := 1) (l := nums .u32 [((a + s : Nat) : Int)]) hk3 (by omega : b3 < w3.heap.size) rfl)) (by omega) (by simp) (by unfold maxLen; omega) (by omega) ?_
      intro A4 c4 w4 ho4 hg4 hb4 hor4
      rw [← zl_snoc, ← ad_snoc, ← hnx] at ho4
      have h4' : Ext w w4 := (h4.trans he3).low hb4 (Nat.le_refl _)
      refine L.va rfl (X.assign (by conv => lhs; whnf)) ?_
      refine L.nil ?_
      refine J.region ?_
      refine L.va rfl (X.move (by conv => lhs; whnf)) ?_
      refine L.va rfl (X.move (by conv => lhs; whnf)) ?_
      refine L.va rfl (X.subw rfl rfl) ?_
      refine L.va rfl (X.move (by conv => lhs; whnf)) ?_
      refine L.va rfl (X.and rfl rfl) ?_
      refine L.va rfl (X.assign (by conv => lhs; whnf)) ?_
      refine L.nil ?_
      -- loopend
      refine ⟨(nx v s, n + 1, A4, c4), At2 (at_int rfl es) (rfl), (by (iterate 15 refine Agr.lk rfl ?_); exact Agr.lk rfl (Agr.hav rfl Agr.rfl')), ?_⟩
      refine ⟨⟨nx_sb v s, ?_, ho4, h4'⟩, ?_⟩
      · rw [hnx, ad_len, List.length_append, h2, ad_len]; rfl
      · show (if nx v s = 0 then 0 else v + 1 - nx v s) < if s = 0 then 0 else v + 1 - s
        rw [if_neg hs0]
        by_cases he : s = v
        · rw [he, nx_last, if_pos rfl]; omega
        · have := (nx_spec v s (by omega) h1 (by omega)).1
          rw [if_neg (by omega)]; omega
    · obtain rfl : s = 0 := by omega
      rw [if_pos rfl] at h2 h3
      refine J.exit ?_
      refine J.seq ?_
      refine J.region ?_
      refine L.va rfl (X.move (by conv => lhs; whnf)) ?_
      refine L.va rfl (X.assign (by conv => lhs; whnf)) ?_
      refine L.va rfl (X.assign (by conv => lhs; whnf)) ?_
      refine L.nil ?_
      -- ret
      refine J.ret ?_
      refine fin2 ?_
      exact ⟨A, c, n, rfl, h2, h3, h4⟩
theorem own_maxL {w : World} {base e sz n : Nat} {v : Value} {xs : List Value} (h : w.ownsRow base e sz v n xs) : n ≤ maxLen := by
  rcases h.2 with ⟨_, rfl⟩ | ⟨b, cap, cur, rfl, _, _, h1, h2, _⟩
  · exact Nat.zero_le _
  · exact Nat.le_trans h1 h2
theorem btw_len (a f i : Nat) (h : f < 4294967296) : (btw a f i).length ≤ 4294967296 := by
  unfold btw
  rw [List.length_map]
  refine Nat.le_trans (upto_len _ _) ?_
  have := Nat.mod_le f (2 ^ i)
  omega
theorem btw_el {a f i x : Nat} (hx : x ∈ btw a f i) : x ≤ a + f % 2 ^ i := by
  unfold btw at hx
  obtain ⟨y, hy, rfl⟩ := List.mem_map.1 hx
  have := sb_le (mem_subs.1 hy)
  omega
theorem rbetween (a b : Nat) (w : World) (ha : a < 4294967296) (hb : b < 4294967296) (h : sb a b = true) :
    Calls Try.prog 44 #[.int .u32 (a : Int), .int .u32 (b : Int)] w fun e w' => ∃ (A : Option Addr) (c q : Nat), e = .returned (.slice A q c) ∧ q = (ad a (subs (b - a))).length ∧ w'.ownsRow w.heap.size 53 1 (.slice A q c) q (nums .u32 (zl (ad a (subs (b - a))))) ∧ Ext w w' := by
  have hle := sb_le h
  have hbit := fun i => bit_sub i a b h
  obtain ⟨f, hf⟩ : ∃ f, f = b - a := ⟨_, rfl⟩
  rw [← hf]
  rw [← hf] at hbit
  have hf32 : f < 4294967296 := by omega
  refine enter Try.func44 rfl (by kernel_rfl) ?_
  refine J.seq ?_
  refine J.region ?_
  refine L.va rfl (X.assign (by conv => lhs; whnf)) ?_
  refine L.nil ?_
  refine J.seq ?_
  refine J.region ?_
  refine L.va rfl (X.move (by conv => lhs; whnf)) ?_
  -- buildSlice
  refine L.bslice (vs := [_]) rfl (Evs.cons (by conv => lhs; whnf) Evs.nil) rfl rfl rfl rfl Try.underlying54 sz_53 zr_53 (by decide) ?_
  intro b1 w1 hb1 hs1 hk1 he1
  have ho1 : w1.ownsRow w.heap.size 53 1 (.slice (some ⟨b1, 0, none⟩) 1 1) 1 (nums .u32 (zl (btw a f 0))) := by
    rw [btw_zero]
    exact blk_own1 hk1 (by omega : w.heap.size ≤ b1) (by unfold maxLen; omega) rfl
  refine L.va rfl (X.assign (by conv => lhs; whnf)) ?_
  refine L.nil ?_
  refine J.seq ?_
  refine J.seq ?_
  refine J.region ?_
  refine L.va rfl (X.assign (by conv => lhs; whnf)) ?_
  refine L.nil ?_
  refine J.block ?_
  -- loop
  refine J.loop (X := Nat × Nat × Option Addr × Nat) [5, 6, 7, 8, 11, 12, 13, 14, 15, 16, 17, 18, 19, 20, 21, 22, 23, 24, 25, 26, 27, 28, 29, 30, 31, 32, 33, 34, 35, 36, 37, 38, 39, 40] (fun (i, n, A, c) => [(6, .int .i64 (i : Int)), (5, .slice A n c)]) (fun (i, n, A, c) w' => i ≤ 32 ∧ n = (btw a f i).length ∧ w'.ownsRow w.heap.size 53 1 (.slice A n c) n (nums .u32 (zl (btw a f i))) ∧ Ext w w') (fun (i, _) => 32 - i) ((0, 1, some ⟨b1, 0, none⟩, 1)) (At2 (by first | rfl | exact at_int rfl (by omega) | exact at_slice rfl (by omega) | exact at_int rfl (by simp)) (by first | rfl | exact at_int rfl (by omega) | exact at_slice rfl (by omega) | exact at_int rfl (by simp))) ?_ ?_
  · exact ⟨Nat.zero_le _, by rw [btw_zero]; rfl, ho1, he1⟩
  · rintro ⟨i, n, A, c⟩ g w2 ⟨hi, hn, ho2, he2⟩
    have hnl := btw_len a f i hf32
    rw [← hn] at hnl
    refine J.seq ?_
    refine J.seq ?_
    refine J.region ?_
    refine L.va rfl (X.move (by conv => lhs; whnf)) ?_
    refine L.va rfl (X.lss rfl rfl) ?_
    refine L.nil ?_
    -- cond
    refine J.dec rfl (fun hlt => ?_) (fun hlt => ?_)
    · have c2 := rin_any b i w2 hb (by omega)
      have c3 := rin_any a i w2 ha (by omega)
      have hb2 := hbit i
      refine J.skip ?_
      refine J.seq ?_
      refine J.block ?_
      refine J.seq ?_
      refine J.seq ?_
      refine J.region ?_
      refine L.va rfl (X.move (by conv => lhs; whnf)) ?_
      refine L.va rfl (X.move (by conv => lhs; whnf)) ?_
      -- callfn bushel/bushelref11.In
      refine L.call rfl en_103 rfl (c2) ?_
      rintro e _ ⟨rfl, rfl⟩
      refine ⟨_, rfl, ?_⟩
      refine L.va rfl (X.not rfl) ?_
      refine L.va rfl (X.move (by conv => lhs; whnf)) ?_
      -- case t19
      cases h1 : b.testBit i
      · refine L.caseBT (k := 19) rfl (by rfl) ?_
        refine L.no rfl ?_
        refine L.no rfl ?_
        refine L.no rfl ?_
        refine L.va rfl (X.pickT rfl (by conv => lhs; whnf)) ?_
        refine L.nil ?_
        -- cond
        have hno : f.testBit i = false := by rw [hb2, h1]; simp
        rw [← btw_no hno] at hn ho2
        refine J.iteT rfl ?_
        refine J.exit ?_
        refine J.region ?_
        refine L.va rfl (X.move (by conv => lhs; whnf)) ?_
        refine L.va rfl (X.add rfl rfl (by omega)) ?_
        refine L.va rfl (X.assign (by conv => lhs; whnf)) ?_
        refine L.nil ?_
        -- loopend
        refine ⟨(i + 1, n, A, c), At2 (by first | rfl | exact at_int rfl (by omega) | exact at_slice rfl (by omega) | exact at_int rfl (by simp)) (by first | rfl | exact at_int rfl (by omega) | exact at_slice rfl (by omega) | exact at_int rfl (by simp)), (by (iterate 15 refine Agr.lk rfl ?_); exact Agr.lk rfl (Agr.hav rfl Agr.rfl')), ?_⟩
        exact ⟨⟨by omega, hn, ho2, he2⟩, by show 32 - (i + 1) < 32 - i; omega⟩
      · refine L.caseBF (k := 19) rfl (by rfl) ?_
        refine L.va rfl (X.move (by conv => lhs; whnf)) ?_
        refine L.va rfl (X.move (by conv => lhs; whnf)) ?_
        -- callfn bushel/bushelref11.In
        refine L.call rfl en_103 rfl (c3) ?_
        rintro e _ ⟨rfl, rfl⟩
        refine ⟨_, rfl, ?_⟩
        refine L.va rfl (X.pickF rfl (by conv => lhs; whnf)) ?_
        refine L.nil ?_
        -- cond
        cases h2 : a.testBit i
        · have hyes : f.testBit i = true := by rw [hb2, h1, h2]; rfl
          have hby := btw_yes (a := a) hyes
          have hmod : f % 2 ^ (i + 1) ≤ f := Nat.mod_le _ _
          obtain ⟨L0, hL0⟩ : ∃ L0, L0 = btw a f i := ⟨_, rfl⟩
          rw [← hL0] at hn ho2 hby
          refine J.iteF rfl ?_
          refine J.skip ?_
          refine J.seq ?_
          refine J.region ?_
          refine L.va rfl (X.move (by conv => lhs; whnf)) ?_
          refine L.va rfl (X.len rfl Try.underlying54) ?_
          refine L.va rfl (X.assign (by conv => lhs; whnf)) ?_
          refine L.nil ?_
          refine J.seq ?_
          refine J.region ?_
          refine L.va rfl (X.assign (by conv => lhs; whnf)) ?_
          refine L.nil ?_
          refine J.block ?_
          -- loop
          refine J.loop (X := Nat × Nat × Option Addr × Nat) [5, 8, 26, 27, 28, 29, 30, 31, 32, 33, 34, 35, 36, 37, 38, 39, 40] (fun (k, m, A, c) => [(8, .int .i64 (k : Int)), (5, .slice A m c)]) (fun (k, m, A, c) w' => k ≤ n ∧ m = n + k ∧ w'.ownsRow w.heap.size 53 1 (.slice A m c) m (nums .u32 (zl (L0 ++ (L0.take k).map (· + 2 ^ i)))) ∧ Ext w w') (fun (k, _) => n - k) ((0, n, A, c)) (At2 (by first | rfl | exact at_int rfl (by omega) | exact at_slice rfl (by omega) | exact at_int rfl (by simp)) (by first | rfl | exact at_int rfl (by omega) | exact at_slice rfl (by omega) | exact at_int rfl (by simp))) ?_ ?_
          · exact ⟨Nat.zero_le _, rfl, by simpa using ho2, he2⟩
          · rintro ⟨k, m, A, c⟩ g w3 ⟨hk, hm, ho3, he3⟩
            have hr := Reads.of_own ho3
            have z3 := he3.le
            refine J.seq ?_
            refine J.seq ?_
            refine J.region ?_
            refine L.va rfl (X.move (by conv => lhs; whnf)) ?_
            refine L.va rfl (X.move (by conv => lhs; whnf)) ?_
            refine L.va rfl (X.lss rfl rfl) ?_
            refine L.nil ?_
            -- cond
            refine J.dec rfl (fun hltk => ?_) (fun hltk => ?_)
            · have hkn : k < n := by omega
              have hA := hr.some_ (by omega)
              obtain ⟨x, hx⟩ : ∃ x, x = L0.getD k 0 := ⟨_, rfl⟩
              have hkl : k < L0.length := by omega
              have hxm : x ∈ btw a f (i + 1) := by
                rw [hby, hx, List.getD, List.getElem?_eq_getElem hkl]
                exact List.mem_append_left _ (List.getElem_mem _)
              have hxm2 : x + 2 ^ i ∈ btw a f (i + 1) := by
                rw [hby, hx, List.getD, List.getElem?_eq_getElem hkl]
                exact List.mem_append_right _ (List.mem_map.2 ⟨L0[k], List.getElem_mem _, rfl⟩)
              have hx2 := btw_el hxm2
              have hgx : (L0 ++ (L0.take k).map (· + 2 ^ i)).getD k 0 = x := by rw [hx, List.getD, List.getElem?_append_left hkl]; rfl
              have hld : ∀ w' : World, Ext w3 w' → Ld w' (pA A k) (.int .u32 (x : Int)) := fun w' hw => by
                have := Ld.zl (hr.ext hw) (j := k) (by omega)
                rwa [hgx] at this
              have eadd : IntKind.u32.wrap ((x : Int) + ((2 ^ i : Nat) : Int)) = ((x + 2 ^ i : Nat) : Int) := by rw [w32 (by omega)]; omega
              have htk : L0.take (k + 1) = L0.take k ++ [x] := by
                rw [List.take_add_one, List.getElem?_eq_getElem hkl, hx, List.getD, List.getElem?_eq_getElem hkl]
                rfl
              refine J.skip ?_
              refine J.seq ?_
              refine J.block ?_
              -- draw
              refine J.draw (ℓ := 1000000) (S := (fun w' => Ext w w')) mixed (fun w4 hSE hS_h => ?_)
              have hS : ((fun w' => Ext w w')) w4 := he3.trans hSE
              refine D.va 0 rfl (by kernel_rfl) (fun _ _ _ h => h) rfl (fun w' hw => X.move (by conv => lhs; whnf)) hS ?_
              refine D.va 1 rfl (by kernel_rfl) (fun _ _ _ h => h) rfl (fun w' hw => X.move (by conv => lhs; whnf)) hS ?_
              refine D.va 2 rfl (by kernel_rfl) (fun _ _ _ h => h) rfl (fun w' hw => X.move (by conv => lhs; whnf)) hS ?_
              refine D.va 3 rfl (by kernel_rfl) (fun _ _ _ h => h) rfl (fun w' hw => (by first | exact X.index1n rfl rfl Try.underlying54 sz_53 (by first | exact Option.some_ne_none _ | exact hA | exact hld w' hw) (by omega) | exact X.index1 rfl rfl Try.underlying54 sz_53 (by first | exact Option.some_ne_none _ | exact hA | exact hld w' hw) (by omega))) hS ?_
              refine D.va 5 rfl (by kernel_rfl) (fun _ _ _ h => h) rfl (fun w' hw => X.move (by conv => lhs; whnf)) hS ?_
              -- many [4, 6]
              refine D.call 6 rfl (by kernel_rfl) (fun _ _ _ h => h) rfl en_104 rfl (fun w' hw => rtwo_any i w' (by omega)) hS ?_
              -- load
              refine D.one 4 (by kernel_rfl) rfl ?_
              refine L.va rfl (X.load rfl sc_53 (hld w4 hSE)) ?_
              refine L.nil ?_
              refine ⟨fun _ => hS, ?_⟩
              refine D.va 7 rfl (by kernel_rfl) (fun _ _ _ h => h) rfl (fun w' hw => X.addw rfl rfl) hS ?_
              -- buildSlice
              refine D.one 8 (by kernel_rfl) rfl ?_
              refine L.bslice (vs := [_]) rfl (Evs.cons (by conv => lhs; whnf) Evs.nil) rfl rfl rfl rfl Try.underlying54 sz_53 zr_53 (by decide) ?_
              intro b5 w5 hb5 hs5 hk5 he5
              have hS1 := hS.trans he5
              refine L.nil ?_
              refine ⟨fun _ => hS1, ?_⟩
              rw [eadd] at hk5
              have ho5 := (ho3.ext hSE).ext he5
              have z5 := (hSE.trans he5).le
              -- append
              refine D.one 9 (by kernel_rfl) rfl ?_
              refine L.appendQ (q := m + 1) (ys := zl (L0 ++ (L0.take k).map (· + 2 ^ i)) ++ [((x + 2 ^ i : Nat) : Int)]) rfl rfl rfl Try.underlying54 el_53 (ho5) ((blk_reads (q := 1) (l := nums .u32 [((x + 2 ^ i : Nat) : Int)]) hk5 (by omega : b5 < w5.heap.size) rfl)) (by omega) (by simp) (by unfold maxLen; omega) (by omega) ?_
              intro A6 c6 w6 ho6 hg6 hb6 hor6
              have hS2 := Ext.low (hS.trans he5) hb6 (Nat.le_refl _)
              refine L.nil ?_
              refine ⟨fun _ => hS2, ?_⟩
              rw [← zl_snoc, List.append_assoc, show (L0.take k).map (· + 2 ^ i) ++ [x + 2 ^ i] = (L0.take (k + 1)).map (· + 2 ^ i) by rw [htk, List.map_append]; rfl] at ho6
              have he6 : Ext w w6 := ((he3.trans hSE).trans he5).low hb6 (Nat.le_refl _)
              refine D.va 10 rfl (by kernel_rfl) (fun _ _ _ h => h) rfl (fun w' hw => X.assign (by conv => lhs; whnf)) hS2 ?_
              refine D.done (by kernel_rfl) ?_
              refine J.region ?_
              refine L.va rfl (X.move (by conv => lhs; whnf)) ?_
              refine L.va rfl (X.add rfl rfl (by omega)) ?_
              refine L.va rfl (X.assign (by conv => lhs; whnf)) ?_
              refine L.nil ?_
              -- loopend
              refine ⟨(k + 1, m + 1, A6, c6), At2 (by first | rfl | exact at_int rfl (by omega) | exact at_slice rfl (by omega) | exact at_int rfl (by simp)) (by first | rfl | exact at_int rfl (by omega) | exact at_slice rfl (by omega) | exact at_int rfl (by simp)), (by (iterate 17 refine Agr.lk rfl ?_); exact Agr.lk rfl (Agr.hav rfl Agr.rfl')), ?_⟩
              exact ⟨⟨by omega, by omega, ho6, he6⟩, by show n - (k + 1) < n - k; omega⟩
            · obtain rfl : k = n := by omega
              rw [List.take_of_length_le (by omega), ← hby] at ho3
              refine J.exit ?_
              refine J.region ?_
              refine L.va rfl (X.move (by conv => lhs; whnf)) ?_
              refine L.va rfl (X.add rfl rfl (by omega)) ?_
              refine L.va rfl (X.assign (by conv => lhs; whnf)) ?_
              refine L.nil ?_
              -- loopend
              refine ⟨(i + 1, m, A, c), At2 (by first | rfl | exact at_int rfl (by omega) | exact at_slice rfl (by omega) | exact at_int rfl (by simp)) (by first | rfl | exact at_int rfl (by omega) | exact at_slice rfl (by omega) | exact at_int rfl (by simp)), (by (iterate 6 refine Agr.lk rfl ?_); refine Agr.lk rfl ?_; refine Agr.hav rfl ?_; (iterate 16 refine Agr.lk rfl ?_); exact Agr.lk rfl (Agr.hav rfl Agr.rfl')), ?_⟩
              refine ⟨⟨by omega, ?_, ho3, he3⟩, by show 32 - (i + 1) < 32 - i; omega⟩
              rw [hby, List.length_append, List.length_map]
              omega
        · have hno : f.testBit i = false := by rw [hb2, h1, h2]; simp
          rw [← btw_no hno] at hn ho2
          refine J.iteT rfl ?_
          refine J.exit ?_
          refine J.region ?_
          refine L.va rfl (X.move (by conv => lhs; whnf)) ?_
          refine L.va rfl (X.add rfl rfl (by omega)) ?_
          refine L.va rfl (X.assign (by conv => lhs; whnf)) ?_
          refine L.nil ?_
          -- loopend
          refine ⟨(i + 1, n, A, c), At2 (by first | rfl | exact at_int rfl (by omega) | exact at_slice rfl (by omega) | exact at_int rfl (by simp)) (by first | rfl | exact at_int rfl (by omega) | exact at_slice rfl (by omega) | exact at_int rfl (by simp)), (by (iterate 15 refine Agr.lk rfl ?_); exact Agr.lk rfl (Agr.hav rfl Agr.rfl')), ?_⟩
          exact ⟨⟨by omega, hn, ho2, he2⟩, by show 32 - (i + 1) < 32 - i; omega⟩
    · obtain rfl : i = 32 := by omega
      rw [btw_all hf32] at hn ho2
      refine J.exit ?_
      refine J.seq ?_
      refine J.region ?_
      refine L.va rfl (X.move (by conv => lhs; whnf)) ?_
      refine L.va rfl (X.assign (by conv => lhs; whnf)) ?_
      refine L.nil ?_
      -- ret
      refine J.ret ?_
      refine fin1 ?_
      exact ⟨A, c, n, rfl, hn, ho2, he2⟩
end Go.Proofs.Ytmnlaekcojblkaa
