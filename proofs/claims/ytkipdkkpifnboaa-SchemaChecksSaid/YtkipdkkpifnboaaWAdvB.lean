/-
  Package advise: what it asks first, the costs that it begins with, and laying one view.
-/
import Derived.Test.YtkipdkkpifnboaaWAdvA
namespace Go.Proofs.Ytkipdkkpifnboaa
open Go.RowKit H
open Mk Ad
set_option linter.unusedVariables false
/-- what is wrong with the sizes -/
def askE (n : Int) (ss : List Int) : Int := if n < 1 ∨ 6 < n then 2 else if (ss.length : Int) ≠ ((2 ^ n.toNat : Nat) : Int) then 3 else if ∃ z ∈ ss, z < 1 ∨ 1099511627776 < z then 2 else 0
theorem askE_cases (n : Int) (ss : List Int) : askE n ss = 2 ∨ askE n ss = 3 ∨ askE n ss = 0 := by
  unfold askE; repeat' split
  all_goals simp
theorem askE_zero {n : Int} {ss : List Int} (h : askE n ss = 0) : 1 ≤ n ∧ n ≤ 6 ∧ ss.length = 2 ^ n.toNat ∧ 2 ≤ ss.length ∧ ss.length ≤ 64 ∧ Ok ss := by
  unfold askE at h
  split at h
  · cases h
  · split at h
    · cases h
    · split at h
      · cases h
      · rename_i h1 h2 h3
        have hn : 1 ≤ n ∧ n ≤ 6 := by omega
        have hl : ss.length = 2 ^ n.toNat := by omega
        refine ⟨hn.1, hn.2, hl, ?_, ?_, fun z hz => ?_⟩
        · rw [hl]; exact Nat.le_trans (by decide : 2 ≤ 2 ^ 1) (Nat.pow_le_pow_right (by decide) (by omega))
        · rw [hl]; exact Nat.le_trans (Nat.pow_le_pow_right (by decide) (by omega : n.toNat ≤ 6)) (by decide)
        · refine ⟨?_, ?_⟩
          · apply Int.not_lt.1; intro hc; exact h3 ⟨z, hz, .inl hc⟩
          · apply Int.not_lt.1; intro hc; exact h3 ⟨z, hz, .inr hc⟩
theorem shl_one {n : Int} (h1 : 1 ≤ n) (h6 : n ≤ 6) : IntKind.i64.wrap (1 * 2 ^ min n.toNat IntKind.i64.bits) = ((2 ^ n.toNat : Nat) : Int) := by
  obtain ⟨m, rfl⟩ := Int.eq_ofNat_of_zero_le (by omega : 0 ≤ n)
  have : m = 1 ∨ m = 2 ∨ m = 3 ∨ m = 4 ∨ m = 5 ∨ m = 6 := by omega
  rcases this with rfl | rfl | rfl | rfl | rfl | rfl <;> decide
theorem ok_of {ss : List Int} {q : Nat} (hl : ss.length = q) (h : ∀ j, j < q → 1 ≤ ss.getD j 0 ∧ ss.getD j 0 ≤ 1099511627776) : ¬ ∃ z ∈ ss, z < 1 ∨ 1099511627776 < z := by
  rintro ⟨z, hz, hc⟩
  obtain ⟨i, hi, rfl⟩ := List.mem_iff_getElem.1 hz
  have := h i (by omega)
  simp only [List.getD, List.getElem?_eq_getElem hi, Option.getD_some] at this
  omega
theorem bad_of {ss : List Int} {j : Nat} (hj : j < ss.length) (h : ss.getD j 0 < 1 ∨ 1099511627776 < ss.getD j 0) : ∃ z ∈ ss, z < 1 ∨ 1099511627776 < z := by
  refine ⟨ss.getD j 0, ?_, h⟩
  simp only [List.getD, List.getElem?_eq_getElem hj, Option.getD_some]
  exact List.getElem_mem hj
theorem advask_any (n : Int) (A : Option Addr) (q c : Nat) (ss : List Int) (w : World) (hr : Reads w w.heap.size 1 A q (nums .i64 ss)) (hq : q ≤ 9223372036854775807) :
    Calls Try.prog 64 #[.int .i64 n, .slice A q c] w fun e w' => e = .returned (.int .i64 (askE n ss)) ∧ w = w' := by
  have hl : ss.length = q := by have := hr.1; simpa [nums] using this
  refine enter Try.func64 rfl (by kernel_rfl) ?_
  refine J.seq ?_
  refine J.region ?_
  refine L.va rfl (X.assign (by conv => lhs; whnf)) ?_
  refine L.nil ?_
  refine J.seq ?_
  refine J.seq ?_
  refine J.region ?_
  refine L.va rfl (X.move (by conv => lhs; whnf)) ?_
  refine L.va rfl (X.lss rfl rfl) ?_
  refine L.va rfl (X.move (by conv => lhs; whnf)) ?_
  -- case t9
  refine L.caseDec (k := 9) rfl (fun h1 => ?_) (fun h1 => ?_)
  · refine L.no rfl ?_
    refine L.no rfl ?_
    refine L.va rfl (X.pickT rfl (by conv => lhs; whnf)) ?_
    refine L.nil ?_
    -- cond
    refine J.iteT rfl ?_
    refine J.seq ?_
    refine J.region ?_
    refine L.va rfl (X.assign (by conv => lhs; whnf)) ?_
    refine L.nil ?_
    -- ret
    refine J.ret ?_
    refine thn_ret <| ?_
    refine fin1 ?_
    have hE : askE n ss = 2 := by rw [askE, if_pos (.inl h1)]
    rw [hE]
    exact ⟨rfl, rfl⟩
  · refine L.va rfl (X.move (by conv => lhs; whnf)) ?_
    refine L.va rfl (X.gtr rfl rfl) ?_
    refine L.va rfl (X.pickF rfl (by conv => lhs; whnf)) ?_
    refine L.nil ?_
    -- cond
    refine J.dec rfl (fun h2 => ?_) (fun h2 => ?_)
    · refine J.seq ?_
      refine J.region ?_
      refine L.va rfl (X.assign (by conv => lhs; whnf)) ?_
      refine L.nil ?_
      -- ret
      refine J.ret ?_
      refine thn_ret <| ?_
      refine fin1 ?_
      have hE : askE n ss = 2 := by rw [askE, if_pos (.inr h2)]
      rw [hE]
      exact ⟨rfl, rfl⟩
    · have hp := shl_one (n := n) (by omega) (by omega)
      refine J.skip ?_
      refine J.seq ?_
      refine J.seq ?_
      refine J.region ?_
      refine L.va rfl (X.move (by conv => lhs; whnf)) ?_
      refine L.va rfl (X.len rfl Try.underlying22) ?_
      refine L.va rfl (X.move (by conv => lhs; whnf)) ?_
      refine L.va rfl (X.shl rfl rfl (by omega)) ?_
      refine L.va rfl (X.neq rfl rfl) ?_
      refine L.nil ?_
      -- cond
      refine J.ndec rfl (fun h3 => ?_) (fun h3 => ?_)
      · rw [hp] at h3
        refine J.seq ?_
        refine J.region ?_
        refine L.va rfl (X.assign (by conv => lhs; whnf)) ?_
        refine L.nil ?_
        -- ret
        refine J.ret ?_
        refine thn_ret <| ?_
        refine fin1 ?_
        have hE : askE n ss = 3 := by rw [askE, if_neg (by omega), if_pos (by rw [hl]; exact h3)]
        rw [hE]
        exact ⟨rfl, rfl⟩
      · rw [hp] at h3
        refine J.skip ?_
        refine J.seq ?_
        refine J.seq ?_
        refine J.region ?_
        refine L.va rfl (X.move (by conv => lhs; whnf)) ?_
        refine L.va rfl (X.len rfl Try.underlying22) ?_
        refine L.va rfl (X.move (by conv => lhs; whnf)) ?_
        refine L.nil ?_
        refine J.block ?_
        -- loop
        refine J.loop (X := Nat) [4, 6, 20, 21, 22, 23, 24, 25, 26, 27, 28, 29, 30] (fun i => [(20, .int .i64 (i : Int))]) (fun i w' => w' = w ∧ i ≤ q ∧ ∀ j, j < i → 1 ≤ ss.getD j 0 ∧ ss.getD j 0 ≤ 1099511627776) (fun i => q - i) (0) (At1 (by first | rfl | exact at_int rfl (by omega) | exact at_slice rfl (by omega) | exact at_int rfl (by simp))) ?_ ?_
        · exact ⟨rfl, by omega, fun j hj => absurd hj (by omega)⟩
        · rintro i g w1 ⟨rfl, hi, hP⟩
          refine J.seq ?_
          refine J.region ?_
          refine L.va rfl (X.lss rfl rfl) ?_
          refine L.nil ?_
          refine J.seq ?_
          -- cond
          refine J.dec rfl (fun hlt => ?_) (fun hlt => ?_)
          · refine J.skip ?_
            refine J.seq ?_
            refine J.block ?_
            refine J.seq ?_
            refine J.region ?_
            refine L.va rfl ((by first | exact X.index1n rfl rfl Try.underlying22 sz_2 (by first | exact Option.some_ne_none _ | exact hr.some_ (by omega)) (by omega) | exact X.index1 rfl rfl Try.underlying22 sz_2 (by first | exact Option.some_ne_none _ | exact hr.some_ (by omega)) (by omega))) ?_
            refine L.va rfl (X.load rfl sc_2 (by first | exact Ld.num hr (by omega))) ?_
            refine L.va rfl (X.assign (by conv => lhs; whnf)) ?_
            refine L.nil ?_
            refine J.seq ?_
            refine J.region ?_
            refine L.va rfl (X.move (by conv => lhs; whnf)) ?_
            refine L.va rfl (X.lss rfl rfl) ?_
            refine L.va rfl (X.move (by conv => lhs; whnf)) ?_
            -- case t26
            refine L.caseDec (k := 26) rfl (fun h4 => ?_) (fun h4 => ?_)
            · refine L.no rfl ?_
              refine L.no rfl ?_
              refine L.va rfl (X.pickT rfl (by conv => lhs; whnf)) ?_
              refine L.nil ?_
              -- cond
              refine J.iteT rfl ?_
              refine J.seq ?_
              refine J.region ?_
              refine L.va rfl (X.assign (by conv => lhs; whnf)) ?_
              refine L.nil ?_
              -- ret
              refine J.ret ?_
              refine inB_ret <|  thn_ret <|  thn_ret <|  inB_ret <|  thn_ret <| ?_
              refine fin1 ?_
              have hE : askE n ss = 2 := by rw [askE, if_neg (by omega), if_neg (by omega), if_pos (bad_of (by omega) (.inl h4))]
              rw [hE]
              exact ⟨rfl, rfl⟩
            · refine L.va rfl (X.move (by conv => lhs; whnf)) ?_
              refine L.va rfl (X.gtr rfl rfl) ?_
              refine L.va rfl (X.pickF rfl (by conv => lhs; whnf)) ?_
              refine L.nil ?_
              -- cond
              refine J.dec rfl (fun h5 => ?_) (fun h5 => ?_)
              · refine J.seq ?_
                refine J.region ?_
                refine L.va rfl (X.assign (by conv => lhs; whnf)) ?_
                refine L.nil ?_
                -- ret
                refine J.ret ?_
                refine inB_ret <|  thn_ret <|  thn_ret <|  inB_ret <|  thn_ret <| ?_
                refine fin1 ?_
                have hE : askE n ss = 2 := by rw [askE, if_neg (by omega), if_neg (by omega), if_pos (bad_of (by omega) (.inr h5))]
                rw [hE]
                exact ⟨rfl, rfl⟩
              · refine J.skip ?_
                refine J.region ?_
                refine L.va rfl (X.add rfl rfl (by omega)) ?_
                refine L.va rfl (X.move (by conv => lhs; whnf)) ?_
                refine L.nil ?_
                -- loopend
                refine ⟨i + 1, At1 (by first | rfl | exact at_int rfl (by omega) | exact at_slice rfl (by omega) | exact at_int rfl (by simp)), (by (iterate 13 refine Agr.lk rfl ?_); exact Agr.lk rfl (Agr.hav rfl Agr.rfl')), ?_⟩
                refine ⟨⟨rfl, by omega, fun j hj => ?_⟩, by omega⟩
                rcases Nat.lt_or_ge j i with h | h
                · exact hP j h
                · obtain rfl : j = i := by omega
                  omega
          · obtain rfl : i = q := by omega
            refine J.exit ?_
            refine J.seq ?_
            refine J.region ?_
            refine L.va rfl (X.assign (by conv => lhs; whnf)) ?_
            refine L.nil ?_
            -- ret
            refine J.ret ?_
            refine fin1 ?_
            have hE : askE n ss = 0 := by rw [askE, if_neg (by omega), if_neg (by omega), if_neg (ok_of hl hP)]
            rw [hE]
            exact ⟨rfl, rfl⟩
theorem made_nums (k : IntKind) (q : Nat) : madeCells (Value.int k 0).cells (q * 1) = (nums k (List.replicate q 0)).toArray := by
  rw [Nat.mul_one]
  apply Array.ext'
  rw [show (Value.int k 0).cells = #[.int k 0] from rfl, toList_madeCells_one]
  simp [nums]
theorem rep_set (i q : Nat) (z : Int) (h : i < q) : (List.replicate i z ++ List.replicate (q - i) 0).set i z = List.replicate (i + 1) z ++ List.replicate (q - (i + 1)) 0 := by
  obtain ⟨d, hd⟩ : ∃ d, q - i = d + 1 := ⟨q - i - 1, by omega⟩
  rw [hd, show q - (i + 1) = d by omega, List.replicate_succ' (n := i), List.replicate_succ, List.set_append_right _ _ (by simp)]
  simp
theorem outs_nil (ss : List Int) : outs ss [] = List.replicate ss.length (lastS ss) := by
  have : mn ss [] = fun _ => lastS ss := rfl
  unfold outs
  rw [this, List.map_const', List.length_range]
theorem advcosts_any (A : Option Addr) (q c : Nat) (ss : List Int) (w : World) (hr : Reads w w.heap.size 1 A q (nums .i64 ss)) (hq : q ≤ 64) (hq0 : 0 < q) :
    Calls Try.prog 65 #[.slice A q c] w fun e w' => ∃ A' c', e = .returned (.slice A' q c') ∧ w'.ownsRow w.heap.size 2 1 (.slice A' q c') q (nums .i64 (outs ss [])) ∧ Ext w w' := by
  have hl : ss.length = q := by have := hr.1; simpa [nums] using this
  refine enter Try.func65 rfl (by kernel_rfl) ?_
  refine J.seq ?_
  refine J.region ?_
  refine L.va rfl (X.assign (by conv => lhs; whnf)) ?_
  refine L.nil ?_
  refine J.seq ?_
  refine J.region ?_
  refine L.va rfl (X.move (by conv => lhs; whnf)) ?_
  refine L.va rfl (X.len rfl Try.underlying22) ?_
  -- makeSlice
  refine L.make rfl rfl rfl Try.underlying22 el_2 (by omega) ?_
  intro b w1 hb hs hk he
  rw [made_nums] at hk
  have ho : w1.ownsRow w.heap.size 2 1 (.slice (some ⟨b, 0, none⟩) q q) q (nums .i64 (List.replicate q 0)) := blk_own1 hk (by omega) (by unfold maxLen; omega) (by simp [nums])
  refine L.va rfl (X.assign (by conv => lhs; whnf)) ?_
  refine L.nil ?_
  -- until
  refine J.seq ?_
  refine J.seq ?_
  refine J.region ?_
  refine L.va rfl (X.move (by conv => lhs; whnf)) ?_
  refine L.va rfl (X.len rfl Try.underlying22) ?_
  refine L.va rfl (X.move (by conv => lhs; whnf)) ?_
  refine L.nil ?_
  refine J.block ?_
  -- loop
  refine J.loop (X := Nat) [4, 10, 11, 12, 13, 14, 15, 16, 17, 18, 19, 20, 21, 22] (fun i => [(10, .int .i64 (i : Int))]) (fun i w' => i ≤ q ∧ w'.ownsRow w.heap.size 2 1 (.slice (some ⟨b, 0, none⟩) q q) q (nums .i64 (List.replicate i (lastS ss) ++ List.replicate (q - i) 0)) ∧ Ext w w') (fun i => q - i) (0) (At1 (by first | rfl | exact at_int rfl (by omega) | exact at_slice rfl (by omega) | exact at_int rfl (by simp))) ?_ ?_
  · exact ⟨by omega, ho, he⟩
  · rintro i g w2 ⟨hi, ho2, he2⟩
    have hr2 := hr.ext he2
    have hlast : ss.getD (q - 1) 0 = lastS ss := by unfold lastS; rw [hl]
    have hz2 := he2.le
    refine J.seq ?_
    refine J.region ?_
    refine L.va rfl (X.lss rfl rfl) ?_
    refine L.nil ?_
    refine J.seq ?_
    -- cond
    refine J.dec rfl (fun hlt => ?_) (fun hlt => ?_)
    · have e1 : (q : Int) - 1 = ((q - 1 : Nat) : Int) := by omega
      refine J.skip ?_
      refine J.seq ?_
      refine J.block ?_
      refine J.seq ?_
      refine J.region ?_
      refine L.va rfl (X.move (by conv => lhs; whnf)) ?_
      refine L.va rfl (X.assign (by conv => lhs; whnf)) ?_
      refine L.nil ?_
      refine J.region ?_
      refine L.va rfl (X.move (by conv => lhs; whnf)) ?_
      refine L.va rfl (X.move (by conv => lhs; whnf)) ?_
      refine L.va rfl (X.move (by conv => lhs; whnf)) ?_
      refine L.va rfl (X.move (by conv => lhs; whnf)) ?_
      refine L.va rfl (X.len rfl Try.underlying22) ?_
      refine L.va rfl (X.sub rfl rfl (by omega)) ?_
      refine L.va rfl ((by first | exact X.index1n rfl rfl Try.underlying22 sz_2 (by first | exact Option.some_ne_none _ | exact hr2.some_ (by omega) | exact own_ne ho2 (by omega)) (by omega) | exact X.index1 rfl rfl Try.underlying22 sz_2 (by first | exact Option.some_ne_none _ | exact hr2.some_ (by omega) | exact own_ne ho2 (by omega)) (by omega))) ?_
      refine L.va rfl (X.load rfl sc_2 (by first | exact Ld.num hr2 (by omega) | exact Ld.own ho2 (by omega))) ?_
      refine L.va rfl ((by first | exact X.index1n rfl rfl Try.underlying22 sz_2 (by first | exact Option.some_ne_none _ | exact hr2.some_ (by omega) | exact own_ne ho2 (by omega)) (by omega) | exact X.index1 rfl rfl Try.underlying22 sz_2 (by first | exact Option.some_ne_none _ | exact hr2.some_ (by omega) | exact own_ne ho2 (by omega)) (by omega))) ?_
      -- store
      -- store
      refine L.storeON rfl rfl (by conv => lhs; whnf) sz_2 (ho2) (by omega) ?_
      intro w3 ho3 hg3 hb3 hs3
      rw [show ((q : Int) - 1).toNat = q - 1 by omega, hlast, rep_set i q _ (by omega)] at ho3
      refine L.nil ?_
      refine J.region ?_
      refine L.va rfl (X.add rfl rfl (by omega)) ?_
      refine L.va rfl (X.move (by conv => lhs; whnf)) ?_
      refine L.nil ?_
      -- loopend
      refine ⟨i + 1, At1 (by first | rfl | exact at_int rfl (by omega) | exact at_slice rfl (by omega) | exact at_int rfl (by simp)), (by (iterate 14 refine Agr.lk rfl ?_); exact Agr.lk rfl (Agr.hav rfl Agr.rfl')), ?_⟩
      exact ⟨⟨by omega, ho3, Below.trans he2 hb3⟩, by omega⟩
    · obtain rfl : i = q := by omega
      refine J.exit ?_
      refine J.seq ?_
      refine J.region ?_
      refine L.va rfl (X.move (by conv => lhs; whnf)) ?_
      refine L.va rfl (X.assign (by conv => lhs; whnf)) ?_
      refine L.nil ?_
      -- ret
      refine J.ret ?_
      refine fin1 ?_
      rw [Nat.sub_self] at ho2
      exact ⟨_, _, rfl, by rw [outs_nil, hl]; simpa using ho2, he2⟩
end Go.Proofs.Ytkipdkkpifnboaa
