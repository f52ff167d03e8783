import Derived.Test.YtmnlaekcojblkaaTextP
import Derived.Test.YtmnlaekcojblkaaLogic
import Derived.Test.YtmnlaekcojblkaaTyps
/-
  Package code: the codes of numbers from 0 on, laid and read; its reference's.
-/
namespace Go.Proofs.Ytmnlaekcojblkaa
set_option maxRecDepth 100000
open Go.RowKit H
open Byts Cod
set_option linter.unusedVariables false
theorem getDb {zs : List Int} (hz : ∀ z ∈ zs, 0 ≤ z ∧ z < 256) (i : Nat) : 0 ≤ zs.getD i 0 ∧ zs.getD i 0 < 256 := by
  rcases Nat.lt_or_ge i zs.length with h | h
  · have e : zs.getD i 0 = zs[i] := by simp [List.getD, h]
    rw [e]
    exact hz _ (List.getElem_mem h)
  · simp [List.getD, h]
theorem code_wide (x : Int) (w : World) (h0 : 0 ≤ x) (h1 : x ≤ 18446744073709551615) :
    Calls Try.prog 129 #[.int .u64 x] w fun e w' => e = .returned (.int .i64 (wd x : Int)) ∧ w = w' := by
  have h8 := wd_le8 h0 h1
  refine enter Try.func129 rfl (by kernel_rfl) ?_
  refine J.seq ?_
  refine J.region ?_
  refine L.va rfl (X.assign (by conv => lhs; whnf)) ?_
  refine L.nil ?_
  refine J.seq ?_
  refine J.region ?_
  refine L.va rfl (X.assign (by conv => lhs; whnf)) ?_
  refine L.nil ?_
  refine J.seq ?_
  refine J.block ?_
  -- loop
  refine J.loop (X := Nat × Int) [0, 3, 4, 5, 6, 7, 8, 9] (fun s => [(3, .int .i64 (s.1 : Int)), (0, .int .u64 s.2)]) (fun s w' => 0 ≤ s.2 ∧ s.2 ≤ 18446744073709551615 ∧ s.1 + wd s.2 = wd x ∧ w' = w) (fun s => wd s.2) ((0, x)) (At2 (by first | rfl | exact at_int rfl (by omega) | exact at_slice rfl (by omega) | exact at_int rfl (by simp)) (by first | rfl | exact at_int rfl (by omega) | exact at_slice rfl (by omega) | exact at_int rfl (by simp))) ?_ ?_
  · exact ⟨h0, h1, by dsimp only; omega, rfl⟩
  · rintro ⟨k, y⟩ g w2 ⟨y0, y1, hk, rfl⟩
    dsimp only at y0 y1 hk
    refine J.seq ?_
    refine J.seq ?_
    refine J.region ?_
    refine L.va rfl (X.move (by conv => lhs; whnf)) ?_
    refine L.va rfl (X.gtr rfl rfl) ?_
    refine L.nil ?_
    -- cond
    refine J.dec rfl (fun hp => ?_) (fun hp => ?_)
    · have hw := wd_pos (show 0 < y from hp)
      refine J.skip ?_
      refine J.seq ?_
      refine J.block ?_
      refine J.region ?_
      refine L.va rfl (X.move (by conv => lhs; whnf)) ?_
      refine L.va rfl (X.add rfl rfl (by omega)) ?_
      refine L.va rfl (X.assign (by conv => lhs; whnf)) ?_
      refine L.nil ?_
      refine J.region ?_
      refine L.va rfl (X.move (by conv => lhs; whnf)) ?_
      refine L.va rfl (X.shr rfl rfl (by omega)) ?_
      refine L.va rfl (X.assign (by conv => lhs; whnf)) ?_
      refine L.nil ?_
      -- loopend
      refine ⟨(k + 1, y / 256), At2 (by first | rfl | exact at_int rfl (by omega) | exact at_slice rfl (by omega) | exact at_int rfl (by simp)) (by first | rfl | exact at_int rfl (by omega) | exact at_slice rfl (by omega) | exact at_int rfl (by simp)), (by (iterate 8 refine Agr.lk rfl ?_); exact Agr.lk rfl (Agr.hav rfl Agr.rfl')), ?_⟩
      exact ⟨⟨by dsimp only; omega, by dsimp only; omega, by dsimp only; omega, rfl⟩, by dsimp only; omega⟩
    · have hy : y = 0 := by omega
      have hz : wd y = 0 := by rw [hy, wd_zero]
      refine J.exit ?_
      refine J.seq ?_
      refine J.region ?_
      refine L.va rfl (X.move (by conv => lhs; whnf)) ?_
      refine L.va rfl (X.assign (by conv => lhs; whnf)) ?_
      refine L.nil ?_
      -- ret
      refine J.ret ?_
      refine fin1 ?_
      obtain rfl : k = wd x := by omega
      exact ⟨rfl, rfl⟩
theorem byte_at (x : Int) (i : Nat) (h0 : 0 ≤ x) (h : i ≤ 7) {z : Int} (hz : z = 8 * (i : Int)) : IntKind.u8.wrap (x / 2 ^ min z.toNat IntKind.u64.bits) = x / 256 ^ i % 256 := by
  have e : min z.toNat IntKind.u64.bits = 8 * i := by
    rw [show IntKind.u64.bits = 64 from rfl]; omega
  rw [e, show (2 : Int) ^ (8 * i) = 256 ^ i by rw [Int.pow_mul]; rfl]
  rfl
theorem code_bytes (N : Nat) (A : Option Addr) (m c : Nat) (out : List Int) (x : Int) (n : Nat) (w : World) (ho : w.ownsRow N 5 1 (.slice A m c) m (nums .u8 out)) (hN : N ≤ w.heap.size) (hm : m ≤ 1000000) (h8 : n ≤ 8) (h0 : 0 ≤ x) (h1 : x ≤ 18446744073709551615) :
    Calls Try.prog 127 #[.slice A m c, .int .u64 x, .int .i64 (n : Int)] w fun e w' => ∃ A' c', e = .returned (.slice A' (m + n) c') ∧ w'.ownsRow N 5 1 (.slice A' (m + n) c') (m + n) (nums .u8 (out ++ be n x)) ∧ Below N w w' := by
  have hol : out.length = m := by have := ho.1; simpa [nums] using this
  refine enter Try.func127 rfl (by kernel_rfl) ?_
  refine J.seq ?_
  refine J.region ?_
  refine L.va rfl (X.assign (by conv => lhs; whnf)) ?_
  refine L.nil ?_
  refine J.seq ?_
  refine J.seq ?_
  refine J.region ?_
  refine L.va rfl (X.move (by conv => lhs; whnf)) ?_
  refine L.va rfl (X.sub rfl rfl (by omega)) ?_
  refine L.va rfl (X.assign (by conv => lhs; whnf)) ?_
  refine L.nil ?_
  refine J.block ?_
  -- loop
  refine J.loop (X := Nat × Option Addr × Nat) [0, 7, 10, 11, 12, 13, 14, 15, 16, 17, 18, 19, 20, 21] (fun s => [(7, .int .i64 ((n : Int) - 1 - (s.1 : Int))), (0, .slice s.2.1 (m + s.1) s.2.2)]) (fun s w' => s.1 ≤ n ∧ w'.ownsRow N 5 1 (.slice s.2.1 (m + s.1) s.2.2) (m + s.1) (nums .u8 (out ++ (be n x).take s.1)) ∧ Below N w w') (fun s => n - s.1) ((0, A, c)) (At2 (by first | rfl | exact at_int rfl (by omega) | exact at_slice rfl (by omega) | exact at_int rfl (by simp)) (by first | rfl | exact at_int rfl (by omega) | exact at_slice rfl (by omega) | exact at_int rfl (by simp))) ?_ ?_
  · exact ⟨Nat.zero_le _, by simpa using ho, Below.refl _ _⟩
  · rintro ⟨j, B, d⟩ g w2 ⟨hj, hb, he⟩
    dsimp only at hj hb he
    have hz2 := he.size
    refine J.seq ?_
    refine J.seq ?_
    refine J.region ?_
    refine L.va rfl (X.move (by conv => lhs; whnf)) ?_
    refine L.va rfl (X.geq rfl rfl) ?_
    refine L.nil ?_
    -- cond
    refine J.dec rfl (fun hge => ?_) (fun hge => ?_)
    · have hjn : j < n := by omega
      have hbx := byte_at x (n - 1 - j) h0 (by omega) (z := 8 * ((n : Int) - 1 - (j : Int))) (by omega)
      refine J.skip ?_
      refine J.seq ?_
      refine J.block ?_
      refine J.region ?_
      refine L.va rfl (X.move (by conv => lhs; whnf)) ?_
      refine L.va rfl (X.move (by conv => lhs; whnf)) ?_
      refine L.va rfl (X.move (by conv => lhs; whnf)) ?_
      refine L.va rfl (X.mul rfl rfl (by omega)) ?_
      refine L.va rfl (X.shr rfl rfl (by omega)) ?_
      refine L.va rfl ((by first | exact X.conv8 rfl is_123 Try.underlying5 (by omega) | exact X.convw rfl is_123 Try.underlying5)) ?_
      -- buildSlice
      refine L.bslice (vs := [_]) rfl (Evs.cons (by conv => lhs; whnf) Evs.nil) rfl rfl rfl rfl Try.underlying33 sz_5 zr_5 (by decide) ?_
      intro b3 w3 hb3 hs3 hk3 he3
      rw [hbx] at hk3
      -- append
      refine L.appendQ (q := m + (j + 1)) (ys := (out ++ (be n x).take j) ++ [x / 256 ^ (n - 1 - j) % 256]) rfl rfl rfl Try.underlying33 el_5 (hb.ext he3) ((blk_reads (q := 1) (l := nums .u8 [x / 256 ^ (n - 1 - j) % 256]) hk3 (by omega : b3 < w3.heap.size) rfl)) (by omega) (by simp) (by unfold maxLen; omega) (by omega) ?_
      intro A4 c4 w4 ho4 hg4 hb4 hor4
      have e4 : (out ++ (be n x).take j) ++ [x / 256 ^ (n - 1 - j) % 256] = out ++ (be n x).take (j + 1) := by
        rw [List.append_assoc]
        congr 1
        have hl : j < (be n x).length := by rw [be_length]; exact hjn
        rw [List.take_succ_eq_append_getElem hl]
        congr 2
        have := be_getD n x j hjn
        rw [← this]
        simp [List.getD, hl]
      rw [e4] at ho4
      have hbb : Below N w w4 := (he.trans (he3.mono (Nat.le_trans hN hz2))).trans hb4
      refine L.va rfl (X.assign (by conv => lhs; whnf)) ?_
      refine L.nil ?_
      refine J.region ?_
      refine L.va rfl (X.move (by conv => lhs; whnf)) ?_
      refine L.va rfl (X.sub rfl rfl (by omega)) ?_
      refine L.va rfl (X.assign (by conv => lhs; whnf)) ?_
      refine L.nil ?_
      -- loopend
      refine ⟨(j + 1, A4, c4), At2 (by first | rfl | exact at_int rfl (by omega) | exact at_slice rfl (by omega) | exact at_int rfl (by simp)) (by first | rfl | exact at_int rfl (by omega) | exact at_slice rfl (by omega) | exact at_int rfl (by simp)), (by (iterate 14 refine Agr.lk rfl ?_); exact Agr.lk rfl (Agr.hav rfl Agr.rfl')), ?_⟩
      exact ⟨⟨by dsimp only; omega, ho4, hbb⟩, by dsimp only; omega⟩
    · obtain rfl : j = n := by omega
      have e : (be j x).take j = be j x := List.take_of_length_le (by rw [be_length]; exact Nat.le_refl _)
      rw [e] at hb
      refine J.exit ?_
      refine J.seq ?_
      refine J.region ?_
      refine L.va rfl (X.move (by conv => lhs; whnf)) ?_
      refine L.va rfl (X.assign (by conv => lhs; whnf)) ?_
      refine L.nil ?_
      -- ret
      refine J.ret ?_
      refine fin1 ?_
      exact ⟨B, d, rfl, hb, he⟩
theorem num_pre (zs : List Int) (hz : ∀ z ∈ zs, 0 ≤ z ∧ z < 256) {k : Nat} (h8 : k ≤ 8) : 0 ≤ num (zs.take k) ∧ num (zs.take k) ≤ 18446744073709551615 ∧ (k ≤ 7 → num (zs.take k) ≤ 72057594037927935) := by
  have h := num_lt (zs.take k) (fun z h => hz z (List.mem_of_mem_take h))
  have hl : (zs.take k).length ≤ k := by simp; omega
  have h1 := p256 hl
  have h2 : (256 : Int) ^ k ≤ 18446744073709551616 := by
    have := p256 h8
    have e : (256 : Int) ^ 8 = 18446744073709551616 := by decide
    omega
  refine ⟨h.1, by omega, fun h7 => ?_⟩
  have := p256 h7
  have e : (256 : Int) ^ 7 = 72057594037927936 := by decide
  omega
theorem num_next {zs : List Int} {k : Nat} (h : k < zs.length) : num (zs.take (k + 1)) = 256 * num (zs.take k) + zs.getD k 0 := by
  rw [List.take_succ_eq_append_getElem h, num_snoc]
  simp [List.getD, h]
theorem or_next (a b : Int) (ha : 0 ≤ a) (ha1 : a ≤ 72057594037927935) (hb : 0 ≤ b ∧ b < 256) : bits .or .u64 (IntKind.u64.wrap (a * 2 ^ min (8 : Int).toNat IntKind.u64.bits)) b = 256 * a + b := by
  have e0 : a * 2 ^ min (8 : Int).toNat IntKind.u64.bits = 256 * a := by rw [Int.mul_comm]; rfl
  rw [e0, wu64 (by omega), u64_or _ _ (by omega) (by omega) (by omega) (by omega)]
  have e : (256 * a).toNat = a.toNat * 2 ^ 8 := by omega
  rw [e, Nat.mul_comm, ← Nat.two_pow_add_eq_or_of_lt (show b.toNat < 2 ^ 8 by omega)]
  omega
/-- what the bytes behind the first one give -/
def numE (ys : List Int) (n : Nat) : Int × Int := if ys.length < n then (if 0 < ys.length ∧ ys.getD 0 0 = 0 then (0, 6) else (0, 5)) else if 0 < n ∧ ys.getD 0 0 = 0 then (0, 6) else (num (ys.take n), 0)
end Go.Proofs.Ytmnlaekcojblkaa
/-
  Package code: GetU; the reference's U and GetU.
-/
namespace Go.Proofs.Ytmnlaekcojblkaa
set_option maxRecDepth 100000
open Go.RowKit H
open Byts Cod
set_option linter.unusedVariables false
theorem gu_numE {zs : List Int} (hz : ∀ z ∈ zs, 0 ≤ z ∧ z < 256) (hl : zs.length ≠ 0) (hc : zs.getD 0 0 ≤ 8) :
    gu zs = if (numE (zs.drop 1) (zs.getD 0 0).toNat).2 ≠ 0 then (0, 0, (numE (zs.drop 1) (zs.getD 0 0).toNat).2) else ((numE (zs.drop 1) (zs.getD 0 0).toNat).1, (zs.getD 0 0).toNat + 1, 0) := by
  have hb := getDb hz 0
  have hd : (zs.drop 1).length = zs.length - 1 := List.length_drop
  have h1 : (zs.drop 1).getD 0 0 = zs.getD 1 0 := by simp [List.getD]
  unfold gu
  rw [if_neg hl]
  by_cases h6 : 0 < zs.getD 0 0 ∧ 1 < zs.length ∧ zs.getD 1 0 = 0
  · rw [if_pos (.inr h6)]
    have eN : numE (zs.drop 1) (zs.getD 0 0).toNat = (0, 6) := by
      unfold numE
      rw [hd, h1]
      by_cases hs : zs.length - 1 < (zs.getD 0 0).toNat
      · rw [if_pos hs, if_pos ⟨by omega, h6.2.2⟩]
      · rw [if_neg hs, if_pos ⟨by omega, h6.2.2⟩]
    rw [eN]; rfl
  · rw [if_neg (fun h => h.elim (fun h => by omega) h6)]
    by_cases hs : zs.length - 1 < (zs.getD 0 0).toNat
    · have eN : numE (zs.drop 1) (zs.getD 0 0).toNat = (0, 5) := by
        unfold numE
        rw [hd, h1, if_pos hs, if_neg (fun h => h6 ⟨by omega, by omega, h.2⟩)]
      rw [if_pos (by omega), eN]; rfl
    · have eN : numE (zs.drop 1) (zs.getD 0 0).toNat = (num ((zs.drop 1).take (zs.getD 0 0).toNat), 0) := by
        unfold numE
        rw [hd, h1, if_neg hs, if_neg (fun h => h6 ⟨by omega, by omega, h.2⟩)]
      rw [if_neg (by omega), eN]; rfl
theorem be_cons (k : Nat) (x : Int) : be (k + 1) x = (x / 256 ^ k % 256) :: be k x := by
  apply List.ext_getElem
  · simp [be_length]
  · intro i h1 h2
    rw [be_length] at h1
    have g1 := be_getD (k + 1) x i h1
    have e1 : (be (k + 1) x).getD i 0 = (be (k + 1) x)[i]'(by rw [be_length]; exact h1) := by simp [List.getD, be_length, h1]
    rw [← e1, g1]
    cases i with
    | zero => simp
    | succ j =>
      have g2 := be_getD k x j (by omega)
      have e2 : (be k x).getD j 0 = (be k x)[j]'(by rw [be_length]; omega) := by simp [List.getD, be_length, show j < k by omega]
      rw [List.getElem_cons_succ, ← e2, g2, show k + 1 - 1 - (j + 1) = k - 1 - j by omega]
theorem ref_high (x : Int) (w : World) (h0 : 0 ≤ x) (h1 : x ≤ 18446744073709551615) :
    Calls Try.prog 132 #[.int .u64 x, .int .i64 0] w fun e w' => ∃ A' c', e = .returned (.slice A' (wd x) c') ∧ w'.ownsRow w.heap.size 5 1 (.slice A' (wd x) c') (wd x) (nums .u8 (bz x)) ∧ Ext w w' := by
  have h8 := wd_le8 h0 h1
  refine enter Try.func132 rfl (by kernel_rfl) ?_
  refine J.seq ?_
  refine J.region ?_
  refine L.va rfl (X.assign (by conv => lhs; whnf)) ?_
  refine L.nil ?_
  refine J.seq ?_
  refine J.region ?_
  refine L.va rfl (X.assign (by conv => lhs; whnf)) ?_
  refine L.nil ?_
  refine J.seq ?_
  refine J.block ?_
  -- loop
  refine J.loop (X := Nat × Int × Option Addr × Nat) [0, 5, 6, 7, 8, 9, 10, 11, 12, 13, 14, 15, 16, 17, 18, 19, 20, 21] (fun s => [(5, .slice s.2.2.1 s.1 s.2.2.2), (0, .int .u64 s.2.1)]) (fun s w' => s.2.1 = x / 256 ^ s.1 ∧ s.1 + wd s.2.1 = wd x ∧ w'.ownsRow w.heap.size 5 1 (.slice s.2.2.1 s.1 s.2.2.2) s.1 (nums .u8 (be s.1 x)) ∧ Ext w w') (fun s => 8 - s.1) ((0, x, none, 0)) (At2 (by first | rfl | exact at_int rfl (by omega) | exact at_slice rfl (by omega) | exact at_int rfl (by simp)) (by first | rfl | exact at_int rfl (by omega) | exact at_slice rfl (by omega) | exact at_int rfl (by simp))) ?_ ?_
  · exact ⟨by simp, by simp, own_nil _ _ _ _, .refl _⟩
  · rintro ⟨k, y, B, d⟩ g w2 ⟨hy, hk, ho, he⟩
    dsimp only at hy hk ho he
    have y0 : 0 ≤ y := by rw [hy]; exact Int.ediv_nonneg h0 (Int.pow_nonneg (by decide))
    have y1 : y ≤ 18446744073709551615 := by rw [hy]; exact Int.le_trans (Int.ediv_le_self _ h0) h1
    have hz : ((k, y, B, d) : Nat × Int × Option Addr × Nat).2.1 = y := rfl
    have hz2 := he.le
    refine J.seq ?_
    refine J.seq ?_
    refine J.region ?_
    refine L.va rfl (X.move (by conv => lhs; whnf)) ?_
    refine L.va rfl (X.gtr rfl rfl) ?_
    refine L.va rfl (X.move (by conv => lhs; whnf)) ?_
    -- case t8
    refine L.caseDec (k := 8) rfl (fun hp => ?_) (fun hp => ?_)
    · have hs := wd_pos (show 0 < y from hp)
      have hy2 : y / 256 = x / 256 ^ (k + 1) := by rw [hy, Int.ediv_ediv_of_nonneg (Int.pow_nonneg (by decide)), ← Int.pow_succ]
      refine L.no rfl ?_
      refine L.no rfl ?_
      refine L.no rfl ?_
      refine L.no rfl ?_
      refine L.va rfl (X.pickT rfl (by conv => lhs; whnf)) ?_
      refine L.nil ?_
      -- cond
      refine J.iteT rfl ?_
      refine J.skip ?_
      refine J.block ?_
      refine J.seq ?_
      refine J.region ?_
      refine L.va rfl (X.move (by conv => lhs; whnf)) ?_
      refine L.va rfl (X.rem rfl rfl (by omega)) ?_
      refine L.va rfl ((by first | exact X.conv8 rfl is_123 Try.underlying5 (by omega) | exact X.convw rfl is_123 Try.underlying5)) ?_
      -- buildSlice
      refine L.bslice (vs := [_]) rfl (Evs.cons (by conv => lhs; whnf) Evs.nil) rfl rfl rfl rfl Try.underlying33 sz_5 zr_5 (by decide) ?_
      intro b3 w3 hb3 hs3 hk3 he3
      rw [show (y % 256 : Int) = x / 256 ^ k % 256 by rw [hy]] at hk3
      refine L.va rfl (X.move (by conv => lhs; whnf)) ?_
      -- append
      refine L.appendQ (q := k + 1) (ys := [x / 256 ^ k % 256] ++ be k x) rfl rfl rfl Try.underlying33 el_5 ((blk_own1 (l := nums .u8 [x / 256 ^ k % 256]) (q := 1) hk3 (by omega : w.heap.size ≤ b3) (by decide) rfl)) ((Reads.of_own (ho.ext he3))) (by omega) (by simp) (by unfold maxLen; omega) (by omega) ?_
      intro A4 c4 w4 ho4 hg4 hb4 hor4
      rw [show [x / 256 ^ k % 256] ++ be k x = be (k + 1) x from (be_cons k x).symm] at ho4
      refine L.va rfl (X.assign (by conv => lhs; whnf)) ?_
      refine L.nil ?_
      refine J.region ?_
      refine L.va rfl (X.move (by conv => lhs; whnf)) ?_
      refine L.va rfl (X.quoU rfl rfl (by omega)) ?_
      refine L.va rfl (X.assign (by conv => lhs; whnf)) ?_
      refine L.nil ?_
      -- loopend
      refine ⟨(k + 1, y / 256, A4, c4), At2 (by first | rfl | exact at_int rfl (by omega) | exact at_slice rfl (by omega) | exact at_int rfl (by simp)) (by first | rfl | exact at_int rfl (by omega) | exact at_slice rfl (by omega) | exact at_int rfl (by simp)), (by (iterate 19 refine Agr.lk rfl ?_); exact Agr.lk rfl (Agr.hav rfl Agr.rfl')), ?_⟩
      exact ⟨⟨hy2, by dsimp only; omega, ho4, (he.trans he3).low hb4 (Nat.le_refl _)⟩, by dsimp only; omega⟩
    · have hy0 : y = 0 := by omega
      have hw0 : wd y = 0 := by rw [hy0, wd_zero]
      refine L.va rfl (X.move (by conv => lhs; whnf)) ?_
      refine L.va rfl (X.len rfl Try.underlying33) ?_
      refine L.va rfl (X.move (by conv => lhs; whnf)) ?_
      refine L.va rfl (X.lss rfl rfl) ?_
      refine L.va rfl (X.pickF rfl (by conv => lhs; whnf)) ?_
      refine L.nil ?_
      -- cond
      refine J.decF rfl (by omega) ?_
      refine J.exit ?_
      refine J.seq ?_
      refine J.region ?_
      refine L.va rfl (X.move (by conv => lhs; whnf)) ?_
      refine L.va rfl (X.assign (by conv => lhs; whnf)) ?_
      refine L.nil ?_
      -- ret
      refine J.ret ?_
      refine fin1 ?_
      obtain rfl : k = wd x := by omega
      exact ⟨B, d, rfl, ho, he⟩
theorem ref_U (x : Int) (w : World) (h0 : 0 ≤ x) (h1 : x ≤ 18446744073709551615) :
    Calls Try.prog 131 #[.int .u64 x] w fun e w' => ∃ A' c', e = .returned (.slice A' (wd x + 1) c') ∧ w'.ownsRow w.heap.size 5 1 (.slice A' (wd x + 1) c') (wd x + 1) (nums .u8 (cu x)) ∧ Ext w w' := by
  have h8 := wd_le8 h0 h1
  refine enter Try.func131 rfl (by kernel_rfl) ?_
  refine J.seq ?_
  refine J.region ?_
  refine L.va rfl (X.assign (by conv => lhs; whnf)) ?_
  refine L.nil ?_
  refine J.seq ?_
  refine J.region ?_
  refine L.va rfl (X.move (by conv => lhs; whnf)) ?_
  -- callfn bushel/bushelref07.high
  refine L.call rfl en_132 rfl (ref_high x _ h0 h1) ?_
  rintro e w1 ⟨A, c, rfl, ho, he⟩
  refine ⟨_, rfl, ?_⟩
  have hz := he.le
  refine L.va rfl (X.assign (by conv => lhs; whnf)) ?_
  refine L.nil ?_
  refine J.seq ?_
  refine J.region ?_
  refine L.va rfl (X.move (by conv => lhs; whnf)) ?_
  refine L.va rfl (X.len rfl Try.underlying33) ?_
  refine L.va rfl ((by first | exact X.conv8 rfl is_3 Try.underlying5 (by omega) | exact X.convw rfl is_3 Try.underlying5)) ?_
  -- buildSlice
  refine L.bslice (vs := [_]) rfl (Evs.cons (by conv => lhs; whnf) Evs.nil) rfl rfl rfl rfl Try.underlying33 sz_5 zr_5 (by decide) ?_
  intro b3 w3 hb3 hs3 hk3 he3
  refine L.va rfl (X.move (by conv => lhs; whnf)) ?_
  -- append
  refine L.appendQ (q := wd x + 1) (ys := [(wd x : Int)] ++ bz x) rfl rfl rfl Try.underlying33 el_5 ((blk_own1 (l := nums .u8 [(wd x : Int)]) (q := 1) hk3 (by omega : w.heap.size ≤ b3) (by decide) rfl)) ((Reads.of_own (ho.ext he3))) (by omega) (by simp) (by unfold maxLen; omega) (by omega) ?_
  intro A4 c4 w4 ho4 hg4 hb4 hor4
  refine L.va rfl (X.assign (by conv => lhs; whnf)) ?_
  refine L.nil ?_
  -- ret
  refine J.ret ?_
  refine fin1 ?_
  exact ⟨A4, c4, rfl, ho4, (he.trans he3).low hb4 (Nat.le_refl _)⟩
end Go.Proofs.Ytmnlaekcojblkaa
