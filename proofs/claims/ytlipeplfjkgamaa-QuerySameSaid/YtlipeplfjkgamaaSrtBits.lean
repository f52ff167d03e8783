/-
  Go's bits.Len, the next power of two, and the random numbers of the sort, walked.
-/
import Derived.Test.YtlipeplfjkgamaaSrtPlain
import Derived.Test.YtlipeplfjkgamaaLogic
import Derived.Test.YtlipeplfjkgamaaTyps
import Derived.Laws.BitsAllLaws
namespace Go.Proofs.Ytlipeplfjkgamaa
set_option maxRecDepth 100000
open Go.RowKit H
set_option linter.unusedVariables false
theorem wrapU (m : Int) (h : 0 ≤ m ∧ m ≤ 18446744073709551615) : IntKind.u64.wrap m = m := by simp [IntKind.wrap, IntKind.bits, IntKind.signed]; omega
theorem wrapU_in (m : Int) : 0 ≤ IntKind.u64.wrap m ∧ IntKind.u64.wrap m ≤ 18446744073709551615 := by simp [IntKind.wrap, IntKind.bits, IntKind.signed]; omega
theorem xorU {x : Nat} {m : Int} (hx : x < 18446744073709551616) (hm : 0 ≤ m ∧ m ≤ 18446744073709551615) : ∃ y : Nat, bits .xor .u64 (x : Int) m = (y : Int) ∧ y < 18446744073709551616 := by
  obtain ⟨k, rfl⟩ := Int.eq_ofNat_of_zero_le hm.1
  exact ⟨x ^^^ k, u64_xor_nat x k hx (by omega), Nat.xor_lt_two_pow (n := 64) hx (by omega)⟩
/-- so many binary digits -/
def Dig (x n : Nat) : Prop := x < 2 ^ n ∧ (x = 0 ∨ 2 ^ n ≤ 2 * x)
theorem Dig.up {x k n : Nat} (h : Dig (x / 2 ^ k) n) (h0 : k = 0 ∨ 0 < x / 2 ^ k) : Dig x (n + k) := by
  have hp : 0 < 2 ^ k := Nat.pow_pos (by decide)
  refine ⟨?_, ?_⟩
  · have := (Nat.div_lt_iff_lt_mul hp).1 h.1
    rwa [← Nat.pow_add] at this
  · rcases h0 with rfl | h0
    · have := h.2
      simpa using this
    · rcases h.2 with h2 | h2
      · omega
      · refine .inr ?_
        have h3 : x / 2 ^ k * 2 ^ k ≤ x := Nat.div_mul_le_self x (2 ^ k)
        have h4 := Nat.mul_le_mul_right (2 ^ k) h2
        rw [← Nat.pow_add, Nat.mul_assoc] at h4
        omega
def tab8 : List Nat := [0, 1, 2, 2, 3, 3, 3, 3, 4, 4, 4, 4, 4, 4, 4, 4, 5, 5, 5, 5, 5, 5, 5, 5, 5, 5, 5, 5, 5, 5, 5, 5] ++ List.replicate 32 6 ++ List.replicate 64 7 ++ List.replicate 128 8
theorem X.tab {P : Program} {w : World} {f : Operand → Value} {x y : Operand} {d : Option Tmp} {t ty : TypeId} {pos : String} {aft : Array Edge} {g : Option (Nat × Bool)} {k : IntKind} {s : ByteArray} {m : Nat} (hx : f x = .string s) (hy : f y = .int k (m : Int)) (ht : P.underlying t = some .string) (hs : s.data.toList.map (fun b => b.toNat) = tab8) (hm : m < 256) : (execOp f ⟨d, .index t x y, ty, pos, aft, g⟩).run P w = .ok (.value (.int .u8 ((tab8.getD m 0 : Nat) : Int))) w := by
  have hl : s.data.toList.length = 256 := by
    have := congrArg List.length hs
    rw [List.length_map] at this
    rw [this]
    rfl
  have hz : s.size = 256 := by rw [← hl]; simp
  have e : (s.data.toList.getD m 0).toNat = tab8.getD m 0 := by
    rw [← hs, List.getD, List.getD, List.getElem?_map, List.getElem?_eq_getElem (by omega)]
    rfl
  have := X.indexStr (P := P) (w := w) (d := d) (ty := ty) (pos := pos) (aft := aft) (g := g) hx hy ht (by omega)
  rw [Int.toNat_natCast, e] at this
  exact this
theorem tab_dig : ∀ x, x < 256 → Dig x (tab8.getD x 0) := by
  unfold Dig
  decide
theorem len64 (x : Nat) (w : World) (hx : x < 18446744073709551616) : Calls Try.prog 249 #[.int .u64 (x : Int)] w fun e w' => ∃ n : Nat, e = .returned (.int .i64 (n : Int)) ∧ n ≤ 70 ∧ Dig x n ∧ w = w' := by
  have e32 : ((x : Int) / 2 ^ min (32 : Int).toNat IntKind.u64.bits) = ((x / 2 ^ 32 : Nat) : Int) := by
    rw [show min (32 : Int).toNat IntKind.u64.bits = 32 from rfl]
    omega
  refine enter Try.func249 rfl (by kernel_rfl) ?_
  refine J.seq ?_
  refine J.region ?_
  refine L.va rfl (X.assign (by conv => lhs; whnf)) ?_
  refine L.nil ?_
  -- until
  refine J.cut (X := Nat × Nat) [0, 2, 3, 4, 5, 6] (fun (y, k) => [(0, .int .u64 (y : Int)), (2, .int .i64 (k : Int))]) (fun (y, k) w' => w = w' ∧ y = x / 2 ^ k ∧ y < 4294967296 ∧ (k = 0 ∨ 0 < y) ∧ k ≤ 32) ?_ ?_
  · refine J.seq ?_
    refine J.region ?_
    refine L.va rfl (X.move (by conv => lhs; whnf)) ?_
    refine L.va rfl (X.geq rfl rfl) ?_
    refine L.nil ?_
    -- cond
    refine J.dec rfl (fun h => ?_) (fun h => ?_)
    · refine J.seq ?_
      refine J.region ?_
      refine L.va rfl (X.move (by conv => lhs; whnf)) ?_
      refine L.va rfl (X.shr rfl rfl (by omega)) ?_
      refine L.va rfl (X.assign (by conv => lhs; whnf)) ?_
      refine L.nil ?_
      refine J.region ?_
      refine L.va rfl (X.assign (by conv => lhs; whnf)) ?_
      refine L.nil ?_
      -- cutend
      refine ⟨(x / 2 ^ 32, 32), At2 (at_int rfl e32) (rfl), (by (iterate 6 refine Agr.lk rfl ?_); exact Agr.rfl'), ?_⟩
      have h2 : (2 : Nat) ^ 32 = 4294967296 := by decide
      rw [h2]
      exact ⟨rfl, rfl, by omega, .inr (by omega), by omega⟩
    · refine J.skip ?_
      -- cutend
      refine ⟨(x, 0), At2 (by first | rfl | exact at_int rfl (by omega) | exact at_slice rfl (by omega) | exact at_int rfl (by simp)) (by first | rfl | exact at_int rfl (by omega) | exact at_slice rfl (by omega) | exact at_int rfl (by simp)), (by (iterate 2 refine Agr.lk rfl ?_); exact Agr.rfl'), ?_⟩
      exact ⟨rfl, by simp, by omega, .inl rfl, by omega⟩
  · rintro ⟨y, k⟩ g w1 ⟨rfl, hy, hlt, h0, hk⟩
    have e16 : ((y : Int) / 2 ^ min (16 : Int).toNat IntKind.u64.bits) = ((y / 2 ^ 16 : Nat) : Int) := by
      rw [show min (16 : Int).toNat IntKind.u64.bits = 16 from rfl]
      omega
    -- until
    refine J.cut (X := Nat × Nat) [0, 2, 7, 8, 9, 10, 11, 12] (fun (y, k) => [(0, .int .u64 (y : Int)), (2, .int .i64 (k : Int))]) (fun (y, k) w' => w = w' ∧ y = x / 2 ^ k ∧ y < 65536 ∧ (k = 0 ∨ 0 < y) ∧ k ≤ 48) ?_ ?_
    · refine J.seq ?_
      refine J.region ?_
      refine L.va rfl (X.move (by conv => lhs; whnf)) ?_
      refine L.va rfl (X.geq rfl rfl) ?_
      refine L.nil ?_
      -- cond
      refine J.dec rfl (fun h => ?_) (fun h => ?_)
      · refine J.seq ?_
        refine J.region ?_
        refine L.va rfl (X.move (by conv => lhs; whnf)) ?_
        refine L.va rfl (X.shr rfl rfl (by omega)) ?_
        refine L.va rfl (X.assign (by conv => lhs; whnf)) ?_
        refine L.nil ?_
        refine J.region ?_
        refine L.va rfl (X.move (by conv => lhs; whnf)) ?_
        refine L.va rfl (X.add rfl rfl (by omega)) ?_
        refine L.va rfl (X.assign (by conv => lhs; whnf)) ?_
        refine L.nil ?_
        -- cutend
        refine ⟨(y / 2 ^ 16, k + 16), At2 (at_int rfl e16) (rfl), (by (iterate 8 refine Agr.lk rfl ?_); exact Agr.rfl'), ?_⟩
        have h2 : (2 : Nat) ^ 16 = 65536 := by decide
        refine ⟨rfl, by rw [hy, Nat.div_div_eq_div_mul, ← Nat.pow_add], ?_, .inr ?_, by omega⟩ <;> rw [h2] <;> omega
      · refine J.skip ?_
        -- cutend
        refine ⟨(y, k), At2 (by first | rfl | exact at_int rfl (by omega) | exact at_slice rfl (by omega) | exact at_int rfl (by simp)) (by first | rfl | exact at_int rfl (by omega) | exact at_slice rfl (by omega) | exact at_int rfl (by simp)), (by (iterate 2 refine Agr.lk rfl ?_); exact Agr.rfl'), ?_⟩
        exact ⟨rfl, hy, by omega, h0, by omega⟩
    · rintro ⟨y, k⟩ g w1 ⟨rfl, hy, hlt, h0, hk⟩
      have e8 : ((y : Int) / 2 ^ min (8 : Int).toNat IntKind.u64.bits) = ((y / 2 ^ 8 : Nat) : Int) := by
        rw [show min (8 : Int).toNat IntKind.u64.bits = 8 from rfl]
        omega
      -- until
      refine J.cut (X := Nat × Nat) [0, 2, 13, 14, 15, 16, 17, 18] (fun (y, k) => [(0, .int .u64 (y : Int)), (2, .int .i64 (k : Int))]) (fun (y, k) w' => w = w' ∧ y = x / 2 ^ k ∧ y < 256 ∧ (k = 0 ∨ 0 < y) ∧ k ≤ 56) ?_ ?_
      · refine J.seq ?_
        refine J.region ?_
        refine L.va rfl (X.move (by conv => lhs; whnf)) ?_
        refine L.va rfl (X.geq rfl rfl) ?_
        refine L.nil ?_
        -- cond
        refine J.dec rfl (fun h => ?_) (fun h => ?_)
        · refine J.seq ?_
          refine J.region ?_
          refine L.va rfl (X.move (by conv => lhs; whnf)) ?_
          refine L.va rfl (X.shr rfl rfl (by omega)) ?_
          refine L.va rfl (X.assign (by conv => lhs; whnf)) ?_
          refine L.nil ?_
          refine J.region ?_
          refine L.va rfl (X.move (by conv => lhs; whnf)) ?_
          refine L.va rfl (X.add rfl rfl (by omega)) ?_
          refine L.va rfl (X.assign (by conv => lhs; whnf)) ?_
          refine L.nil ?_
          -- cutend
          refine ⟨(y / 2 ^ 8, k + 8), At2 (at_int rfl e8) (rfl), (by (iterate 8 refine Agr.lk rfl ?_); exact Agr.rfl'), ?_⟩
          have h2 : (2 : Nat) ^ 8 = 256 := by decide
          refine ⟨rfl, by rw [hy, Nat.div_div_eq_div_mul, ← Nat.pow_add], ?_, .inr ?_, by omega⟩ <;> rw [h2] <;> omega
        · refine J.skip ?_
          -- cutend
          refine ⟨(y, k), At2 (by first | rfl | exact at_int rfl (by omega) | exact at_slice rfl (by omega) | exact at_int rfl (by simp)) (by first | rfl | exact at_int rfl (by omega) | exact at_slice rfl (by omega) | exact at_int rfl (by simp)), (by (iterate 2 refine Agr.lk rfl ?_); exact Agr.rfl'), ?_⟩
          exact ⟨rfl, hy, by omega, h0, by omega⟩
      · rintro ⟨y, k⟩ g w1 ⟨rfl, hy, hlt, h0, hk⟩
        have ht := tab_dig y hlt
        have ht8 : tab8.getD y 0 ≤ 8 := by
          rcases Nat.lt_or_ge 8 (tab8.getD y 0) with h | h
          · have := Nat.pow_le_pow_right (n := 2) (by decide) h
            rcases ht.2 with h2 | h2
            · subst h2; exact absurd h (by decide)
            · have h3 : (2 : Nat) ^ (8 + 1) = 512 := by decide
              omega
          · exact h
        -- t22
        refine J.seq ?_
        refine J.region ?_
        refine L.va rfl (X.move (by conv => lhs; whnf)) ?_
        refine L.va rfl (X.move (by conv => lhs; whnf)) ?_
        refine L.va rfl ((by first | exact X.conv8 rfl is_90 Try.underlying5 (by omega) | exact X.convw rfl is_90 Try.underlying5)) ?_
        refine L.va rfl (X.tab rfl rfl Try.underlying9 rfl hlt) ?_
        refine L.va rfl ((by first | exact X.convI rfl is_5 Try.underlying3 (by omega) | exact X.convw rfl is_5 Try.underlying3)) ?_
        refine L.va rfl (X.add rfl rfl (by omega)) ?_
        refine L.va rfl (X.assign (by conv => lhs; whnf)) ?_
        refine L.nil ?_
        -- ret
        refine J.ret ?_
        refine fin1 ?_
        refine ⟨k + tab8.getD y 0, congrArg (fun z => Ending.returned (.int .i64 z)) (by omega), by omega, ?_, rfl⟩
        rw [Nat.add_comm]
        exact Dig.up (by rw [← hy]; exact ht) (by rw [← hy]; exact h0)
theorem len_ (x : Nat) (w : World) (hx : x < 18446744073709551616) : Calls Try.prog 194 #[.int .u64 (x : Int)] w fun e w' => ∃ n : Nat, e = .returned (.int .i64 (n : Int)) ∧ n ≤ 70 ∧ Dig x n ∧ w = w' := by
  refine enter Try.func194 rfl (by kernel_rfl) ?_
  refine J.seq ?_
  refine J.region ?_
  refine L.va rfl (X.assign (by conv => lhs; whnf)) ?_
  refine L.nil ?_
  refine J.seq ?_
  -- cond
  refine J.iteF rfl ?_
  refine J.skip ?_
  refine J.seq ?_
  refine J.region ?_
  refine L.va rfl (X.move (by conv => lhs; whnf)) ?_
  -- callfn math/bits.Len64
  refine L.call rfl en_249 rfl (len64 x w hx) ?_
  rintro e _ ⟨n, rfl, hn, hd, rfl⟩
  refine ⟨_, rfl, ?_⟩
  refine L.va rfl (X.assign (by conv => lhs; whnf)) ?_
  refine L.nil ?_
  -- ret
  refine J.ret ?_
  refine fin1 ?_
  exact ⟨n, rfl, hn, hd, rfl⟩
theorem nextp (x : Nat) (w : World) (hx : x < 1000000) (h0 : 0 < x) : Calls Try.prog 281 #[.int .i64 (x : Int)] w fun e w' => ∃ m : Nat, e = .returned (.int .u64 (m : Int)) ∧ 0 < m ∧ m ≤ 2 * x ∧ w = w' := by
  refine enter Try.func281 rfl (by kernel_rfl) ?_
  refine J.seq ?_
  refine J.region ?_
  refine L.va rfl (X.assign (by conv => lhs; whnf)) ?_
  refine L.nil ?_
  refine J.seq ?_
  refine J.region ?_
  refine L.va rfl (X.move (by conv => lhs; whnf)) ?_
  refine L.va rfl ((by first | exact X.convU rfl is_3 Try.underlying255 (by omega) | exact X.convw rfl is_3 Try.underlying255)) ?_
  -- callfn math/bits.Len
  refine L.call rfl en_194 rfl (len_ x w (by omega)) ?_
  rintro e _ ⟨n, rfl, hn, hd, rfl⟩
  refine ⟨_, rfl, ?_⟩
  have hn21 : n ≤ 21 := by
    rcases Nat.lt_or_ge 21 n with h | h
    · have := Nat.pow_le_pow_right (n := 2) (by decide) h
      rcases hd.2 with h2 | h2
      · omega
      · have h3 : (2 : Nat) ^ (21 + 1) = 4194304 := by decide
        omega
    · exact h
  have hp : (2 : Nat) ^ n ≤ 2097152 := by
    have := Nat.pow_le_pow_right (n := 2) (by decide) hn21
    have h3 : (2 : Nat) ^ 21 = 2097152 := by decide
    omega
  have e : IntKind.u64.wrap (1 * 2 ^ min (n : Int).toNat IntKind.u64.bits) = ((2 ^ n : Nat) : Int) := by
    rw [show min (n : Int).toNat IntKind.u64.bits = n by rw [Int.toNat_natCast]; show min n 64 = n; omega]
    have : (1 : Int) * 2 ^ n = ((2 ^ n : Nat) : Int) := by rw [Int.one_mul]; push_cast; rfl
    rw [this]
    exact wrapU _ ⟨Int.natCast_nonneg _, Int.ofNat_le.2 (show 2 ^ n ≤ 18446744073709551615 by omega)⟩
  refine L.va rfl (X.shl rfl rfl (by omega)) ?_
  refine L.va rfl (X.assign (by conv => lhs; whnf)) ?_
  refine L.nil ?_
  -- ret
  refine J.ret ?_
  refine fin1 ?_
  exact ⟨2 ^ n, congrArg (fun z => Ending.returned (.int .u64 z)) e, Nat.pow_pos (by decide), by
    rcases hd.2 with h | h
    · omega
    · exact h, rfl⟩
theorem xnext (rb x : Nat) (w : World) (hb : Blk w rb 329 #[.int .u64 (x : Int)]) (hx : x < 18446744073709551616) : Calls Try.prog 282 #[.pointer (some ⟨rb, 0, none⟩)] w fun e w' => ∃ y : Nat, e = .returned (.int .u64 (y : Int)) ∧ y < 18446744073709551616 ∧ Blk w' rb 329 #[.int .u64 (y : Int)] ∧ w.grownBy w' (some rb) := by
  obtain ⟨x1, e1, h1⟩ := xorU hx (wrapU_in ((x : Int) * 2 ^ min (13 : Int).toNat IntKind.u64.bits))
  obtain ⟨x2, e2, h2⟩ := xorU (x := x1) (m := (x1 : Int) / 2 ^ min (7 : Int).toNat IntKind.u64.bits) h1 (by rw [show min (7 : Int).toNat IntKind.u64.bits = 7 from rfl]; omega)
  obtain ⟨x3, e3, h3⟩ := xorU h2 (wrapU_in ((x2 : Int) * 2 ^ min (17 : Int).toNat IntKind.u64.bits))
  refine enter Try.func282 rfl (by kernel_rfl) ?_
  refine J.seq ?_
  refine J.region ?_
  refine L.va rfl (X.assign (by conv => lhs; whnf)) ?_
  refine L.nil ?_
  refine J.seq ?_
  -- draw
  refine J.draw (ℓ := 9) (S := (fun w' => Blk w' rb 329 #[.int .u64 (x : Int)])) mixed (fun w1 hSE hS_h => ?_)
  have hS : ((fun w' => Blk w' rb 329 #[.int .u64 (x : Int)])) w1 := hb.ext hSE
  have g1 : w.grownBy w1 (some rb) := grown_ext hSE
  refine D.va 0 rfl (by kernel_rfl) (fun _ _ _ h => h) rfl (fun w' hw => X.move (by conv => lhs; whnf)) hS ?_
  refine D.va 1 rfl (by kernel_rfl) (fun _ _ _ h => h) rfl (fun w' hw => X.nilCheck rfl) hS ?_
  refine D.va 2 rfl (by kernel_rfl) (fun _ _ _ h => h) rfl (fun w' hw => X.load rfl sc_329 (by first | exact Ld.blk hw rfl)) hS ?_
  refine D.va 3 rfl (by kernel_rfl) (fun _ _ _ h => h) rfl (fun w' hw => X.move (by conv => lhs; whnf)) hS ?_
  refine D.va 4 rfl (by kernel_rfl) (fun _ _ _ h => h) rfl (fun w' hw => X.nilCheck rfl) hS ?_
  refine D.va 5 rfl (by kernel_rfl) (fun _ _ _ h => h) rfl (fun w' hw => X.load rfl sc_329 (by first | exact Ld.blk hw rfl)) hS ?_
  refine D.va 6 rfl (by kernel_rfl) (fun _ _ _ h => h) rfl (fun w' hw => X.shl rfl rfl (by omega)) hS ?_
  refine D.va 7 rfl (by kernel_rfl) (fun _ _ _ h => h) rfl (fun w' hw => X.xor rfl rfl) hS ?_
  refine D.va 8 rfl (by kernel_rfl) (fun _ _ _ h => h) rfl (fun w' hw => X.nilCheck rfl) hS ?_
  -- store
  rw [e1]
  refine D.one 9 (by kernel_rfl) rfl ?_
  refine L.store rfl rfl (by conv => lhs; whnf) rfl sz_329 (hS) (by first | decide | exact Nat.le_of_ble_eq_true rfl) ?_
  intro w2 hk2 hg2 hs2
  refine L.nil ?_
  refine ⟨fun h => absurd rfl h, ?_⟩
  have hk2 : Blk w2 rb 329 #[.int .u64 (x1 : Int)] := hk2
  refine D.done (by kernel_rfl) ?_
  refine J.seq ?_
  -- draw
  refine J.draw (ℓ := 9) (S := (fun w' => Blk w' rb 329 #[.int .u64 (x1 : Int)])) mixed (fun w3 hTE hT_h => ?_)
  have hT : ((fun w' => Blk w' rb 329 #[.int .u64 (x1 : Int)])) w3 := hk2.ext hTE
  have g3 : w.grownBy w3 (some rb) := grb_trans (grb_trans g1 hg2) (grown_ext hTE)
  refine D.va 0 rfl (by kernel_rfl) (fun _ _ _ h => h) rfl (fun w' hw => X.move (by conv => lhs; whnf)) hT ?_
  refine D.va 1 rfl (by kernel_rfl) (fun _ _ _ h => h) rfl (fun w' hw => X.nilCheck rfl) hT ?_
  refine D.va 2 rfl (by kernel_rfl) (fun _ _ _ h => h) rfl (fun w' hw => X.load rfl sc_329 (by first | exact Ld.blk hw rfl)) hT ?_
  refine D.va 3 rfl (by kernel_rfl) (fun _ _ _ h => h) rfl (fun w' hw => X.move (by conv => lhs; whnf)) hT ?_
  refine D.va 4 rfl (by kernel_rfl) (fun _ _ _ h => h) rfl (fun w' hw => X.nilCheck rfl) hT ?_
  refine D.va 5 rfl (by kernel_rfl) (fun _ _ _ h => h) rfl (fun w' hw => X.load rfl sc_329 (by first | exact Ld.blk hw rfl)) hT ?_
  refine D.va 6 rfl (by kernel_rfl) (fun _ _ _ h => h) rfl (fun w' hw => X.shr rfl rfl (by omega)) hT ?_
  refine D.va 7 rfl (by kernel_rfl) (fun _ _ _ h => h) rfl (fun w' hw => X.xor rfl rfl) hT ?_
  refine D.va 8 rfl (by kernel_rfl) (fun _ _ _ h => h) rfl (fun w' hw => X.nilCheck rfl) hT ?_
  -- store
  rw [e2]
  refine D.one 9 (by kernel_rfl) rfl ?_
  refine L.store rfl rfl (by conv => lhs; whnf) rfl sz_329 (hT) (by first | decide | exact Nat.le_of_ble_eq_true rfl) ?_
  intro w4 hk4 hg4 hs4
  refine L.nil ?_
  refine ⟨fun h => absurd rfl h, ?_⟩
  have hk4 : Blk w4 rb 329 #[.int .u64 (x2 : Int)] := hk4
  refine D.done (by kernel_rfl) ?_
  refine J.seq ?_
  -- draw
  refine J.draw (ℓ := 9) (S := (fun w' => Blk w' rb 329 #[.int .u64 (x2 : Int)])) mixed (fun w5 hUE hU_h => ?_)
  have hU : ((fun w' => Blk w' rb 329 #[.int .u64 (x2 : Int)])) w5 := hk4.ext hUE
  have g5 : w.grownBy w5 (some rb) := grb_trans (grb_trans g3 hg4) (grown_ext hUE)
  refine D.va 0 rfl (by kernel_rfl) (fun _ _ _ h => h) rfl (fun w' hw => X.move (by conv => lhs; whnf)) hU ?_
  refine D.va 1 rfl (by kernel_rfl) (fun _ _ _ h => h) rfl (fun w' hw => X.nilCheck rfl) hU ?_
  refine D.va 2 rfl (by kernel_rfl) (fun _ _ _ h => h) rfl (fun w' hw => X.load rfl sc_329 (by first | exact Ld.blk hw rfl)) hU ?_
  refine D.va 3 rfl (by kernel_rfl) (fun _ _ _ h => h) rfl (fun w' hw => X.move (by conv => lhs; whnf)) hU ?_
  refine D.va 4 rfl (by kernel_rfl) (fun _ _ _ h => h) rfl (fun w' hw => X.nilCheck rfl) hU ?_
  refine D.va 5 rfl (by kernel_rfl) (fun _ _ _ h => h) rfl (fun w' hw => X.load rfl sc_329 (by first | exact Ld.blk hw rfl)) hU ?_
  refine D.va 6 rfl (by kernel_rfl) (fun _ _ _ h => h) rfl (fun w' hw => X.shl rfl rfl (by omega)) hU ?_
  refine D.va 7 rfl (by kernel_rfl) (fun _ _ _ h => h) rfl (fun w' hw => X.xor rfl rfl) hU ?_
  refine D.va 8 rfl (by kernel_rfl) (fun _ _ _ h => h) rfl (fun w' hw => X.nilCheck rfl) hU ?_
  -- store
  rw [e3]
  refine D.one 9 (by kernel_rfl) rfl ?_
  refine L.store rfl rfl (by conv => lhs; whnf) rfl sz_329 (hU) (by first | decide | exact Nat.le_of_ble_eq_true rfl) ?_
  intro w6 hk6 hg6 hs6
  refine L.nil ?_
  refine ⟨fun h => absurd rfl h, ?_⟩
  have hk6 : Blk w6 rb 329 #[.int .u64 (x3 : Int)] := hk6
  refine D.done (by kernel_rfl) ?_
  refine J.seq ?_
  refine J.region ?_
  refine L.va rfl (X.move (by conv => lhs; whnf)) ?_
  refine L.va rfl (X.nilCheck rfl) ?_
  refine L.va rfl (X.load rfl sc_329 (by first | exact Ld.blk hk6 rfl)) ?_
  refine L.va rfl (X.assign (by conv => lhs; whnf)) ?_
  refine L.nil ?_
  -- ret
  refine J.ret ?_
  refine fin1 ?_
  exact ⟨x3, rfl, h3, hk6, grb_trans g5 hg6⟩
end Go.Proofs.Ytlipeplfjkgamaa
