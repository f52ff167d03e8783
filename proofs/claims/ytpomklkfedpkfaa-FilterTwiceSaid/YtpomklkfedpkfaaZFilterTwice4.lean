import Derived.Laws.BitsAllLaws
import Derived.Test.YtpomklkfedpkfaaZFilterTwice3
/-
  What the law leans on, part 4: SrtBits, SrtIC, SrtIE, SrtID.
-/
namespace Go.Proofs.Ytpomklkfedpkfaa
set_option maxRecDepth 100000
open Go.RowKit H
set_option linter.unusedVariables false
theorem wrapU (m : Int) (h : 0 ≤ m ∧ m ≤ 18446744073709551615) : IntKind.u64.wrap m = m := by simp [IntKind.wrap, IntKind.bits, IntKind.signed]; omega
theorem wrapU_in (m : Int) : 0 ≤ IntKind.u64.wrap m ∧ IntKind.u64.wrap m ≤ 18446744073709551615 := by simp [IntKind.wrap, IntKind.bits, IntKind.signed]; omega
theorem xorU {x : Nat} {m : Int} (hx : x < 18446744073709551616) (hm : 0 ≤ m ∧ m ≤ 18446744073709551615) : ∃ y : Nat, bits .xor .u64 (x : Int) m = (y : Int) ∧ y < 18446744073709551616 := by
  obtain ⟨k, rfl⟩ := Int.eq_ofNat_of_zero_le hm.1
  exact ⟨x ^^^ k, u64_xor_nat x k hx (by omega), Nat.xor_lt_two_pow (n := 64) hx (by omega)⟩
def Dig (x n : Nat) : Prop := x < 2 ^ n ∧ (x = 0 ∨ 2 ^ n ≤ 2 * x)
theorem Dig.up {x k n : Nat} (h : Dig (x / 2 ^ k) n) (h0 : k = 0 ∨ 0 < x / 2 ^ k) : Dig x (n + k) := by
  have hp : 0 < 2 ^ k := Nat.pow_pos (by decide)
  refine ⟨?_, ?_⟩
  · have := (Nat.div_lt_iff_lt_mul hp).1 h.1
    rwa [← Nat.pow_add] at this
  · rcases h0 with rfl | h0
    · have := h.2
      simpa using this
    · rcases h.2 with h2 | h2
      · omega
      · refine .inr ?_
        have h3 : x / 2 ^ k * 2 ^ k ≤ x := Nat.div_mul_le_self x (2 ^ k)
        have h4 := Nat.mul_le_mul_right (2 ^ k) h2
        rw [← Nat.pow_add, Nat.mul_assoc] at h4
        omega
def tab8 : List Nat := [0, 1, 2, 2, 3, 3, 3, 3, 4, 4, 4, 4, 4, 4, 4, 4, 5, 5, 5, 5, 5, 5, 5, 5, 5, 5, 5, 5, 5, 5, 5, 5] ++ List.replicate 32 6 ++ List.replicate 64 7 ++ List.replicate 128 8
theorem X.tab {P : Program} {w : World} {f : Operand → Value} {x y : Operand} {d : Option Tmp} {t ty : TypeId} {pos : String} {aft : Array Edge} {g : Option (Nat × Bool)} {k : IntKind} {s : ByteArray} {m : Nat} (hx : f x = .string s) (hy : f y = .int k (m : Int)) (ht : P.underlying t = some .string) (hs : s.data.toList.map (fun b => b.toNat) = tab8) (hm : m < 256) : (execOp f ⟨d, .index t x y, ty, pos, aft, g⟩).run P w = .ok (.value (.int .u8 ((tab8.getD m 0 : Nat) : Int))) w := by
  have hl : s.data.toList.length = 256 := by
    have := congrArg List.length hs
    rw [List.length_map] at this
    rw [this]
    rfl
  have hz : s.size = 256 := by rw [← hl]; simp
  have e : (s.data.toList.getD m 0).toNat = tab8.getD m 0 := by
    rw [← hs, List.getD, List.getD, List.getElem?_map, List.getElem?_eq_getElem (by omega)]
    rfl
  have := X.indexStr (P := P) (w := w) (d := d) (ty := ty) (pos := pos) (aft := aft) (g := g) hx hy ht (by omega)
  rw [Int.toNat_natCast, e] at this
  exact this
theorem tab_dig : ∀ x, x < 256 → Dig x (tab8.getD x 0) := by
  unfold Dig
  decide
theorem len64 (x : Nat) (w : World) (hx : x < 18446744073709551616) : Calls Try.prog 132 #[.int .u64 (x : Int)] w fun e w' => ∃ n : Nat, e = .returned (.int .i64 (n : Int)) ∧ n ≤ 70 ∧ Dig x n ∧ w = w' := by
  have e32 : ((x : Int) / 2 ^ min (32 : Int).toNat IntKind.u64.bits) = ((x / 2 ^ 32 : Nat) : Int) := by
    rw [show min (32 : Int).toNat IntKind.u64.bits = 32 from rfl]
    omega
  refine enter Try.func132 rfl (by kernel_rfl) ?_
  refine J.seq ?_
  refine J.region ?_
  refine L.va rfl (X.assign (by conv => lhs; whnf)) ?_
  refine L.nil ?_
  refine J.cut (X := Nat × Nat) [0, 2, 3, 4, 5, 6] (fun (y, k) => [(0, .int .u64 (y : Int)), (2, .int .i64 (k : Int))]) (fun (y, k) w' => w = w' ∧ y = x / 2 ^ k ∧ y < 4294967296 ∧ (k = 0 ∨ 0 < y) ∧ k ≤ 32) ?_ ?_
  · refine J.seq ?_
    refine J.region ?_
    refine L.va rfl (X.move (by conv => lhs; whnf)) ?_
    refine L.va rfl (X.geq rfl rfl) ?_
    refine L.nil ?_
    refine J.dec rfl (fun h => ?_) (fun h => ?_)
    · refine J.seq ?_
      refine J.region ?_
      refine L.va rfl (X.move (by conv => lhs; whnf)) ?_
      refine L.va rfl (X.shr rfl rfl (by omega)) ?_
      refine L.va rfl (X.assign (by conv => lhs; whnf)) ?_
      refine L.nil ?_
      refine J.region ?_
      refine L.va rfl (X.assign (by conv => lhs; whnf)) ?_
      refine L.nil ?_
      refine ⟨(x / 2 ^ 32, 32), At2 (at_int rfl e32) (rfl), (by (iterate 6 refine Agr.lk rfl ?_); exact Agr.rfl'), ?_⟩
      have h2 : (2 : Nat) ^ 32 = 4294967296 := by decide
      rw [h2]
      exact ⟨rfl, rfl, by omega, .inr (by omega), by omega⟩
    · refine J.skip ?_
      refine ⟨(x, 0), At2 (by first | rfl | exact at_int rfl (by omega) | exact at_slice rfl (by omega) | exact at_int rfl (by simp)) (by first | rfl | exact at_int rfl (by omega) | exact at_slice rfl (by omega) | exact at_int rfl (by simp)), (by (iterate 2 refine Agr.lk rfl ?_); exact Agr.rfl'), ?_⟩
      exact ⟨rfl, by simp, by omega, .inl rfl, by omega⟩
  · rintro ⟨y, k⟩ g w1 ⟨rfl, hy, hlt, h0, hk⟩
    have e16 : ((y : Int) / 2 ^ min (16 : Int).toNat IntKind.u64.bits) = ((y / 2 ^ 16 : Nat) : Int) := by
      rw [show min (16 : Int).toNat IntKind.u64.bits = 16 from rfl]
      omega
    refine J.cut (X := Nat × Nat) [0, 2, 7, 8, 9, 10, 11, 12] (fun (y, k) => [(0, .int .u64 (y : Int)), (2, .int .i64 (k : Int))]) (fun (y, k) w' => w = w' ∧ y = x / 2 ^ k ∧ y < 65536 ∧ (k = 0 ∨ 0 < y) ∧ k ≤ 48) ?_ ?_
    · refine J.seq ?_
      refine J.region ?_
      refine L.va rfl (X.move (by conv => lhs; whnf)) ?_
      refine L.va rfl (X.geq rfl rfl) ?_
      refine L.nil ?_
      refine J.dec rfl (fun h => ?_) (fun h => ?_)
      · refine J.seq ?_
        refine J.region ?_
        refine L.va rfl (X.move (by conv => lhs; whnf)) ?_
        refine L.va rfl (X.shr rfl rfl (by omega)) ?_
        refine L.va rfl (X.assign (by conv => lhs; whnf)) ?_
        refine L.nil ?_
        refine J.region ?_
        refine L.va rfl (X.move (by conv => lhs; whnf)) ?_
        refine L.va rfl (X.add rfl rfl (by omega)) ?_
        refine L.va rfl (X.assign (by conv => lhs; whnf)) ?_
        refine L.nil ?_
        refine ⟨(y / 2 ^ 16, k + 16), At2 (at_int rfl e16) (rfl), (by (iterate 8 refine Agr.lk rfl ?_); exact Agr.rfl'), ?_⟩
        have h2 : (2 : Nat) ^ 16 = 65536 := by decide
        refine ⟨rfl, by rw [hy, Nat.div_div_eq_div_mul, ← Nat.pow_add], ?_, .inr ?_, by omega⟩ <;> rw [h2] <;> omega
      · refine J.skip ?_
        refine ⟨(y, k), At2 (by first | rfl | exact at_int rfl (by omega) | exact at_slice rfl (by omega) | exact at_int rfl (by simp)) (by first | rfl | exact at_int rfl (by omega) | exact at_slice rfl (by omega) | exact at_int rfl (by simp)), (by (iterate 2 refine Agr.lk rfl ?_); exact Agr.rfl'), ?_⟩
        exact ⟨rfl, hy, by omega, h0, by omega⟩
    · rintro ⟨y, k⟩ g w1 ⟨rfl, hy, hlt, h0, hk⟩
      have e8 : ((y : Int) / 2 ^ min (8 : Int).toNat IntKind.u64.bits) = ((y / 2 ^ 8 : Nat) : Int) := by
        rw [show min (8 : Int).toNat IntKind.u64.bits = 8 from rfl]
        omega
      refine J.cut (X := Nat × Nat) [0, 2, 13, 14, 15, 16, 17, 18] (fun (y, k) => [(0, .int .u64 (y : Int)), (2, .int .i64 (k : Int))]) (fun (y, k) w' => w = w' ∧ y = x / 2 ^ k ∧ y < 256 ∧ (k = 0 ∨ 0 < y) ∧ k ≤ 56) ?_ ?_
      · refine J.seq ?_
        refine J.region ?_
        refine L.va rfl (X.move (by conv => lhs; whnf)) ?_
        refine L.va rfl (X.geq rfl rfl) ?_
        refine L.nil ?_
        refine J.dec rfl (fun h => ?_) (fun h => ?_)
        · refine J.seq ?_
          refine J.region ?_
          refine L.va rfl (X.move (by conv => lhs; whnf)) ?_
          refine L.va rfl (X.shr rfl rfl (by omega)) ?_
          refine L.va rfl (X.assign (by conv => lhs; whnf)) ?_
          refine L.nil ?_
          refine J.region ?_
          refine L.va rfl (X.move (by conv => lhs; whnf)) ?_
          refine L.va rfl (X.add rfl rfl (by omega)) ?_
          refine L.va rfl (X.assign (by conv => lhs; whnf)) ?_
          refine L.nil ?_
          refine ⟨(y / 2 ^ 8, k + 8), At2 (at_int rfl e8) (rfl), (by (iterate 8 refine Agr.lk rfl ?_); exact Agr.rfl'), ?_⟩
          have h2 : (2 : Nat) ^ 8 = 256 := by decide
          refine ⟨rfl, by rw [hy, Nat.div_div_eq_div_mul, ← Nat.pow_add], ?_, .inr ?_, by omega⟩ <;> rw [h2] <;> omega
        · refine J.skip ?_
          refine ⟨(y, k), At2 (by first | rfl | exact at_int rfl (by omega) | exact at_slice rfl (by omega) | exact at_int rfl (by simp)) (by first | rfl | exact at_int rfl (by omega) | exact at_slice rfl (by omega) | exact at_int rfl (by simp)), (by (iterate 2 refine Agr.lk rfl ?_); exact Agr.rfl'), ?_⟩
          exact ⟨rfl, hy, by omega, h0, by omega⟩
      · rintro ⟨y, k⟩ g w1 ⟨rfl, hy, hlt, h0, hk⟩
        have ht := tab_dig y hlt
        have ht8 : tab8.getD y 0 ≤ 8 := by
          rcases Nat.lt_or_ge 8 (tab8.getD y 0) with h | h
          · have := Nat.pow_le_pow_right (n := 2) (by decide) h
            rcases ht.2 with h2 | h2
            · subst h2; exact absurd h (by decide)
            · have h3 : (2 : Nat) ^ (8 + 1) = 512 := by decide
              omega
          · exact h
        refine J.seq ?_
        refine J.region ?_
        refine L.va rfl (X.move (by conv => lhs; whnf)) ?_
        refine L.va rfl (X.move (by conv => lhs; whnf)) ?_
        refine L.va rfl ((by first | exact X.conv8 rfl is_36 Try.underlying5 (by omega) | exact X.convw rfl is_36 Try.underlying5)) ?_
        refine L.va rfl (X.tab rfl rfl Try.underlying9 rfl hlt) ?_
        refine L.va rfl ((by first | exact X.convI rfl is_5 Try.underlying3 (by omega) | exact X.convw rfl is_5 Try.underlying3)) ?_
        refine L.va rfl (X.add rfl rfl (by omega)) ?_
        refine L.va rfl (X.assign (by conv => lhs; whnf)) ?_
        refine L.nil ?_
        refine J.ret ?_
        refine fin1 ?_
        refine ⟨k + tab8.getD y 0, congrArg (fun z => Ending.returned (.int .i64 z)) (by omega), by omega, ?_, rfl⟩
        rw [Nat.add_comm]
        exact Dig.up (by rw [← hy]; exact ht) (by rw [← hy]; exact h0)
theorem len_ (x : Nat) (w : World) (hx : x < 18446744073709551616) : Calls Try.prog 112 #[.int .u64 (x : Int)] w fun e w' => ∃ n : Nat, e = .returned (.int .i64 (n : Int)) ∧ n ≤ 70 ∧ Dig x n ∧ w = w' := by
  refine enter Try.func112 rfl (by kernel_rfl) ?_
  refine J.seq ?_
  refine J.region ?_
  refine L.va rfl (X.assign (by conv => lhs; whnf)) ?_
  refine L.nil ?_
  refine J.seq ?_
  refine J.iteF rfl ?_
  refine J.skip ?_
  refine J.seq ?_
  refine J.region ?_
  refine L.va rfl (X.move (by conv => lhs; whnf)) ?_
  refine L.call rfl en_132 rfl (len64 x w hx) ?_
  rintro e _ ⟨n, rfl, hn, hd, rfl⟩
  refine ⟨_, rfl, ?_⟩
  refine L.va rfl (X.assign (by conv => lhs; whnf)) ?_
  refine L.nil ?_
  refine J.ret ?_
  refine fin1 ?_
  exact ⟨n, rfl, hn, hd, rfl⟩
theorem nextp (x : Nat) (w : World) (hx : x < 1000000) (h0 : 0 < x) : Calls Try.prog 137 #[.int .i64 (x : Int)] w fun e w' => ∃ m : Nat, e = .returned (.int .u64 (m : Int)) ∧ 0 < m ∧ m ≤ 2 * x ∧ w = w' := by
  refine enter Try.func137 rfl (by kernel_rfl) ?_
  refine J.seq ?_
  refine J.region ?_
  refine L.va rfl (X.assign (by conv => lhs; whnf)) ?_
  refine L.nil ?_
  refine J.seq ?_
  refine J.region ?_
  refine L.va rfl (X.move (by conv => lhs; whnf)) ?_
  refine L.va rfl ((by first | exact X.convU rfl is_3 Try.underlying148 (by omega) | exact X.convw rfl is_3 Try.underlying148)) ?_
  refine L.call rfl en_112 rfl (len_ x w (by omega)) ?_
  rintro e _ ⟨n, rfl, hn, hd, rfl⟩
  refine ⟨_, rfl, ?_⟩
  have hn21 : n ≤ 21 := by
    rcases Nat.lt_or_ge 21 n with h | h
    · have := Nat.pow_le_pow_right (n := 2) (by decide) h
      rcases hd.2 with h2 | h2
      · omega
      · have h3 : (2 : Nat) ^ (21 + 1) = 4194304 := by decide
        omega
    · exact h
  have hp : (2 : Nat) ^ n ≤ 2097152 := by
    have := Nat.pow_le_pow_right (n := 2) (by decide) hn21
    have h3 : (2 : Nat) ^ 21 = 2097152 := by decide
    omega
  have e : IntKind.u64.wrap (1 * 2 ^ min (n : Int).toNat IntKind.u64.bits) = ((2 ^ n : Nat) : Int) := by
    rw [show min (n : Int).toNat IntKind.u64.bits = n by rw [Int.toNat_natCast]; show min n 64 = n; omega]
    have : (1 : Int) * 2 ^ n = ((2 ^ n : Nat) : Int) := by rw [Int.one_mul]; push_cast; rfl
    rw [this]
    exact wrapU _ ⟨Int.natCast_nonneg _, Int.ofNat_le.2 (show 2 ^ n ≤ 18446744073709551615 by omega)⟩
  refine L.va rfl (X.shl rfl rfl (by omega)) ?_
  refine L.va rfl (X.assign (by conv => lhs; whnf)) ?_
  refine L.nil ?_
  refine J.ret ?_
  refine fin1 ?_
  exact ⟨2 ^ n, congrArg (fun z => Ending.returned (.int .u64 z)) e, Nat.pow_pos (by decide), by
    rcases hd.2 with h | h
    · omega
    · exact h, rfl⟩
theorem xnext (rb x : Nat) (w : World) (hb : Blk w rb 185 #[.int .u64 (x : Int)]) (hx : x < 18446744073709551616) : Calls Try.prog 138 #[.pointer (some ⟨rb, 0, none⟩)] w fun e w' => ∃ y : Nat, e = .returned (.int .u64 (y : Int)) ∧ y < 18446744073709551616 ∧ Blk w' rb 185 #[.int .u64 (y : Int)] ∧ w.grownBy w' (some rb) := by
  obtain ⟨x1, e1, h1⟩ := xorU hx (wrapU_in ((x : Int) * 2 ^ min (13 : Int).toNat IntKind.u64.bits))
  obtain ⟨x2, e2, h2⟩ := xorU (x := x1) (m := (x1 : Int) / 2 ^ min (7 : Int).toNat IntKind.u64.bits) h1 (by rw [show min (7 : Int).toNat IntKind.u64.bits = 7 from rfl]; omega)
  obtain ⟨x3, e3, h3⟩ := xorU h2 (wrapU_in ((x2 : Int) * 2 ^ min (17 : Int).toNat IntKind.u64.bits))
  refine enter Try.func138 rfl (by kernel_rfl) ?_
  refine J.seq ?_
  refine J.region ?_
  refine L.va rfl (X.assign (by conv => lhs; whnf)) ?_
  refine L.nil ?_
  refine J.seq ?_
  refine J.draw (ℓ := 9) (S := (fun w' => Blk w' rb 185 #[.int .u64 (x : Int)])) mixed (fun w1 hSE hS_h => ?_)
  have hS : ((fun w' => Blk w' rb 185 #[.int .u64 (x : Int)])) w1 := hb.ext hSE
  have g1 : w.grownBy w1 (some rb) := grown_ext hSE
  refine D.va 0 rfl (by kernel_rfl) (fun _ _ _ h => h) rfl (fun w' hw => X.move (by conv => lhs; whnf)) hS ?_
  refine D.va 1 rfl (by kernel_rfl) (fun _ _ _ h => h) rfl (fun w' hw => X.nilCheck rfl) hS ?_
  refine D.va 2 rfl (by kernel_rfl) (fun _ _ _ h => h) rfl (fun w' hw => X.load rfl sc_185 (by first | exact Ld.blk hw rfl)) hS ?_
  refine D.va 3 rfl (by kernel_rfl) (fun _ _ _ h => h) rfl (fun w' hw => X.move (by conv => lhs; whnf)) hS ?_
  refine D.va 4 rfl (by kernel_rfl) (fun _ _ _ h => h) rfl (fun w' hw => X.nilCheck rfl) hS ?_
  refine D.va 5 rfl (by kernel_rfl) (fun _ _ _ h => h) rfl (fun w' hw => X.load rfl sc_185 (by first | exact Ld.blk hw rfl)) hS ?_
  refine D.va 6 rfl (by kernel_rfl) (fun _ _ _ h => h) rfl (fun w' hw => X.shl rfl rfl (by omega)) hS ?_
  refine D.va 7 rfl (by kernel_rfl) (fun _ _ _ h => h) rfl (fun w' hw => X.xor rfl rfl) hS ?_
  refine D.va 8 rfl (by kernel_rfl) (fun _ _ _ h => h) rfl (fun w' hw => X.nilCheck rfl) hS ?_
  rw [e1]
  refine D.one 9 (by kernel_rfl) rfl ?_
  refine L.store rfl rfl (by conv => lhs; whnf) rfl sz_185 (hS) (by first | decide | exact Nat.le_of_ble_eq_true rfl) ?_
  intro w2 hk2 hg2 hs2
  refine L.nil ?_
  refine ⟨fun h => absurd rfl h, ?_⟩
  have hk2 : Blk w2 rb 185 #[.int .u64 (x1 : Int)] := hk2
  refine D.done (by kernel_rfl) ?_
  refine J.seq ?_
  refine J.draw (ℓ := 9) (S := (fun w' => Blk w' rb 185 #[.int .u64 (x1 : Int)])) mixed (fun w3 hTE hT_h => ?_)
  have hT : ((fun w' => Blk w' rb 185 #[.int .u64 (x1 : Int)])) w3 := hk2.ext hTE
  have g3 : w.grownBy w3 (some rb) := grb_trans (grb_trans g1 hg2) (grown_ext hTE)
  refine D.va 0 rfl (by kernel_rfl) (fun _ _ _ h => h) rfl (fun w' hw => X.move (by conv => lhs; whnf)) hT ?_
  refine D.va 1 rfl (by kernel_rfl) (fun _ _ _ h => h) rfl (fun w' hw => X.nilCheck rfl) hT ?_
  refine D.va 2 rfl (by kernel_rfl) (fun _ _ _ h => h) rfl (fun w' hw => X.load rfl sc_185 (by first | exact Ld.blk hw rfl)) hT ?_
  refine D.va 3 rfl (by kernel_rfl) (fun _ _ _ h => h) rfl (fun w' hw => X.move (by conv => lhs; whnf)) hT ?_
  refine D.va 4 rfl (by kernel_rfl) (fun _ _ _ h => h) rfl (fun w' hw => X.nilCheck rfl) hT ?_
  refine D.va 5 rfl (by kernel_rfl) (fun _ _ _ h => h) rfl (fun w' hw => X.load rfl sc_185 (by first | exact Ld.blk hw rfl)) hT ?_
  refine D.va 6 rfl (by kernel_rfl) (fun _ _ _ h => h) rfl (fun w' hw => X.shr rfl rfl (by omega)) hT ?_
  refine D.va 7 rfl (by kernel_rfl) (fun _ _ _ h => h) rfl (fun w' hw => X.xor rfl rfl) hT ?_
  refine D.va 8 rfl (by kernel_rfl) (fun _ _ _ h => h) rfl (fun w' hw => X.nilCheck rfl) hT ?_
  rw [e2]
  refine D.one 9 (by kernel_rfl) rfl ?_
  refine L.store rfl rfl (by conv => lhs; whnf) rfl sz_185 (hT) (by first | decide | exact Nat.le_of_ble_eq_true rfl) ?_
  intro w4 hk4 hg4 hs4
  refine L.nil ?_
  refine ⟨fun h => absurd rfl h, ?_⟩
  have hk4 : Blk w4 rb 185 #[.int .u64 (x2 : Int)] := hk4
  refine D.done (by kernel_rfl) ?_
  refine J.seq ?_
  refine J.draw (ℓ := 9) (S := (fun w' => Blk w' rb 185 #[.int .u64 (x2 : Int)])) mixed (fun w5 hUE hU_h => ?_)
  have hU : ((fun w' => Blk w' rb 185 #[.int .u64 (x2 : Int)])) w5 := hk4.ext hUE
  have g5 : w.grownBy w5 (some rb) := grb_trans (grb_trans g3 hg4) (grown_ext hUE)
  refine D.va 0 rfl (by kernel_rfl) (fun _ _ _ h => h) rfl (fun w' hw => X.move (by conv => lhs; whnf)) hU ?_
  refine D.va 1 rfl (by kernel_rfl) (fun _ _ _ h => h) rfl (fun w' hw => X.nilCheck rfl) hU ?_
  refine D.va 2 rfl (by kernel_rfl) (fun _ _ _ h => h) rfl (fun w' hw => X.load rfl sc_185 (by first | exact Ld.blk hw rfl)) hU ?_
  refine D.va 3 rfl (by kernel_rfl) (fun _ _ _ h => h) rfl (fun w' hw => X.move (by conv => lhs; whnf)) hU ?_
  refine D.va 4 rfl (by kernel_rfl) (fun _ _ _ h => h) rfl (fun w' hw => X.nilCheck rfl) hU ?_
  refine D.va 5 rfl (by kernel_rfl) (fun _ _ _ h => h) rfl (fun w' hw => X.load rfl sc_185 (by first | exact Ld.blk hw rfl)) hU ?_
  refine D.va 6 rfl (by kernel_rfl) (fun _ _ _ h => h) rfl (fun w' hw => X.shl rfl rfl (by omega)) hU ?_
  refine D.va 7 rfl (by kernel_rfl) (fun _ _ _ h => h) rfl (fun w' hw => X.xor rfl rfl) hU ?_
  refine D.va 8 rfl (by kernel_rfl) (fun _ _ _ h => h) rfl (fun w' hw => X.nilCheck rfl) hU ?_
  rw [e3]
  refine D.one 9 (by kernel_rfl) rfl ?_
  refine L.store rfl rfl (by conv => lhs; whnf) rfl sz_185 (hU) (by first | decide | exact Nat.le_of_ble_eq_true rfl) ?_
  intro w6 hk6 hg6 hs6
  refine L.nil ?_
  refine ⟨fun h => absurd rfl h, ?_⟩
  have hk6 : Blk w6 rb 185 #[.int .u64 (x3 : Int)] := hk6
  refine D.done (by kernel_rfl) ?_
  refine J.seq ?_
  refine J.region ?_
  refine L.va rfl (X.move (by conv => lhs; whnf)) ?_
  refine L.va rfl (X.nilCheck rfl) ?_
  refine L.va rfl (X.load rfl sc_185 (by first | exact Ld.blk hk6 rfl)) ?_
  refine L.va rfl (X.assign (by conv => lhs; whnf)) ?_
  refine L.nil ?_
  refine J.ret ?_
  refine fin1 ?_
  exact ⟨x3, rfl, h3, hk6, grb_trans g5 hg6⟩
end Go.Proofs.Ytpomklkfedpkfaa
namespace Go.Proofs.Ytpomklkfedpkfaa
set_option maxRecDepth 100000
open Go.RowKit H
open Srt
set_option linter.unusedVariables false
theorem grb_newI {a b c : World} {r : Option Nat} {g : Nat} (h : a.grownBy b r) (k : b.grownBy c (some g)) (hg : a.heap.size ≤ g) : a.grownBy c r :=
  ⟨k.os.trans h.os, k.tape.trans h.tape, k.output.trans h.output, Nat.le_trans h.size k.size, fun i hi hne => (k.block i (Nat.lt_of_lt_of_le hi h.size) (fun e => by injection e with e; omega)).trans (h.block i hi hne)⟩
theorem X.andEI {P : Program} {w : World} {f : Operand → Value} {x y : Operand} {d : Option Tmp} {tx tz ty : TypeId} {pos : String} {aft : Array Edge} {g : Option (Nat × Bool)} {k : IntKind} {m n z : Int} (hx : f x = .int k m) (hy : f y = .int k n) (h : bits .and k m n = z) : (execOp f ⟨d, .binOp .and tx x y tz, ty, pos, aft, g⟩).run P w = .ok (.value (.int k z)) w := by
  have := X.and (P := P) (w := w) (d := d) (tx := tx) (tz := tz) (ty := ty) (pos := pos) (aft := aft) (g := g) hx hy
  rw [h] at this
  exact this
theorem breakpI (A : Option Addr) (n c N a h : Nat) (l : List Int) (w : World) (ho : w.ownsRow N 3 1 (.slice A n c) n (nums .i64 l)) (hf : a + h ≤ n) (hn : n ≤ 900000) (h0 : 12 < h) :
    Calls Try.prog 124 #[.slice A n c, .int .i64 (a : Int), .int .i64 ((a + h : Nat) : Int)] w fun e w' => e = .returned (.tuple #[]) ∧ ∃ l', SwI w w' A n c N a (a + h) l l' := by
  have hl : l.length = n := by have := ho.1; simpa [nums] using this
  have eh : ((a + h : Nat) : Int) - (a : Int) = (h : Int) := by omega
  refine enter Try.func124 rfl (by kernel_rfl) ?_
  refine J.seq ?_
  refine J.region ?_
  refine L.va rfl (X.move (by conv => lhs; whnf)) ?_
  refine L.va rfl (X.move (by conv => lhs; whnf)) ?_
  refine L.va rfl (X.sub rfl rfl (by omega)) ?_
  refine L.va rfl (X.assign (by conv => lhs; whnf)) ?_
  refine L.nil ?_
  rw [eh]
  refine J.seq ?_
  refine J.region ?_
  refine L.va rfl (X.move (by conv => lhs; whnf)) ?_
  refine L.va rfl (X.geq rfl rfl) ?_
  refine L.nil ?_
  refine J.decT rfl (by omega) ?_
  refine J.seq ?_
  refine J.region ?_
  refine L.va rfl (X.move (by conv => lhs; whnf)) ?_
  refine L.va rfl ((by first | exact X.convU rfl is_3 Try.underlying185 (by omega) | exact X.convw rfl is_3 Try.underlying185)) ?_
  refine L.alloc rfl zr_185 ?_
  intro b7 w1 hb7 hs7 hk7 he1
  have ho1 := ho.ext he1
  have hne1 : Value.ownBlock (.slice A n c) ≠ some b7 := fun e => by have := (ho.lt b7 e).2; omega
  refine L.store rfl rfl (by conv => lhs; whnf) rfl sz_185 (hk7) (by first | decide | exact Nat.le_of_ble_eq_true rfl) ?_
  intro w2 hk2 hg2 hs2
  have hk2 : Blk w2 b7 185 #[.int .u64 (h : Int)] := hk2
  have ho2 := ho1.kept hg2 (.inr hne1)
  have g2 : w.grownBy w2 (Value.ownBlock (.slice A n c)) := grb_newI (grown_ext he1) hg2 (by omega)
  refine L.nil ?_
  refine J.seq ?_
  refine J.region ?_
  refine L.va rfl (X.move (by conv => lhs; whnf)) ?_
  refine L.call rfl en_137 rfl (nextp h w2 (by omega) (by omega)) ?_
  rintro e _ ⟨m, rfl, hm0, hm, rfl⟩
  refine ⟨_, rfl, ?_⟩
  have hwb : w.heap.size ≤ b7 := by omega
  refine L.va rfl (X.assign (by conv => lhs; whnf)) ?_
  refine L.nil ?_
  refine J.seq ?_
  refine J.region ?_
  refine L.va rfl (X.move (by conv => lhs; whnf)) ?_
  refine L.va rfl (X.move (by conv => lhs; whnf)) ?_
  refine L.va rfl (X.quo rfl rfl (by omega)) ?_
  refine L.va rfl (X.mul rfl rfl (by omega)) ?_
  refine L.va rfl (X.add rfl rfl (by omega)) ?_
  refine L.va rfl (X.sub rfl rfl (by omega)) ?_
  refine L.va rfl (X.assign (by conv => lhs; whnf)) ?_
  refine L.nil ?_
  refine J.block ?_
  refine J.loop (X := Int × Nat × List Int) [9, 10, 26, 27, 28, 29, 30, 31, 32, 33, 34, 35, 36, 37, 38, 39, 40, 41, 42, 43, 44, 45, 46, 47, 48, 49, 50, 51, 52, 53, 54, 55, 56, 57, 58, 59, 60, 61, 62, 63, 64] (fun (i, x, m) => [(9, .int .i64 i)]) (fun (i, x, m) w' => (a : Int) ≤ i ∧ i ≤ a + h / 4 * 2 + 2 ∧ x < 18446744073709551616 ∧ Blk w' b7 185 #[.int .u64 (x : Int)] ∧ SwI w w' A n c N a (a + h) l m) (fun (i, _) => ((a : Int) + h / 4 * 2 + 2 - i).toNat) (((a : Int) + h / 4 * 2 - 1, h, l)) (At1 (by first | rfl | exact at_int rfl (by omega) | exact at_slice rfl (by omega) | exact at_int rfl (by simp))) ?_ ?_
  · exact ⟨by omega, by omega, by omega, hk2, ⟨ho2, g2, .refl _⟩⟩
  · rintro ⟨i, x, q⟩ g w3 ⟨h1, h2, hx, hk, M⟩
    have hml : q.length = n := by rw [M.p.len, hl]
    refine J.seq ?_
    refine J.seq ?_
    refine J.region ?_
    refine L.va rfl (X.move (by conv => lhs; whnf)) ?_
    refine L.va rfl (X.move (by conv => lhs; whnf)) ?_
    refine L.va rfl (X.move (by conv => lhs; whnf)) ?_
    refine L.va rfl (X.quo rfl rfl (by omega)) ?_
    refine L.va rfl (X.mul rfl rfl (by omega)) ?_
    refine L.va rfl (X.add rfl rfl (by omega)) ?_
    refine L.va rfl (X.add rfl rfl (by omega)) ?_
    refine L.va rfl (X.leq rfl rfl) ?_
    refine L.nil ?_
    refine J.dec rfl (fun hle => ?_) (fun hle => ?_)
    · refine J.skip ?_
      refine J.seq ?_
      refine J.block ?_
      refine J.seq ?_
      refine J.region ?_
      refine L.call rfl en_138 rfl (xnext b7 x w3 hk hx) ?_
      rintro e w4 ⟨y, rfl, hy, hk4, hg4⟩
      refine ⟨_, rfl, ?_⟩
      have ho4 := M.o.kept hg4 (.inr hne1)
      have g4 := grb_newI M.g hg4 hwb
      have hand : y &&& (m - 1) ≤ m - 1 := Nat.and_le_right
      obtain ⟨i', rfl⟩ : ∃ i' : Nat, i = (i' : Int) := ⟨i.toNat, by omega⟩
      have hA := (Reads.of_own ho4).some_ (by omega)
      refine L.va rfl (X.move (by conv => lhs; whnf)) ?_
      refine L.va rfl (X.subU rfl rfl (by omega)) ?_
      refine L.va rfl (X.andEI (z := ((y &&& (m - 1) : Nat) : Int)) rfl rfl (by rw [show ((m : Int) - 1) = ((m - 1 : Nat) : Int) by omega]; exact u64_and_nat y (m - 1) hy (by omega))) ?_
      refine L.va rfl ((by first | exact X.convI rfl is_148 Try.underlying3 (by omega) | exact X.convw rfl is_148 Try.underlying3)) ?_
      refine L.va rfl (X.assign (by conv => lhs; whnf)) ?_
      refine L.nil ?_
      refine J.cut (X := Nat) [10, 41, 42, 43, 44, 45, 46] (fun o => [(10, .int .i64 (o : Int))]) (fun o w' => w' = w4 ∧ o < h) ?_ ?_
      · refine J.seq ?_
        refine J.region ?_
        refine L.va rfl (X.move (by conv => lhs; whnf)) ?_
        refine L.va rfl (X.move (by conv => lhs; whnf)) ?_
        refine L.va rfl (X.geq rfl rfl) ?_
        refine L.nil ?_
        refine J.dec rfl (fun hge => ?_) (fun hge => ?_)
        · refine J.region ?_
          refine L.va rfl (X.move (by conv => lhs; whnf)) ?_
          refine L.va rfl (X.move (by conv => lhs; whnf)) ?_
          refine L.va rfl (X.sub rfl rfl (by omega)) ?_
          refine L.va rfl (X.assign (by conv => lhs; whnf)) ?_
          refine L.nil ?_
          refine ⟨(y &&& (m - 1)) - h, At1 (by first | rfl | exact at_int rfl (by omega) | exact at_slice rfl (by omega) | exact at_int rfl (by simp)), (by (iterate 7 refine Agr.lk rfl ?_); exact Agr.rfl'), ?_⟩
          exact ⟨rfl, by omega⟩
        · refine J.skip ?_
          refine ⟨y &&& (m - 1), At1 (by first | rfl | exact at_int rfl (by omega) | exact at_slice rfl (by omega) | exact at_int rfl (by simp)), (by (iterate 3 refine Agr.lk rfl ?_); exact Agr.rfl'), ?_⟩
          exact ⟨rfl, by omega⟩
      · rintro o g w4' ⟨rfl, ho'⟩
        refine J.draw (ℓ := 1000000) (S := (fun _ => True)) mixed (fun w5d hSE hS_h => ?_)
        have hS : ((fun _ => True)) w5d := trivial
        have hrw5 := (Reads.of_own ho4).ext hSE
        have hoX := ho4.ext hSE
        have hG : w4'.grownBy w5d (Value.ownBlock (.slice A n c)) := grown_ext hSE
        refine D.va 0 rfl (by kernel_rfl) (fun _ _ _ h => h) rfl (fun w' hw => X.move (by conv => lhs; whnf)) hS ?_
        refine D.va 1 rfl (by kernel_rfl) (fun _ _ _ h => h) rfl (fun w' hw => X.move (by conv => lhs; whnf)) hS ?_
        refine D.va 2 rfl (by kernel_rfl) (fun _ _ _ h => h) rfl (fun w' hw => X.move (by conv => lhs; whnf)) hS ?_
        refine D.va 3 rfl (by kernel_rfl) (fun _ _ _ h => h) rfl (fun w' hw => X.move (by conv => lhs; whnf)) hS ?_
        refine D.va 4 rfl (by kernel_rfl) (fun _ _ _ h => h) rfl (fun w' hw => X.move (by conv => lhs; whnf)) hS ?_
        refine D.va 5 rfl (by kernel_rfl) (fun _ _ _ h => h) rfl (fun w' hw => X.add rfl rfl (by omega)) hS ?_
        refine D.va 6 rfl (by kernel_rfl) (fun _ _ _ h => h) rfl (fun w' hw => X.move (by conv => lhs; whnf)) hS ?_
        refine D.va 7 rfl (by kernel_rfl) (fun _ _ _ h => h) rfl (fun w' hw => X.move (by conv => lhs; whnf)) hS ?_
        refine D.va 8 rfl (by kernel_rfl) (fun _ _ _ h => h) rfl (fun w' hw => X.move (by conv => lhs; whnf)) hS ?_
        refine D.va 9 rfl (by kernel_rfl) (fun _ _ _ h => h) rfl (fun w' hw => X.add rfl rfl (by omega)) hS ?_
        refine D.va 10 rfl (by kernel_rfl) (fun _ _ _ h => h) rfl (fun w' hw => (by first | exact X.index1n rfl rfl Try.underlying74 sz_3 (by first | exact Option.some_ne_none _ | exact hA) (by omega) | exact X.index1 rfl rfl Try.underlying74 sz_3 (by first | exact Option.some_ne_none _ | exact hA) (by omega))) hS ?_
        refine D.va 12 rfl (by kernel_rfl) (fun _ _ _ h => h) rfl (fun w' hw => X.move (by conv => lhs; whnf)) hS ?_
        refine D.va 13 rfl (by kernel_rfl) (fun _ _ _ h => h) rfl (fun w' hw => X.move (by conv => lhs; whnf)) hS ?_
        refine D.va 14 rfl (by kernel_rfl) (fun _ _ _ h => h) rfl (fun w' hw => (by first | exact X.index1n rfl rfl Try.underlying74 sz_3 (by first | exact Option.some_ne_none _ | exact hA) (by omega) | exact X.index1 rfl rfl Try.underlying74 sz_3 (by first | exact Option.some_ne_none _ | exact hA) (by omega))) hS ?_
        refine D.two 11 15 (by kernel_rfl) rfl rfl ?_ ?_
        · refine L.va rfl (X.load rfl sc_3 (Ld.num hrw5 (j := a + o) (by omega))) ?_
          refine L.nil ?_
          refine ⟨fun _ => hS, ?_⟩
          refine D.one 15 (by kernel_rfl) rfl ?_
          refine L.va rfl (X.load rfl sc_3 (Ld.num hrw5 (j := i') (by omega))) ?_
          refine L.nil ?_
          refine ⟨fun _ => hS, ?_⟩
          refine D.va 16 rfl (by kernel_rfl) (fun _ _ _ h => h) rfl (fun w' hw => (by first | exact X.index1n rfl rfl Try.underlying74 sz_3 (by first | exact Option.some_ne_none _ | exact hA) (by omega) | exact X.index1 rfl rfl Try.underlying74 sz_3 (by first | exact Option.some_ne_none _ | exact hA) (by omega))) hS ?_
          refine D.one 17 (by kernel_rfl) rfl ?_
          refine L.storeON rfl rfl (by conv => lhs; whnf) sz_3 (hoX) (by omega) ?_
          intro w5 hoX hg2 hb2 hs2
          have hS1 := trivial
          refine L.nil ?_
          refine ⟨fun _ => hS1, ?_⟩
          replace hG := grb_trans hG hg2
          refine D.va 18 rfl (by kernel_rfl) (fun _ _ _ h => h) rfl (fun w' hw => (by first | exact X.index1n rfl rfl Try.underlying74 sz_3 (by first | exact Option.some_ne_none _ | exact hA) (by omega) | exact X.index1 rfl rfl Try.underlying74 sz_3 (by first | exact Option.some_ne_none _ | exact hA) (by omega))) hS1 ?_
          refine D.one 19 (by kernel_rfl) rfl ?_
          refine L.storeON rfl rfl (by conv => lhs; whnf) sz_3 (hoX) (by omega) ?_
          intro w5 hoX hg2 hb2 hs2
          have hS2 := trivial
          refine L.nil ?_
          refine ⟨fun _ => hS2, ?_⟩
          replace hG := grb_trans hG hg2
          refine D.done (by kernel_rfl) ?_
          refine J.region ?_
          refine L.va rfl (X.move (by conv => lhs; whnf)) ?_
          refine L.va rfl (X.add rfl rfl (by omega)) ?_
          refine L.va rfl (X.assign (by conv => lhs; whnf)) ?_
          refine L.nil ?_
          have hk5 : Blk w5 b7 185 #[.int .u64 (y : Int)] := hk4.grown hG hne1.symm
          refine ⟨((i' : Int) + 1, y, swp q i' (a + o)), At1 (by first | rfl | exact at_int rfl (by omega) | exact at_slice rfl (by omega) | exact at_int rfl (by simp)), (by (iterate 21 refine Agr.lk rfl ?_); refine Agr.lk rfl ?_; refine Agr.hav rfl ?_; (iterate 14 refine Agr.lk rfl ?_); exact Agr.lk rfl (Agr.hav rfl Agr.rfl')), ?_⟩
          exact ⟨⟨by omega, by omega, hy, hk5, ⟨hoX, grb_trans g4 hG, .step M.p ⟨by omega, by omega⟩ ⟨by omega, by omega⟩ (by omega)⟩⟩, by show ((a : Int) + h / 4 * 2 + 2 - ((i' : Int) + 1)).toNat < ((a : Int) + h / 4 * 2 + 2 - (i' : Int)).toNat; omega⟩
        · refine L.va rfl (X.load rfl sc_3 (Ld.num hrw5 (j := i') (by omega))) ?_
          refine L.nil ?_
          refine ⟨fun _ => hS, ?_⟩
          refine D.one 11 (by kernel_rfl) rfl ?_
          refine L.va rfl (X.load rfl sc_3 (Ld.num hrw5 (j := a + o) (by omega))) ?_
          refine L.nil ?_
          refine ⟨fun _ => hS, ?_⟩
          refine D.va 16 rfl (by kernel_rfl) (fun _ _ _ h => h) rfl (fun w' hw => (by first | exact X.index1n rfl rfl Try.underlying74 sz_3 (by first | exact Option.some_ne_none _ | exact hA) (by omega) | exact X.index1 rfl rfl Try.underlying74 sz_3 (by first | exact Option.some_ne_none _ | exact hA) (by omega))) hS ?_
          refine D.one 17 (by kernel_rfl) rfl ?_
          refine L.storeON rfl rfl (by conv => lhs; whnf) sz_3 (hoX) (by omega) ?_
          intro w5 hoX hg2 hb2 hs2
          have hS1 := trivial
          refine L.nil ?_
          refine ⟨fun _ => hS1, ?_⟩
          replace hG := grb_trans hG hg2
          refine D.va 18 rfl (by kernel_rfl) (fun _ _ _ h => h) rfl (fun w' hw => (by first | exact X.index1n rfl rfl Try.underlying74 sz_3 (by first | exact Option.some_ne_none _ | exact hA) (by omega) | exact X.index1 rfl rfl Try.underlying74 sz_3 (by first | exact Option.some_ne_none _ | exact hA) (by omega))) hS1 ?_
          refine D.one 19 (by kernel_rfl) rfl ?_
          refine L.storeON rfl rfl (by conv => lhs; whnf) sz_3 (hoX) (by omega) ?_
          intro w5 hoX hg2 hb2 hs2
          have hS2 := trivial
          refine L.nil ?_
          refine ⟨fun _ => hS2, ?_⟩
          replace hG := grb_trans hG hg2
          refine D.done (by kernel_rfl) ?_
          refine J.region ?_
          refine L.va rfl (X.move (by conv => lhs; whnf)) ?_
          refine L.va rfl (X.add rfl rfl (by omega)) ?_
          refine L.va rfl (X.assign (by conv => lhs; whnf)) ?_
          refine L.nil ?_
          have hk5 : Blk w5 b7 185 #[.int .u64 (y : Int)] := hk4.grown hG hne1.symm
          refine ⟨((i' : Int) + 1, y, swp q i' (a + o)), At1 (by first | rfl | exact at_int rfl (by omega) | exact at_slice rfl (by omega) | exact at_int rfl (by simp)), (by (iterate 21 refine Agr.lk rfl ?_); refine Agr.lk rfl ?_; refine Agr.hav rfl ?_; (iterate 14 refine Agr.lk rfl ?_); exact Agr.lk rfl (Agr.hav rfl Agr.rfl')), ?_⟩
          exact ⟨⟨by omega, by omega, hy, hk5, ⟨hoX, grb_trans g4 hG, .step M.p ⟨by omega, by omega⟩ ⟨by omega, by omega⟩ (by omega)⟩⟩, by show ((a : Int) + h / 4 * 2 + 2 - ((i' : Int) + 1)).toNat < ((a : Int) + h / 4 * 2 + 2 - (i' : Int)).toNat; omega⟩
    · refine J.exit ?_
      refine thn_exit <| thn_exit <| inB_eq ?_
      refine fin0 (.inr rfl) ?_
      exact ⟨rfl, q, M⟩
theorem reverseI (A : Option Addr) (n c N a h : Nat) (l : List Int) (w : World) (ho : w.ownsRow N 3 1 (.slice A n c) n (nums .i64 l)) (hf : a + h ≤ n) (hn : n ≤ 900000) (h0 : 0 < h) :
    Calls Try.prog 126 #[.slice A n c, .int .i64 (a : Int), .int .i64 ((a + h : Nat) : Int)] w fun e w' => e = .returned (.tuple #[]) ∧ ∃ l', SwI w w' A n c N a (a + h) l l' := by
  have hl : l.length = n := by have := ho.1; simpa [nums] using this
  refine enter Try.func126 rfl (by kernel_rfl) ?_
  refine J.seq ?_
  refine J.region ?_
  refine L.va rfl (X.move (by conv => lhs; whnf)) ?_
  refine L.va rfl (X.assign (by conv => lhs; whnf)) ?_
  refine L.nil ?_
  refine J.seq ?_
  refine J.region ?_
  refine L.va rfl (X.move (by conv => lhs; whnf)) ?_
  refine L.va rfl (X.sub rfl rfl (by omega)) ?_
  refine L.va rfl (X.assign (by conv => lhs; whnf)) ?_
  refine L.nil ?_
  refine J.block ?_
  refine J.loop (X := Nat × Int × List Int) [6, 7, 11, 12, 13, 14, 15, 16, 17, 18, 19, 20, 21, 22, 23, 24, 25, 26, 27, 28, 29, 30, 31] (fun (i, j, m) => [(6, .int .i64 (i : Int)), (7, .int .i64 j)]) (fun (i, j, m) w' => a ≤ i ∧ i ≤ a + h ∧ j < a + h ∧ (a : Int) - 1 ≤ j ∧ SwI w w' A n c N a (a + h) l m) (fun (i, _) => a + h - i) ((a, ((a + h : Nat) : Int) - 1, l)) (At2 (by first | rfl | exact at_int rfl (by omega) | exact at_slice rfl (by omega) | exact at_int rfl (by simp)) (by first | rfl | exact at_int rfl (by omega) | exact at_slice rfl (by omega) | exact at_int rfl (by simp))) ?_ ?_
  · exact ⟨Nat.le_refl _, by omega, by omega, by omega, ⟨ho, grown_ext (Ext.refl _), .refl _⟩⟩
  · rintro ⟨i, j, m⟩ g w2 ⟨h1, h2, h3, h4, M⟩
    have hml : m.length = n := by rw [M.p.len, hl]
    refine J.seq ?_
    refine J.seq ?_
    refine J.region ?_
    refine L.va rfl (X.move (by conv => lhs; whnf)) ?_
    refine L.va rfl (X.move (by conv => lhs; whnf)) ?_
    refine L.va rfl (X.lss rfl rfl) ?_
    refine L.nil ?_
    refine J.dec rfl (fun hlt => ?_) (fun hlt => ?_)
    · obtain ⟨k, rfl⟩ : ∃ k : Nat, j = (k : Int) := ⟨j.toNat, by omega⟩
      have ho2 := M.o
      have hA := (Reads.of_own ho2).some_ (by omega)
      refine J.skip ?_
      refine J.block ?_
      refine J.seq ?_
      refine J.draw (ℓ := 1000000) (S := (fun _ => True)) mixed (fun w5d hSE hS_h => ?_)
      have hS : ((fun _ => True)) w5d := trivial
      have hrw5 := (Reads.of_own ho2).ext hSE
      have hoX := ho2.ext hSE
      have hG : w2.grownBy w5d (Value.ownBlock (.slice A n c)) := grown_ext hSE
      refine D.va 0 rfl (by kernel_rfl) (fun _ _ _ h => h) rfl (fun w' hw => X.move (by conv => lhs; whnf)) hS ?_
      refine D.va 1 rfl (by kernel_rfl) (fun _ _ _ h => h) rfl (fun w' hw => X.move (by conv => lhs; whnf)) hS ?_
      refine D.va 2 rfl (by kernel_rfl) (fun _ _ _ h => h) rfl (fun w' hw => X.move (by conv => lhs; whnf)) hS ?_
      refine D.va 3 rfl (by kernel_rfl) (fun _ _ _ h => h) rfl (fun w' hw => X.move (by conv => lhs; whnf)) hS ?_
      refine D.va 4 rfl (by kernel_rfl) (fun _ _ _ h => h) rfl (fun w' hw => X.move (by conv => lhs; whnf)) hS ?_
      refine D.va 5 rfl (by kernel_rfl) (fun _ _ _ h => h) rfl (fun w' hw => X.move (by conv => lhs; whnf)) hS ?_
      refine D.va 6 rfl (by kernel_rfl) (fun _ _ _ h => h) rfl (fun w' hw => (by first | exact X.index1n rfl rfl Try.underlying74 sz_3 (by first | exact Option.some_ne_none _ | exact hA) (by omega) | exact X.index1 rfl rfl Try.underlying74 sz_3 (by first | exact Option.some_ne_none _ | exact hA) (by omega))) hS ?_
      refine D.va 8 rfl (by kernel_rfl) (fun _ _ _ h => h) rfl (fun w' hw => X.move (by conv => lhs; whnf)) hS ?_
      refine D.va 9 rfl (by kernel_rfl) (fun _ _ _ h => h) rfl (fun w' hw => X.move (by conv => lhs; whnf)) hS ?_
      refine D.va 10 rfl (by kernel_rfl) (fun _ _ _ h => h) rfl (fun w' hw => (by first | exact X.index1n rfl rfl Try.underlying74 sz_3 (by first | exact Option.some_ne_none _ | exact hA) (by omega) | exact X.index1 rfl rfl Try.underlying74 sz_3 (by first | exact Option.some_ne_none _ | exact hA) (by omega))) hS ?_
      refine D.two 7 11 (by kernel_rfl) rfl rfl ?_ ?_
      · refine L.va rfl (X.load rfl sc_3 (Ld.num hrw5 (j := k) (by omega))) ?_
        refine L.nil ?_
        refine ⟨fun _ => hS, ?_⟩
        refine D.one 11 (by kernel_rfl) rfl ?_
        refine L.va rfl (X.load rfl sc_3 (Ld.num hrw5 (j := i) (by omega))) ?_
        refine L.nil ?_
        refine ⟨fun _ => hS, ?_⟩
        refine D.va 12 rfl (by kernel_rfl) (fun _ _ _ h => h) rfl (fun w' hw => (by first | exact X.index1n rfl rfl Try.underlying74 sz_3 (by first | exact Option.some_ne_none _ | exact hA) (by omega) | exact X.index1 rfl rfl Try.underlying74 sz_3 (by first | exact Option.some_ne_none _ | exact hA) (by omega))) hS ?_
        refine D.one 13 (by kernel_rfl) rfl ?_
        refine L.storeON rfl rfl (by conv => lhs; whnf) sz_3 (hoX) (by omega) ?_
        intro w5 hoX hg2 hb2 hs2
        have hS1 := trivial
        refine L.nil ?_
        refine ⟨fun _ => hS1, ?_⟩
        replace hG := grb_trans hG hg2
        refine D.va 14 rfl (by kernel_rfl) (fun _ _ _ h => h) rfl (fun w' hw => (by first | exact X.index1n rfl rfl Try.underlying74 sz_3 (by first | exact Option.some_ne_none _ | exact hA) (by omega) | exact X.index1 rfl rfl Try.underlying74 sz_3 (by first | exact Option.some_ne_none _ | exact hA) (by omega))) hS1 ?_
        refine D.one 15 (by kernel_rfl) rfl ?_
        refine L.storeON rfl rfl (by conv => lhs; whnf) sz_3 (hoX) (by omega) ?_
        intro w5 hoX hg2 hb2 hs2
        have hS2 := trivial
        refine L.nil ?_
        refine ⟨fun _ => hS2, ?_⟩
        replace hG := grb_trans hG hg2
        refine D.done (by kernel_rfl) ?_
        refine J.seq ?_
        refine J.region ?_
        refine L.va rfl (X.move (by conv => lhs; whnf)) ?_
        refine L.va rfl (X.add rfl rfl (by omega)) ?_
        refine L.va rfl (X.assign (by conv => lhs; whnf)) ?_
        refine L.nil ?_
        refine J.region ?_
        refine L.va rfl (X.move (by conv => lhs; whnf)) ?_
        refine L.va rfl (X.sub rfl rfl (by omega)) ?_
        refine L.va rfl (X.assign (by conv => lhs; whnf)) ?_
        refine L.nil ?_
        refine ⟨(i + 1, (k : Int) - 1, swp m i k), At2 (by first | rfl | exact at_int rfl (by omega) | exact at_slice rfl (by omega) | exact at_int rfl (by simp)) (by first | rfl | exact at_int rfl (by omega) | exact at_slice rfl (by omega) | exact at_int rfl (by simp)), (by (iterate 23 refine Agr.lk rfl ?_); exact Agr.lk rfl (Agr.hav rfl Agr.rfl')), ?_⟩
        exact ⟨⟨by omega, by omega, by omega, by omega, ⟨hoX, grb_trans M.g hG, .step M.p ⟨by omega, by omega⟩ ⟨by omega, by omega⟩ (by omega)⟩⟩, by show a + h - (i + 1) < a + h - i; omega⟩
      · refine L.va rfl (X.load rfl sc_3 (Ld.num hrw5 (j := i) (by omega))) ?_
        refine L.nil ?_
        refine ⟨fun _ => hS, ?_⟩
        refine D.one 7 (by kernel_rfl) rfl ?_
        refine L.va rfl (X.load rfl sc_3 (Ld.num hrw5 (j := k) (by omega))) ?_
        refine L.nil ?_
        refine ⟨fun _ => hS, ?_⟩
        refine D.va 12 rfl (by kernel_rfl) (fun _ _ _ h => h) rfl (fun w' hw => (by first | exact X.index1n rfl rfl Try.underlying74 sz_3 (by first | exact Option.some_ne_none _ | exact hA) (by omega) | exact X.index1 rfl rfl Try.underlying74 sz_3 (by first | exact Option.some_ne_none _ | exact hA) (by omega))) hS ?_
        refine D.one 13 (by kernel_rfl) rfl ?_
        refine L.storeON rfl rfl (by conv => lhs; whnf) sz_3 (hoX) (by omega) ?_
        intro w5 hoX hg2 hb2 hs2
        have hS1 := trivial
        refine L.nil ?_
        refine ⟨fun _ => hS1, ?_⟩
        replace hG := grb_trans hG hg2
        refine D.va 14 rfl (by kernel_rfl) (fun _ _ _ h => h) rfl (fun w' hw => (by first | exact X.index1n rfl rfl Try.underlying74 sz_3 (by first | exact Option.some_ne_none _ | exact hA) (by omega) | exact X.index1 rfl rfl Try.underlying74 sz_3 (by first | exact Option.some_ne_none _ | exact hA) (by omega))) hS1 ?_
        refine D.one 15 (by kernel_rfl) rfl ?_
        refine L.storeON rfl rfl (by conv => lhs; whnf) sz_3 (hoX) (by omega) ?_
        intro w5 hoX hg2 hb2 hs2
        have hS2 := trivial
        refine L.nil ?_
        refine ⟨fun _ => hS2, ?_⟩
        replace hG := grb_trans hG hg2
        refine D.done (by kernel_rfl) ?_
        refine J.seq ?_
        refine J.region ?_
        refine L.va rfl (X.move (by conv => lhs; whnf)) ?_
        refine L.va rfl (X.add rfl rfl (by omega)) ?_
        refine L.va rfl (X.assign (by conv => lhs; whnf)) ?_
        refine L.nil ?_
        refine J.region ?_
        refine L.va rfl (X.move (by conv => lhs; whnf)) ?_
        refine L.va rfl (X.sub rfl rfl (by omega)) ?_
        refine L.va rfl (X.assign (by conv => lhs; whnf)) ?_
        refine L.nil ?_
        refine ⟨(i + 1, (k : Int) - 1, swp m i k), At2 (by first | rfl | exact at_int rfl (by omega) | exact at_slice rfl (by omega) | exact at_int rfl (by simp)) (by first | rfl | exact at_int rfl (by omega) | exact at_slice rfl (by omega) | exact at_int rfl (by simp)), (by (iterate 23 refine Agr.lk rfl ?_); exact Agr.lk rfl (Agr.hav rfl Agr.rfl')), ?_⟩
        exact ⟨⟨by omega, by omega, by omega, by omega, ⟨hoX, grb_trans M.g hG, .step M.p ⟨by omega, by omega⟩ ⟨by omega, by omega⟩ (by omega)⟩⟩, by show a + h - (i + 1) < a + h - i; omega⟩
    · refine J.exit ?_
      refine thn_exit <| thn_exit <| inB_eq ?_
      refine fin0 (.inr rfl) ?_
      exact ⟨rfl, m, M⟩
theorem order2I (A : Option Addr) (n c a b sb s : Nat) (l : List Int) (w : World) (hr : Reads w sb 1 A n (nums .i64 l)) (hk : Blk w sb 3 #[.int .i64 (s : Int)]) (hs : s ≤ 1000) (ha : a < n) (hb : b < n) (hn : n ≤ 900000) :
    Calls Try.prog 143 #[.slice A n c, .int .i64 (a : Int), .int .i64 (b : Int), .pointer (some ⟨sb, 0, none⟩)] w fun e w' => ∃ x y s' : Nat, e = .returned (.tuple #[.int .i64 (x : Int), .int .i64 (y : Int)]) ∧ (x = a ∨ x = b) ∧ (y = a ∨ y = b) ∧ s' ≤ s + 1 ∧ Blk w' sb 3 #[.int .i64 (s' : Int)] ∧ Reads w' sb 1 A n (nums .i64 l) ∧ w.grownBy w' (some sb) := by
  have hA := hr.some_ (by omega)
  refine enter Try.func143 rfl (by kernel_rfl) ?_
  refine J.seq ?_
  refine J.region ?_
  refine L.va rfl (X.assign (by conv => lhs; whnf)) ?_
  refine L.va rfl (X.assign (by conv => lhs; whnf)) ?_
  refine L.nil ?_
  refine J.seq ?_
  refine J.seq ?_
  refine J.quiet mixed (by kernel_rfl) ?_
  refine Qt.va rfl (fun w' hw => X.move (by conv => lhs; whnf)) ?_
  refine Qt.va rfl (fun w' hw => X.move (by conv => lhs; whnf)) ?_
  refine Qt.va rfl (fun w' hw => (by first | exact X.index1n rfl rfl Try.underlying74 sz_3 (by first | exact Option.some_ne_none _ | exact hr.some_ (by omega) | exact hA) (by omega) | exact X.index1 rfl rfl Try.underlying74 sz_3 (by first | exact Option.some_ne_none _ | exact hr.some_ (by omega) | exact hA) (by omega))) ?_
  refine Qt.va rfl (fun w' hw => X.load rfl sc_3 (by first | exact Ld.num (hr.ext hw) (by omega) | exact hA)) ?_
  refine Qt.va rfl (fun w' hw => X.move (by conv => lhs; whnf)) ?_
  refine Qt.va rfl (fun w' hw => X.move (by conv => lhs; whnf)) ?_
  refine Qt.va rfl (fun w' hw => (by first | exact X.index1n rfl rfl Try.underlying74 sz_3 (by first | exact Option.some_ne_none _ | exact hr.some_ (by omega) | exact hA) (by omega) | exact X.index1 rfl rfl Try.underlying74 sz_3 (by first | exact Option.some_ne_none _ | exact hr.some_ (by omega) | exact hA) (by omega))) ?_
  refine Qt.va rfl (fun w' hw => X.load rfl sc_3 (by first | exact Ld.num (hr.ext hw) (by omega) | exact hA)) ?_
  refine Qt.call rfl en_128 rfl (fun w' hw => calls_same hw (clessI (l.getD b 0) (l.getD a 0) w')) ?_
  refine Qt.nil (fun w1 hq => ?_)
  have hk1 := hk.ext hq
  have hr1 := hr.ext hq
  refine J.ite rfl (fun hd => ?_) (fun hd => ?_)
  · skip
    refine J.seq ?_
    refine J.region ?_
    refine L.va rfl (X.move (by conv => lhs; whnf)) ?_
    refine L.va rfl (X.nilCheck rfl) ?_
    refine L.va rfl (X.load rfl sc_3 (by first | exact Ld.blk hk1 rfl | exact hA)) ?_
    refine L.va rfl (X.add rfl rfl (by omega)) ?_
    refine L.va rfl (X.nilCheck rfl) ?_
    refine L.store rfl rfl (by conv => lhs; whnf) rfl sz_3 (hk1) (by first | decide | exact Nat.le_of_ble_eq_true rfl) ?_
    intro w2 hk2 hg2 hs2
    have hk2 : Blk w2 sb 3 #[.int .i64 ((s : Int) + 1)] := hk2
    refine L.nil ?_
    refine J.seq ?_
    refine J.region ?_
    refine L.va rfl (X.move (by conv => lhs; whnf)) ?_
    refine L.va rfl (X.move (by conv => lhs; whnf)) ?_
    refine L.va rfl (X.assign (by conv => lhs; whnf)) ?_
    refine L.va rfl (X.assign (by conv => lhs; whnf)) ?_
    refine L.nil ?_
    refine J.ret ?_
    refine thn_ret <| ?_
    refine fin2 ?_
    exact ⟨b, a, s + 1, rfl, .inr rfl, .inl rfl, Nat.le_refl _, hk2, hr1.grown hg2 (Nat.le_of_lt hk1.lt) (fun g hg => by injection hg with hg; omega), grb_trans (grown_ext hq) hg2⟩
  · refine J.skip ?_
    refine J.seq ?_
    refine J.region ?_
    refine L.va rfl (X.move (by conv => lhs; whnf)) ?_
    refine L.va rfl (X.move (by conv => lhs; whnf)) ?_
    refine L.va rfl (X.assign (by conv => lhs; whnf)) ?_
    refine L.va rfl (X.assign (by conv => lhs; whnf)) ?_
    refine L.nil ?_
    refine J.ret ?_
    refine fin2 ?_
    exact ⟨a, b, s, rfl, .inl rfl, .inr rfl, by omega, hk1, hr1, grown_ext hq⟩
theorem medianI (A : Option Addr) (n c a b d sb s : Nat) (l : List Int) (w : World) (hr : Reads w sb 1 A n (nums .i64 l)) (hk : Blk w sb 3 #[.int .i64 (s : Int)]) (hs : s ≤ 900) (ha : a < n) (hb : b < n) (hd : d < n) (hn : n ≤ 900000) :
    Calls Try.prog 140 #[.slice A n c, .int .i64 (a : Int), .int .i64 (b : Int), .int .i64 (d : Int), .pointer (some ⟨sb, 0, none⟩)] w fun e w' => ∃ x s' : Nat, e = .returned (.int .i64 (x : Int)) ∧ (x = a ∨ x = b ∨ x = d) ∧ s' ≤ s + 3 ∧ Blk w' sb 3 #[.int .i64 (s' : Int)] ∧ Reads w' sb 1 A n (nums .i64 l) ∧ w.grownBy w' (some sb) := by
  refine enter Try.func140 rfl (by kernel_rfl) ?_
  refine J.seq ?_
  refine J.region ?_
  refine L.va rfl (X.assign (by conv => lhs; whnf)) ?_
  refine L.nil ?_
  refine J.seq ?_
  refine J.region ?_
  refine L.va rfl (X.move (by conv => lhs; whnf)) ?_
  refine L.va rfl (X.move (by conv => lhs; whnf)) ?_
  refine L.va rfl (X.move (by conv => lhs; whnf)) ?_
  refine L.va rfl (X.move (by conv => lhs; whnf)) ?_
  refine L.call rfl en_143 rfl (order2I A n c a b sb s l w hr hk (by omega) ha hb hn) ?_
  rintro e w1 ⟨x1, y1, s1, rfl, hx1, hy1, hs1, hk1, hr1, hg1⟩
  refine ⟨_, rfl, ?_⟩
  refine L.va rfl (X.move (by conv => lhs; whnf)) ?_
  refine L.va rfl (X.extract rfl rfl) ?_
  refine L.va rfl (X.extract rfl rfl) ?_
  refine L.va rfl (X.assign (by conv => lhs; whnf)) ?_
  refine L.va rfl (X.assign (by conv => lhs; whnf)) ?_
  refine L.nil ?_
  refine J.seq ?_
  refine J.region ?_
  refine L.va rfl (X.move (by conv => lhs; whnf)) ?_
  refine L.va rfl (X.move (by conv => lhs; whnf)) ?_
  refine L.va rfl (X.move (by conv => lhs; whnf)) ?_
  refine L.va rfl (X.move (by conv => lhs; whnf)) ?_
  refine L.call rfl en_143 rfl (order2I A n c y1 d sb s1 l w1 hr1 hk1 (by omega) (by omega) hd hn) ?_
  rintro e w2 ⟨x2, y2, s2, rfl, hx2, hy2, hs2, hk2, hr2, hg2⟩
  refine ⟨_, rfl, ?_⟩
  refine L.va rfl (X.move (by conv => lhs; whnf)) ?_
  refine L.va rfl (X.extract rfl rfl) ?_
  refine L.va rfl (X.extract rfl rfl) ?_
  refine L.va rfl (X.assign (by conv => lhs; whnf)) ?_
  refine L.va rfl (X.assign (by conv => lhs; whnf)) ?_
  refine L.nil ?_
  refine J.seq ?_
  refine J.region ?_
  refine L.va rfl (X.move (by conv => lhs; whnf)) ?_
  refine L.va rfl (X.move (by conv => lhs; whnf)) ?_
  refine L.va rfl (X.move (by conv => lhs; whnf)) ?_
  refine L.va rfl (X.move (by conv => lhs; whnf)) ?_
  refine L.call rfl en_143 rfl (order2I A n c x1 x2 sb s2 l w2 hr2 hk2 (by omega) (by omega) (by omega) hn) ?_
  rintro e w3 ⟨x3, y3, s3, rfl, hx3, hy3, hs3, hk3, hr3, hg3⟩
  refine ⟨_, rfl, ?_⟩
  refine L.va rfl (X.move (by conv => lhs; whnf)) ?_
  refine L.va rfl (X.extract rfl rfl) ?_
  refine L.va rfl (X.extract rfl rfl) ?_
  refine L.va rfl (X.assign (by conv => lhs; whnf)) ?_
  refine L.va rfl (X.assign (by conv => lhs; whnf)) ?_
  refine L.nil ?_
  refine J.seq ?_
  refine J.region ?_
  refine L.va rfl (X.move (by conv => lhs; whnf)) ?_
  refine L.va rfl (X.assign (by conv => lhs; whnf)) ?_
  refine L.nil ?_
  refine J.ret ?_
  refine fin1 ?_
  exact ⟨y3, s3, rfl, by omega, by omega, hk3, hr3, grb_trans (grb_trans hg1 hg2) hg3⟩
theorem medadjI (A : Option Addr) (n c a sb s : Nat) (l : List Int) (w : World) (hr : Reads w sb 1 A n (nums .i64 l)) (hk : Blk w sb 3 #[.int .i64 (s : Int)]) (hs : s ≤ 900) (ha : a + 2 < n) (hn : n ≤ 900000) :
    Calls Try.prog 139 #[.slice A n c, .int .i64 ((a + 1 : Nat) : Int), .pointer (some ⟨sb, 0, none⟩)] w fun e w' => ∃ x s' : Nat, e = .returned (.int .i64 (x : Int)) ∧ a ≤ x ∧ x ≤ a + 2 ∧ s' ≤ s + 3 ∧ Blk w' sb 3 #[.int .i64 (s' : Int)] ∧ Reads w' sb 1 A n (nums .i64 l) ∧ w.grownBy w' (some sb) := by
  have e1 : ((a + 1 : Nat) : Int) - 1 = (a : Int) := by omega
  have e2 : ((a + 1 : Nat) : Int) + 1 = ((a + 2 : Nat) : Int) := by omega
  have c1 := medianI A n c a (a + 1) (a + 2) sb s l w hr hk hs (by omega) (by omega) (by omega) hn
  rw [← e1, ← e2] at c1
  refine enter Try.func139 rfl (by kernel_rfl) ?_
  refine J.seq ?_
  refine J.region ?_
  refine L.va rfl (X.assign (by conv => lhs; whnf)) ?_
  refine L.nil ?_
  refine J.seq ?_
  refine J.region ?_
  refine L.va rfl (X.move (by conv => lhs; whnf)) ?_
  refine L.va rfl (X.move (by conv => lhs; whnf)) ?_
  refine L.va rfl (X.sub rfl rfl (by omega)) ?_
  refine L.va rfl (X.move (by conv => lhs; whnf)) ?_
  refine L.va rfl (X.move (by conv => lhs; whnf)) ?_
  refine L.va rfl (X.add rfl rfl (by omega)) ?_
  refine L.va rfl (X.move (by conv => lhs; whnf)) ?_
  refine L.call rfl en_140 rfl (c1) ?_
  rintro e w1 ⟨x, s', rfl, hx, hs', hk1, hr1, hg1⟩
  refine ⟨_, rfl, ?_⟩
  refine L.va rfl (X.assign (by conv => lhs; whnf)) ?_
  refine L.nil ?_
  refine J.ret ?_
  refine fin1 ?_
  exact ⟨x, s', rfl, by omega, by omega, hs', hk1, hr1, hg1⟩
theorem pivotI (A : Option Addr) (n c N a h : Nat) (l : List Int) (w : World) (ho : w.ownsRow N 3 1 (.slice A n c) n (nums .i64 l)) (hf : a + h ≤ n) (hn : n ≤ 900000) (h0 : 12 < h) :
    Calls Try.prog 125 #[.slice A n c, .int .i64 (a : Int), .int .i64 ((a + h : Nat) : Int)] w fun e w' => ∃ p k : Nat, e = .returned (.tuple #[.int .i64 (p : Int), .int .i64 (k : Int)]) ∧ a ≤ p ∧ p < a + h ∧ k ≤ 2 ∧ Ext w w' := by
  have eh : ((a + h : Nat) : Int) - (a : Int) = (h : Int) := by omega
  have e1 : (a : Int) + (h : Int) / 4 * 1 = ((a + h / 4 : Nat) : Int) := by omega
  have e2 : (a : Int) + (h : Int) / 4 * 2 = ((a + h / 4 * 2 : Nat) : Int) := by omega
  have e3 : (a : Int) + (h : Int) / 4 * 3 = ((a + h / 4 * 3 : Nat) : Int) := by omega
  refine enter Try.func125 rfl (by kernel_rfl) ?_
  refine J.seq ?_
  refine J.region ?_
  refine L.va rfl (X.assign (by conv => lhs; whnf)) ?_
  refine L.va rfl (X.assign (by conv => lhs; whnf)) ?_
  refine L.nil ?_
  refine J.seq ?_
  refine J.region ?_
  refine L.va rfl (X.move (by conv => lhs; whnf)) ?_
  refine L.va rfl (X.move (by conv => lhs; whnf)) ?_
  refine L.va rfl (X.sub rfl rfl (by omega)) ?_
  refine L.va rfl (X.assign (by conv => lhs; whnf)) ?_
  refine L.nil ?_
  rw [eh]
  refine J.seq ?_
  refine J.region ?_
  refine L.alloc rfl zr_3 ?_
  intro sb w1 hsb hs1 hk1 he1
  have hr1 : Reads w1 sb 1 A n (nums .i64 l) := by
    have := (Reads.of_own ho).ext he1
    rwa [← hsb] at this
  have hwb : w.heap.size ≤ sb := by omega
  have hk1 : Blk w1 sb 3 #[.int .i64 ((0 : Nat) : Int)] := hk1
  refine L.nil ?_
  refine J.seq ?_
  refine J.region ?_
  refine L.va rfl (X.move (by conv => lhs; whnf)) ?_
  refine L.va rfl (X.move (by conv => lhs; whnf)) ?_
  refine L.va rfl (X.quo rfl rfl (by omega)) ?_
  refine L.va rfl (X.mul rfl rfl (by omega)) ?_
  refine L.va rfl (X.add rfl rfl (by omega)) ?_
  refine L.va rfl (X.assign (by conv => lhs; whnf)) ?_
  refine L.nil ?_
  rw [e1]
  refine J.seq ?_
  refine J.region ?_
  refine L.va rfl (X.move (by conv => lhs; whnf)) ?_
  refine L.va rfl (X.move (by conv => lhs; whnf)) ?_
  refine L.va rfl (X.quo rfl rfl (by omega)) ?_
  refine L.va rfl (X.mul rfl rfl (by omega)) ?_
  refine L.va rfl (X.add rfl rfl (by omega)) ?_
  refine L.va rfl (X.assign (by conv => lhs; whnf)) ?_
  refine L.nil ?_
  rw [e2]
  refine J.seq ?_
  refine J.region ?_
  refine L.va rfl (X.move (by conv => lhs; whnf)) ?_
  refine L.va rfl (X.move (by conv => lhs; whnf)) ?_
  refine L.va rfl (X.quo rfl rfl (by omega)) ?_
  refine L.va rfl (X.mul rfl rfl (by omega)) ?_
  refine L.va rfl (X.add rfl rfl (by omega)) ?_
  refine L.va rfl (X.assign (by conv => lhs; whnf)) ?_
  refine L.nil ?_
  rw [e3]
  refine J.seq ?_
  refine J.seq ?_
  refine J.region ?_
  refine L.va rfl (X.move (by conv => lhs; whnf)) ?_
  refine L.va rfl (X.geq rfl rfl) ?_
  refine L.nil ?_
  refine J.decT rfl (by omega) ?_
  refine J.cut (X := Nat × Nat × Nat × Nat) [10, 11, 12, 33, 34, 35, 36, 37, 38, 39, 40, 41, 42, 43] (fun (i, j, k, s) => [(10, .int .i64 (i : Int)), (11, .int .i64 (j : Int)), (12, .int .i64 (k : Int))]) (fun (i, j, k, s) w' => a ≤ i ∧ i < a + h ∧ a ≤ j ∧ j < a + h ∧ a ≤ k ∧ k < a + h ∧ s ≤ 9 ∧ Blk w' sb 3 #[.int .i64 (s : Int)] ∧ Reads w' sb 1 A n (nums .i64 l) ∧ w1.grownBy w' (some sb)) ?_ ?_
  · refine J.seq ?_
    refine J.region ?_
    refine L.va rfl (X.move (by conv => lhs; whnf)) ?_
    refine L.va rfl (X.geq rfl rfl) ?_
    refine L.nil ?_
    refine J.dec rfl (fun h50 => ?_) (fun h50 => ?_)
    · have q1 : a + h / 4 = (a + h / 4 - 1) + 1 := by omega
      have q2 : a + h / 4 * 2 = (a + h / 4 * 2 - 1) + 1 := by omega
      have q3 : a + h / 4 * 3 = (a + h / 4 * 3 - 1) + 1 := by omega
      have c1 := medadjI A n c (a + h / 4 - 1) sb 0 l w1 hr1 hk1 (by omega) (by omega) hn
      rw [← q1] at c1
      refine J.seq ?_
      refine J.region ?_
      refine L.va rfl (X.move (by conv => lhs; whnf)) ?_
      refine L.va rfl (X.move (by conv => lhs; whnf)) ?_
      refine L.call rfl en_139 rfl (c1) ?_
      rintro e w2 ⟨x1, s1, rfl, hx1, hy1, hs1, hk2, hr2, hg2⟩
      refine ⟨_, rfl, ?_⟩
      have c2 := medadjI A n c (a + h / 4 * 2 - 1) sb s1 l w2 hr2 hk2 (by omega) (by omega) hn
      rw [← q2] at c2
      refine L.va rfl (X.assign (by conv => lhs; whnf)) ?_
      refine L.nil ?_
      refine J.seq ?_
      refine J.region ?_
      refine L.va rfl (X.move (by conv => lhs; whnf)) ?_
      refine L.va rfl (X.move (by conv => lhs; whnf)) ?_
      refine L.call rfl en_139 rfl (c2) ?_
      rintro e w3 ⟨x2, s2, rfl, hx2, hy2, hs2, hk3, hr3, hg3⟩
      refine ⟨_, rfl, ?_⟩
      have c3 := medadjI A n c (a + h / 4 * 3 - 1) sb s2 l w3 hr3 hk3 (by omega) (by omega) hn
      rw [← q3] at c3
      refine L.va rfl (X.assign (by conv => lhs; whnf)) ?_
      refine L.nil ?_
      refine J.region ?_
      refine L.va rfl (X.move (by conv => lhs; whnf)) ?_
      refine L.va rfl (X.move (by conv => lhs; whnf)) ?_
      refine L.call rfl en_139 rfl (c3) ?_
      rintro e w4 ⟨x3, s3, rfl, hx3, hy3, hs3, hk4, hr4, hg4⟩
      refine ⟨_, rfl, ?_⟩
      refine L.va rfl (X.assign (by conv => lhs; whnf)) ?_
      refine L.nil ?_
      refine ⟨(x1, x2, x3, s3), At3 (by first | rfl | exact at_int rfl (by omega) | exact at_slice rfl (by omega) | exact at_int rfl (by simp)) (by first | rfl | exact at_int rfl (by omega) | exact at_slice rfl (by omega) | exact at_int rfl (by simp)) (by first | rfl | exact at_int rfl (by omega) | exact at_slice rfl (by omega) | exact at_int rfl (by simp)), (by (iterate 14 refine Agr.lk rfl ?_); exact Agr.rfl'), ?_⟩
      exact ⟨by omega, by omega, by omega, by omega, by omega, by omega, by omega, hk4, hr4, grb_trans (grb_trans hg2 hg3) hg4⟩
    · refine J.skip ?_
      refine ⟨(a + h / 4, a + h / 4 * 2, a + h / 4 * 3, 0), At3 (by first | rfl | exact at_int rfl (by omega) | exact at_slice rfl (by omega) | exact at_int rfl (by simp)) (by first | rfl | exact at_int rfl (by omega) | exact at_slice rfl (by omega) | exact at_int rfl (by simp)) (by first | rfl | exact at_int rfl (by omega) | exact at_slice rfl (by omega) | exact at_int rfl (by simp)), (by (iterate 2 refine Agr.lk rfl ?_); exact Agr.rfl'), ?_⟩
      exact ⟨by omega, by omega, by omega, by omega, by omega, by omega, by omega, hk1, hr1, grown_ext (Ext.refl _)⟩
  · rintro ⟨i, j, k, s⟩ g w2 ⟨i1, i2, j1, j2, k1, k2, hs, hk2, hr2, hg2⟩
    refine J.region ?_
    refine L.va rfl (X.move (by conv => lhs; whnf)) ?_
    refine L.va rfl (X.move (by conv => lhs; whnf)) ?_
    refine L.va rfl (X.move (by conv => lhs; whnf)) ?_
    refine L.va rfl (X.move (by conv => lhs; whnf)) ?_
    refine L.call rfl en_140 rfl (medianI A n c i j k sb s l w2 hr2 hk2 (by omega) (by omega) (by omega) (by omega) hn) ?_
    rintro e w3 ⟨x, s', rfl, hx, hs', hk3, hr3, hg3⟩
    refine ⟨_, rfl, ?_⟩
    have hE : Ext w w3 := he1.grw (grb_trans hg2 hg3) (by intro g hg; injection hg with hg; omega)
    refine L.va rfl (X.assign (by conv => lhs; whnf)) ?_
    refine L.nil ?_
    refine J.seq ?_
    refine J.region ?_
    refine L.va rfl (X.load rfl sc_3 (by first | exact Ld.blk hk3 rfl)) ?_
    refine L.nil ?_
    refine J.block ?_
    refine J.seq ?_
    refine J.region ?_
    refine L.va rfl (X.eql rfl rfl) ?_
    refine L.va rfl (X.assign (by conv => lhs; whnf)) ?_
    refine L.nil ?_
    refine J.dec rfl (fun hz => ?_) (fun hz => ?_)
    · refine J.seq ?_
      refine J.region ?_
      refine L.va rfl (X.move (by conv => lhs; whnf)) ?_
      refine L.va rfl (X.assign (by conv => lhs; whnf)) ?_
      refine L.va rfl (X.assign (by conv => lhs; whnf)) ?_
      refine L.nil ?_
      refine J.ret ?_
      refine inB_ret <| ?_
      refine fin2 ?_
      exact ⟨x, 1, rfl, by omega, by omega, by omega, hE⟩
    · refine J.seq ?_
      refine J.region ?_
      refine L.va rfl (X.eql rfl rfl) ?_
      refine L.va rfl (X.assign (by conv => lhs; whnf)) ?_
      refine L.nil ?_
      refine J.dec rfl (fun hz => ?_) (fun hz => ?_)
      · refine J.seq ?_
        refine J.region ?_
        refine L.va rfl (X.move (by conv => lhs; whnf)) ?_
        refine L.va rfl (X.assign (by conv => lhs; whnf)) ?_
        refine L.va rfl (X.assign (by conv => lhs; whnf)) ?_
        refine L.nil ?_
        refine J.ret ?_
        refine inB_ret <| ?_
        refine fin2 ?_
        exact ⟨x, 2, rfl, by omega, by omega, by omega, hE⟩
      · refine J.seq ?_
        refine J.region ?_
        refine L.va rfl (X.move (by conv => lhs; whnf)) ?_
        refine L.va rfl (X.assign (by conv => lhs; whnf)) ?_
        refine L.va rfl (X.assign (by conv => lhs; whnf)) ?_
        refine L.nil ?_
        refine J.ret ?_
        refine inB_ret <| ?_
        refine fin2 ?_
        exact ⟨x, 0, rfl, by omega, by omega, by omega, hE⟩
end Go.Proofs.Ytpomklkfedpkfaa
namespace Go.Proofs.Ytpomklkfedpkfaa
set_option maxRecDepth 100000
open Go.RowKit H
open Srt
set_option linter.unusedVariables false
theorem parteqI (A : Option Addr) (n c N a b p : Nat) (l : List Int) (w : World) (ho : w.ownsRow N 3 1 (.slice A n c) n (nums .i64 l)) (hb : b ≤ n) (hn : n ≤ 900000) (hp : a ≤ p ∧ p < b) :
    Calls Try.prog 129 #[.slice A n c, .int .i64 (a : Int), .int .i64 (b : Int), .int .i64 (p : Int)] w fun e w' => ∃ (l' : List Int) (q : Nat), e = .returned (.int .i64 (q : Int)) ∧ SwI w w' A n c N a b l l' ∧ a < q ∧ q ≤ b ∧ (∀ k, a ≤ k → k < q → l'.getD k 0 ≤ l.getD p 0) ∧ ∀ k, q ≤ k → k < b → l.getD p 0 < l'.getD k 0 := by
  have hl : l.length = n := by have := ho.1; simpa [nums] using this
  have hA := (Reads.of_own ho).some_ (by omega)
  have e0 : (b : Int) - 1 = ((b - 1 : Nat) : Int) := by omega
  refine enter Try.func129 rfl (by kernel_rfl) ?_
  refine J.seq ?_
  refine J.region ?_
  refine L.va rfl (X.assign (by conv => lhs; whnf)) ?_
  refine L.nil ?_
  refine J.seq ?_
  refine J.draw (ℓ := 1000000) (S := (fun _ => True)) mixed (fun w2d hSE hS_h => ?_)
  have hS : ((fun _ => True)) w2d := trivial
  have hrw2 := (Reads.of_own ho).ext hSE
  have hoX := ho.ext hSE
  have hG : w.grownBy w2d (Value.ownBlock (.slice A n c)) := grown_ext hSE
  refine D.va 0 rfl (by kernel_rfl) (fun _ _ _ h => h) rfl (fun w' hw => X.move (by conv => lhs; whnf)) hS ?_
  refine D.va 1 rfl (by kernel_rfl) (fun _ _ _ h => h) rfl (fun w' hw => X.move (by conv => lhs; whnf)) hS ?_
  refine D.va 2 rfl (by kernel_rfl) (fun _ _ _ h => h) rfl (fun w' hw => X.move (by conv => lhs; whnf)) hS ?_
  refine D.va 3 rfl (by kernel_rfl) (fun _ _ _ h => h) rfl (fun w' hw => X.move (by conv => lhs; whnf)) hS ?_
  refine D.va 4 rfl (by kernel_rfl) (fun _ _ _ h => h) rfl (fun w' hw => X.move (by conv => lhs; whnf)) hS ?_
  refine D.va 5 rfl (by kernel_rfl) (fun _ _ _ h => h) rfl (fun w' hw => X.move (by conv => lhs; whnf)) hS ?_
  refine D.va 6 rfl (by kernel_rfl) (fun _ _ _ h => h) rfl (fun w' hw => (by first | exact X.index1n rfl rfl Try.underlying74 sz_3 (by first | exact Option.some_ne_none _ | exact hA) (by omega) | exact X.index1 rfl rfl Try.underlying74 sz_3 (by first | exact Option.some_ne_none _ | exact hA) (by omega))) hS ?_
  refine D.va 8 rfl (by kernel_rfl) (fun _ _ _ h => h) rfl (fun w' hw => X.move (by conv => lhs; whnf)) hS ?_
  refine D.va 9 rfl (by kernel_rfl) (fun _ _ _ h => h) rfl (fun w' hw => X.move (by conv => lhs; whnf)) hS ?_
  refine D.va 10 rfl (by kernel_rfl) (fun _ _ _ h => h) rfl (fun w' hw => (by first | exact X.index1n rfl rfl Try.underlying74 sz_3 (by first | exact Option.some_ne_none _ | exact hA) (by omega) | exact X.index1 rfl rfl Try.underlying74 sz_3 (by first | exact Option.some_ne_none _ | exact hA) (by omega))) hS ?_
  refine D.two 7 11 (by kernel_rfl) rfl rfl ?_ ?_
  · refine L.va rfl (X.load rfl sc_3 (Ld.num hrw2 (j := p) (by omega))) ?_
    refine L.nil ?_
    refine ⟨fun _ => hS, ?_⟩
    refine D.one 11 (by kernel_rfl) rfl ?_
    refine L.va rfl (X.load rfl sc_3 (Ld.num hrw2 (j := a) (by omega))) ?_
    refine L.nil ?_
    refine ⟨fun _ => hS, ?_⟩
    refine D.va 12 rfl (by kernel_rfl) (fun _ _ _ h => h) rfl (fun w' hw => (by first | exact X.index1n rfl rfl Try.underlying74 sz_3 (by first | exact Option.some_ne_none _ | exact hA) (by omega) | exact X.index1 rfl rfl Try.underlying74 sz_3 (by first | exact Option.some_ne_none _ | exact hA) (by omega))) hS ?_
    refine D.one 13 (by kernel_rfl) rfl ?_
    refine L.storeON rfl rfl (by conv => lhs; whnf) sz_3 (hoX) (by omega) ?_
    intro w2 hoX hg2 hb2 hs2
    have hS1 := trivial
    refine L.nil ?_
    refine ⟨fun _ => hS1, ?_⟩
    replace hG := grb_trans hG hg2
    refine D.va 14 rfl (by kernel_rfl) (fun _ _ _ h => h) rfl (fun w' hw => (by first | exact X.index1n rfl rfl Try.underlying74 sz_3 (by first | exact Option.some_ne_none _ | exact hA) (by omega) | exact X.index1 rfl rfl Try.underlying74 sz_3 (by first | exact Option.some_ne_none _ | exact hA) (by omega))) hS1 ?_
    refine D.one 15 (by kernel_rfl) rfl ?_
    refine L.storeON rfl rfl (by conv => lhs; whnf) sz_3 (hoX) (by omega) ?_
    intro w2 hoX hg2 hb2 hs2
    have hS2 := trivial
    refine L.nil ?_
    refine ⟨fun _ => hS2, ?_⟩
    replace hG := grb_trans hG hg2
    refine D.done (by kernel_rfl) ?_
    refine J.seq ?_
    refine J.region ?_
    refine L.va rfl (X.move (by conv => lhs; whnf)) ?_
    refine L.va rfl (X.add rfl rfl (by omega)) ?_
    refine L.va rfl (X.move (by conv => lhs; whnf)) ?_
    refine L.va rfl (X.sub rfl rfl (by omega)) ?_
    refine L.va rfl (X.assign (by conv => lhs; whnf)) ?_
    refine L.va rfl (X.assign (by conv => lhs; whnf)) ?_
    refine L.nil ?_
    refine J.seq ?_
    refine J.block ?_
    have ea : (swp l a p).getD a 0 = l.getD p 0 := by
      rw [swp_at l (by omega) (by omega)]
      by_cases e : a = p
      · rw [if_pos e, e]
      · rw [if_neg e, if_pos rfl]
    have M0 : SwI w w2 A n c N a b l (swp l a p) := ⟨hoX, hG, .step (.refl _) ⟨by omega, by omega⟩ hp (by omega)⟩
    have HP0 : Pt (· ≤ ·) (fun x y => y < x) (swp l a p) a b (a + 1) (b - 1) := ⟨by omega, by omega, by omega, (fun k k1 k2 => by omega), (fun k k1 k2 => by omega)⟩
    rw [e0]
    refine J.loop (X := Nat × Nat × List Int) [9, 10, 29, 30, 31, 32, 33, 34, 35, 36, 37, 38, 39, 40, 41, 42, 43, 44, 45, 46, 47, 48, 49, 50, 51, 52, 53, 54, 55, 56, 57, 58, 59, 60, 61, 62, 63, 64, 65, 66, 67, 68, 69, 70, 71, 72, 73, 74, 75, 76, 77, 78, 79, 80, 81, 82] (fun (i, j, m) => [(9, .int .i64 (i : Int)), (10, .int .i64 (j : Int))]) (fun (i, j, m) w' => SwI w w' A n c N a b l m ∧ Pt (· ≤ ·) (fun x y => y < x) m a b i j ∧ m.getD a 0 = l.getD p 0) (fun (i, j, _) => j + 1 - i) ((a + 1, b - 1, swp l a p)) (At2 (by first | rfl | exact at_int rfl (by omega) | exact at_slice rfl (by omega) | exact at_int rfl (by simp)) (by first | rfl | exact at_int rfl (by omega) | exact at_slice rfl (by omega) | exact at_int rfl (by simp))) ?_ ?_
    · exact ⟨M0, HP0, ea⟩
    · rintro ⟨i, j, m⟩ g w3 ⟨M, HP, em⟩
      have hml : m.length = n := by rw [M.p.len, hl]
      have HO := M.o
      obtain ⟨io, hio⟩ : ∃ io, io = i := ⟨_, rfl⟩
      refine J.block ?_
      refine J.cut (X := Nat) [9, 29, 30, 31, 32, 33, 34, 35, 36, 37, 38, 39, 40, 41, 42, 43, 44, 45] (fun i => [(9, .int .i64 (i : Int))]) (fun i w' => Pt (· ≤ ·) (fun x y => y < x) m a b i j ∧ (i ≤ j → ¬ m.getD i 0 ≤ m.getD a 0) ∧ io ≤ i ∧ Ext w3 w') ?_ ?_
      · refine J.block ?_
        refine J.loop (X := Nat) [9, 29, 30, 31, 32, 33, 34, 35, 36, 37, 38, 39, 40, 41, 42, 43, 44, 45] (fun i => [(9, .int .i64 (i : Int))]) (fun i w' => Pt (· ≤ ·) (fun x y => y < x) m a b i j ∧ io ≤ i ∧ Ext w3 w') (fun i => j + 1 - i) (i) (At1 (by first | rfl | exact at_int rfl (by omega) | exact at_slice rfl (by omega) | exact at_int rfl (by simp))) ?_ ?_
        · exact ⟨HP, by omega, Ext.refl _⟩
        · rintro i g w4 ⟨HP, hbd, he⟩
          have h1 := HP.ai
          have h2 := HP.ij
          have h3 := HP.jb
          have hr := Reads.of_own (HO.ext he)
          have hA := hr.some_ (by omega)
          refine J.seq ?_
          refine J.seq ?_
          refine J.quiet mixed (by kernel_rfl) ?_
          refine Qt.va rfl (fun w' hw => X.move (by conv => lhs; whnf)) ?_
          refine Qt.va rfl (fun w' hw => X.move (by conv => lhs; whnf)) ?_
          refine Qt.va rfl (fun w' hw => X.leq rfl rfl) ?_
          refine Qt.va rfl (fun w' hw => X.move (by conv => lhs; whnf)) ?_
          refine Qt.caseDec (k := 32) rfl (fun hij => ?_) (fun hij => ?_)
          · refine Qt.va rfl (fun w' hw => X.move (by conv => lhs; whnf)) ?_
            refine Qt.va rfl (fun w' hw => X.move (by conv => lhs; whnf)) ?_
            refine Qt.va rfl (fun w' hw => (by first | exact X.index1n rfl rfl Try.underlying74 sz_3 (by first | exact Option.some_ne_none _ | exact hr.some_ (by omega) | exact hA) (by omega) | exact X.index1 rfl rfl Try.underlying74 sz_3 (by first | exact Option.some_ne_none _ | exact hr.some_ (by omega) | exact hA) (by omega))) ?_
            refine Qt.va rfl (fun w' hw => X.load rfl sc_3 (by first | exact Ld.num (hr.ext hw) (by omega) | exact hA)) ?_
            refine Qt.va rfl (fun w' hw => X.move (by conv => lhs; whnf)) ?_
            refine Qt.va rfl (fun w' hw => X.move (by conv => lhs; whnf)) ?_
            refine Qt.va rfl (fun w' hw => (by first | exact X.index1n rfl rfl Try.underlying74 sz_3 (by first | exact Option.some_ne_none _ | exact hr.some_ (by omega) | exact hA) (by omega) | exact X.index1 rfl rfl Try.underlying74 sz_3 (by first | exact Option.some_ne_none _ | exact hr.some_ (by omega) | exact hA) (by omega))) ?_
            refine Qt.va rfl (fun w' hw => X.load rfl sc_3 (by first | exact Ld.num (hr.ext hw) (by omega) | exact hA)) ?_
            refine Qt.call rfl en_128 rfl (fun w' hw => calls_same hw (clessI (m.getD a 0) (m.getD i 0) w')) ?_
            refine Qt.va rfl (fun w' hw => X.not rfl) ?_
            refine Qt.va rfl (fun w' hw => X.pickT rfl (by conv => lhs; whnf)) ?_
            refine Qt.nil (fun w5 hq => ?_)
            by_cases hd : m.getD i 0 ≤ m.getD a 0
            · rw [show decide (m.getD a 0 < m.getD i 0) = false from decide_eq_false (by omega)]
              refine J.iteT rfl ?_
              refine J.skip ?_
              refine J.block ?_
              refine J.region ?_
              refine L.va rfl (X.move (by conv => lhs; whnf)) ?_
              refine L.va rfl (X.add rfl rfl (by omega)) ?_
              refine L.va rfl (X.assign (by conv => lhs; whnf)) ?_
              refine L.nil ?_
              refine ⟨i + 1, At1 (by first | rfl | exact at_int rfl (by omega) | exact at_slice rfl (by omega) | exact at_int rfl (by simp)), (by (iterate 19 refine Agr.lk rfl ?_); exact Agr.lk rfl (Agr.hav rfl Agr.rfl')), ?_⟩
              exact ⟨⟨⟨by omega, by omega, h3, fun k k1 k2 => by
                rcases Nat.lt_or_ge k i with h | h
                · exact HP.le k k1 h
                · obtain rfl : k = i := by omega
                  exact hd, HP.ri⟩, by omega, he.trans hq⟩, by omega⟩
            · rw [show decide (m.getD a 0 < m.getD i 0) = true from decide_eq_true (by omega)]
              refine J.iteF rfl ?_
              refine J.exit ?_
              refine ⟨i, At1 (by first | rfl | exact at_int rfl (by omega) | exact at_slice rfl (by omega) | exact at_int rfl (by simp)), (by (iterate 16 refine Agr.lk rfl ?_); refine Agr.lk rfl ?_; refine Agr.hav rfl ?_; exact Agr.rfl'), ?_⟩
              exact ⟨HP, (fun _ => hd), hbd, he.trans hq⟩
          · skip
            refine Qt.no rfl ?_
            refine Qt.no rfl ?_
            refine Qt.no rfl ?_
            refine Qt.no rfl ?_
            refine Qt.no rfl ?_
            refine Qt.no rfl ?_
            refine Qt.no rfl ?_
            refine Qt.no rfl ?_
            refine Qt.no rfl ?_
            refine Qt.no rfl ?_
            refine Qt.va rfl (fun w' hw => X.pickF rfl (by conv => lhs; whnf)) ?_
            refine Qt.nil (fun w5 hq => ?_)
            refine J.iteF rfl ?_
            refine J.exit ?_
            refine ⟨i, At1 (by first | rfl | exact at_int rfl (by omega) | exact at_slice rfl (by omega) | exact at_int rfl (by simp)), (by (iterate 16 refine Agr.lk rfl ?_); refine Agr.lk rfl ?_; refine Agr.hav rfl ?_; exact Agr.rfl'), ?_⟩
            exact ⟨HP, (fun h => absurd h (by omega)), hbd, he.trans hq⟩
      · rintro i g w6 ⟨HP, hi, hio2, he6⟩
        replace HO := HO.ext he6
        have hG6 : w.grownBy w6 (Value.ownBlock (.slice A n c)) := grb_trans M.g (grown_ext he6)
        obtain ⟨jo, hjo⟩ : ∃ jo, jo = j := ⟨_, rfl⟩
        rw [← hjo] at hi
        refine J.cut (X := Nat) [10, 46, 47, 48, 49, 50, 51, 52, 53, 54, 55, 56, 57, 58, 59, 60, 61] (fun j => [(10, .int .i64 (j : Int))]) (fun j w' => Pt (· ≤ ·) (fun x y => y < x) m a b i j ∧ (i ≤ j → ¬ m.getD a 0 < m.getD j 0) ∧ j ≤ jo ∧ Ext w6 w') ?_ ?_
        · refine J.block ?_
          refine J.loop (X := Nat) [10, 46, 47, 48, 49, 50, 51, 52, 53, 54, 55, 56, 57, 58, 59, 60, 61] (fun j => [(10, .int .i64 (j : Int))]) (fun j w' => Pt (· ≤ ·) (fun x y => y < x) m a b i j ∧ j ≤ jo ∧ Ext w6 w') (fun j => j) (j) (At1 (by first | rfl | exact at_int rfl (by omega) | exact at_slice rfl (by omega) | exact at_int rfl (by simp))) ?_ ?_
          · exact ⟨HP, by omega, Ext.refl _⟩
          · rintro j g w7 ⟨HP, hbd, he⟩
            have h1 := HP.ai
            have h2 := HP.ij
            have h3 := HP.jb
            have hr := Reads.of_own (HO.ext he)
            have hA := hr.some_ (by omega)
            refine J.seq ?_
            refine J.seq ?_
            refine J.quiet mixed (by kernel_rfl) ?_
            refine Qt.va rfl (fun w' hw => X.move (by conv => lhs; whnf)) ?_
            refine Qt.va rfl (fun w' hw => X.move (by conv => lhs; whnf)) ?_
            refine Qt.va rfl (fun w' hw => X.leq rfl rfl) ?_
            refine Qt.va rfl (fun w' hw => X.move (by conv => lhs; whnf)) ?_
            refine Qt.caseDec (k := 49) rfl (fun hij => ?_) (fun hij => ?_)
            · refine Qt.va rfl (fun w' hw => X.move (by conv => lhs; whnf)) ?_
              refine Qt.va rfl (fun w' hw => X.move (by conv => lhs; whnf)) ?_
              refine Qt.va rfl (fun w' hw => (by first | exact X.index1n rfl rfl Try.underlying74 sz_3 (by first | exact Option.some_ne_none _ | exact hr.some_ (by omega) | exact hA) (by omega) | exact X.index1 rfl rfl Try.underlying74 sz_3 (by first | exact Option.some_ne_none _ | exact hr.some_ (by omega) | exact hA) (by omega))) ?_
              refine Qt.va rfl (fun w' hw => X.load rfl sc_3 (by first | exact Ld.num (hr.ext hw) (by omega) | exact hA)) ?_
              refine Qt.va rfl (fun w' hw => X.move (by conv => lhs; whnf)) ?_
              refine Qt.va rfl (fun w' hw => X.move (by conv => lhs; whnf)) ?_
              refine Qt.va rfl (fun w' hw => (by first | exact X.index1n rfl rfl Try.underlying74 sz_3 (by first | exact Option.some_ne_none _ | exact hr.some_ (by omega) | exact hA) (by omega) | exact X.index1 rfl rfl Try.underlying74 sz_3 (by first | exact Option.some_ne_none _ | exact hr.some_ (by omega) | exact hA) (by omega))) ?_
              refine Qt.va rfl (fun w' hw => X.load rfl sc_3 (by first | exact Ld.num (hr.ext hw) (by omega) | exact hA)) ?_
              refine Qt.call rfl en_128 rfl (fun w' hw => calls_same hw (clessI (m.getD a 0) (m.getD j 0) w')) ?_
              refine Qt.va rfl (fun w' hw => X.pickT rfl (by conv => lhs; whnf)) ?_
              refine Qt.nil (fun w8 hq => ?_)
              by_cases hd : m.getD a 0 < m.getD j 0
              · rw [show decide (m.getD a 0 < m.getD j 0) = true from decide_eq_true (by omega)]
                refine J.iteT rfl ?_
                refine J.skip ?_
                refine J.block ?_
                refine J.region ?_
                refine L.va rfl (X.move (by conv => lhs; whnf)) ?_
                refine L.va rfl (X.sub rfl rfl (by omega)) ?_
                refine L.va rfl (X.assign (by conv => lhs; whnf)) ?_
                refine L.nil ?_
                obtain ⟨j', rfl⟩ : ∃ j', j = j' + 1 := ⟨j - 1, by omega⟩
                refine ⟨j', At1 (by first | rfl | exact at_int rfl (by omega) | exact at_slice rfl (by omega) | exact at_int rfl (by simp)), (by (iterate 18 refine Agr.lk rfl ?_); exact Agr.lk rfl (Agr.hav rfl Agr.rfl')), ?_⟩
                exact ⟨⟨⟨h1, by omega, by omega, HP.le, fun k k1 k2 => by
                  rcases Nat.lt_or_ge (j' + 1) k with h | h
                  · exact HP.ri k h k2
                  · obtain rfl : k = j' + 1 := by omega
                    exact hd⟩, by omega, he.trans hq⟩, by omega⟩
              · rw [show decide (m.getD a 0 < m.getD j 0) = false from decide_eq_false (by omega)]
                refine J.iteF rfl ?_
                refine J.exit ?_
                refine ⟨j, At1 (by first | rfl | exact at_int rfl (by omega) | exact at_slice rfl (by omega) | exact at_int rfl (by simp)), (by (iterate 15 refine Agr.lk rfl ?_); refine Agr.lk rfl ?_; refine Agr.hav rfl ?_; exact Agr.rfl'), ?_⟩
                exact ⟨HP, (fun _ => hd), hbd, he.trans hq⟩
            · skip
              refine Qt.no rfl ?_
              refine Qt.no rfl ?_
              refine Qt.no rfl ?_
              refine Qt.no rfl ?_
              refine Qt.no rfl ?_
              refine Qt.no rfl ?_
              refine Qt.no rfl ?_
              refine Qt.no rfl ?_
              refine Qt.no rfl ?_
              refine Qt.va rfl (fun w' hw => X.pickF rfl (by conv => lhs; whnf)) ?_
              refine Qt.nil (fun w8 hq => ?_)
              refine J.iteF rfl ?_
              refine J.exit ?_
              refine ⟨j, At1 (by first | rfl | exact at_int rfl (by omega) | exact at_slice rfl (by omega) | exact at_int rfl (by simp)), (by (iterate 15 refine Agr.lk rfl ?_); refine Agr.lk rfl ?_; refine Agr.hav rfl ?_; exact Agr.rfl'), ?_⟩
              exact ⟨HP, (fun h => absurd h (by omega)), hbd, he.trans hq⟩
        · rintro j g w9 ⟨HP, hj, hjo2, he9⟩
          replace HO := HO.ext he9
          have hG9 := grb_trans hG6 (grown_ext he9)
          have h1 := HP.ai
          have h2 := HP.ij
          have h3 := HP.jb
          refine J.seq ?_
          refine J.seq ?_
          refine J.region ?_
          refine L.va rfl (X.move (by conv => lhs; whnf)) ?_
          refine L.va rfl (X.move (by conv => lhs; whnf)) ?_
          refine L.va rfl (X.gtr rfl rfl) ?_
          refine L.nil ?_
          refine J.dec rfl (fun hgt => ?_) (fun hgt => ?_)
          · refine J.exit ?_
            refine J.seq ?_
            refine J.region ?_
            refine L.va rfl (X.move (by conv => lhs; whnf)) ?_
            refine L.va rfl (X.assign (by conv => lhs; whnf)) ?_
            refine L.nil ?_
            refine J.ret ?_
            refine fin1 ?_
            obtain rfl : i = j + 1 := by omega
            refine ⟨m, j + 1, rfl, ⟨HO, hG9, M.p⟩, by omega, by omega, fun k k1 k2 => ?_, fun k k1 k2 => ?_⟩
            · by_cases e : k = a
              · rw [e, em]; exact Int.le_refl _
              · rw [← em]; exact HP.le k (by omega) k2
            · rw [← em]; exact HP.ri k (by omega) k2
          · have hi' := hi (by omega)
            have hj' := hj (by omega)
            have hne : i ≠ j := fun e => by subst e; omega
            obtain ⟨j, rfl⟩ : ∃ j', j = j' + 1 := ⟨j - 1, by omega⟩
            refine J.skip ?_
            refine J.seq ?_
            refine J.draw (ℓ := 1000000) (S := (fun _ => True)) mixed (fun w12d hSE hS_h => ?_)
            have hS : ((fun _ => True)) w12d := trivial
            have hrw12 := (Reads.of_own HO).ext hSE
            have hoX := HO.ext hSE
            have hG : w9.grownBy w12d (Value.ownBlock (.slice A n c)) := grown_ext hSE
            refine D.va 0 rfl (by kernel_rfl) (fun _ _ _ h => h) rfl (fun w' hw => X.move (by conv => lhs; whnf)) hS ?_
            refine D.va 1 rfl (by kernel_rfl) (fun _ _ _ h => h) rfl (fun w' hw => X.move (by conv => lhs; whnf)) hS ?_
            refine D.va 2 rfl (by kernel_rfl) (fun _ _ _ h => h) rfl (fun w' hw => X.move (by conv => lhs; whnf)) hS ?_
            refine D.va 3 rfl (by kernel_rfl) (fun _ _ _ h => h) rfl (fun w' hw => X.move (by conv => lhs; whnf)) hS ?_
            refine D.va 4 rfl (by kernel_rfl) (fun _ _ _ h => h) rfl (fun w' hw => X.move (by conv => lhs; whnf)) hS ?_
            refine D.va 5 rfl (by kernel_rfl) (fun _ _ _ h => h) rfl (fun w' hw => X.move (by conv => lhs; whnf)) hS ?_
            refine D.va 6 rfl (by kernel_rfl) (fun _ _ _ h => h) rfl (fun w' hw => (by first | exact X.index1n rfl rfl Try.underlying74 sz_3 (by first | exact Option.some_ne_none _ | exact hA) (by omega) | exact X.index1 rfl rfl Try.underlying74 sz_3 (by first | exact Option.some_ne_none _ | exact hA) (by omega))) hS ?_
            refine D.va 8 rfl (by kernel_rfl) (fun _ _ _ h => h) rfl (fun w' hw => X.move (by conv => lhs; whnf)) hS ?_
            refine D.va 9 rfl (by kernel_rfl) (fun _ _ _ h => h) rfl (fun w' hw => X.move (by conv => lhs; whnf)) hS ?_
            refine D.va 10 rfl (by kernel_rfl) (fun _ _ _ h => h) rfl (fun w' hw => (by first | exact X.index1n rfl rfl Try.underlying74 sz_3 (by first | exact Option.some_ne_none _ | exact hA) (by omega) | exact X.index1 rfl rfl Try.underlying74 sz_3 (by first | exact Option.some_ne_none _ | exact hA) (by omega))) hS ?_
            refine D.two 7 11 (by kernel_rfl) rfl rfl ?_ ?_
            · refine L.va rfl (X.load rfl sc_3 (Ld.num hrw12 (j := j + 1) (by omega))) ?_
              refine L.nil ?_
              refine ⟨fun _ => hS, ?_⟩
              refine D.one 11 (by kernel_rfl) rfl ?_
              refine L.va rfl (X.load rfl sc_3 (Ld.num hrw12 (j := i) (by omega))) ?_
              refine L.nil ?_
              refine ⟨fun _ => hS, ?_⟩
              refine D.va 12 rfl (by kernel_rfl) (fun _ _ _ h => h) rfl (fun w' hw => (by first | exact X.index1n rfl rfl Try.underlying74 sz_3 (by first | exact Option.some_ne_none _ | exact hA) (by omega) | exact X.index1 rfl rfl Try.underlying74 sz_3 (by first | exact Option.some_ne_none _ | exact hA) (by omega))) hS ?_
              refine D.one 13 (by kernel_rfl) rfl ?_
              refine L.storeON rfl rfl (by conv => lhs; whnf) sz_3 (hoX) (by omega) ?_
              intro w12 hoX hg2 hb2 hs2
              have hS1 := trivial
              refine L.nil ?_
              refine ⟨fun _ => hS1, ?_⟩
              replace hG := grb_trans hG hg2
              refine D.va 14 rfl (by kernel_rfl) (fun _ _ _ h => h) rfl (fun w' hw => (by first | exact X.index1n rfl rfl Try.underlying74 sz_3 (by first | exact Option.some_ne_none _ | exact hA) (by omega) | exact X.index1 rfl rfl Try.underlying74 sz_3 (by first | exact Option.some_ne_none _ | exact hA) (by omega))) hS1 ?_
              refine D.one 15 (by kernel_rfl) rfl ?_
              refine L.storeON rfl rfl (by conv => lhs; whnf) sz_3 (hoX) (by omega) ?_
              intro w12 hoX hg2 hb2 hs2
              have hS2 := trivial
              refine L.nil ?_
              refine ⟨fun _ => hS2, ?_⟩
              replace hG := grb_trans hG hg2
              refine D.done (by kernel_rfl) ?_
              refine J.seq ?_
              refine J.region ?_
              refine L.va rfl (X.move (by conv => lhs; whnf)) ?_
              refine L.va rfl (X.add rfl rfl (by omega)) ?_
              refine L.va rfl (X.assign (by conv => lhs; whnf)) ?_
              refine L.nil ?_
              refine J.region ?_
              refine L.va rfl (X.move (by conv => lhs; whnf)) ?_
              refine L.va rfl (X.sub rfl rfl (by omega)) ?_
              refine L.va rfl (X.assign (by conv => lhs; whnf)) ?_
              refine L.nil ?_
              refine ⟨(i + 1, j, swp m i (j + 1)), At2 (by first | rfl | exact at_int rfl (by omega) | exact at_slice rfl (by omega) | exact at_int rfl (by simp)) (by first | rfl | exact at_int rfl (by omega) | exact at_slice rfl (by omega) | exact at_int rfl (by simp)), (by (iterate 23 refine Agr.lk rfl ?_); refine Agr.lk rfl ?_; refine Agr.hav rfl ?_; refine Agr.lk rfl ?_; refine Agr.hav rfl ?_; exact Agr.lk rfl (Agr.hav rfl Agr.rfl')), ?_⟩
              exact ⟨⟨⟨hoX, grb_trans hG9 hG, .step M.p ⟨by omega, by omega⟩ ⟨by omega, by omega⟩ (by omega)⟩, HP.swap (by omega) (by omega) (by omega) (by omega), by rw [swp_at m (by omega) (by omega), if_neg (by omega), if_neg (by omega)]; exact em⟩, by show j + 1 - (i + 1) < _ + 1 - _; omega⟩
            · refine L.va rfl (X.load rfl sc_3 (Ld.num hrw12 (j := i) (by omega))) ?_
              refine L.nil ?_
              refine ⟨fun _ => hS, ?_⟩
              refine D.one 7 (by kernel_rfl) rfl ?_
              refine L.va rfl (X.load rfl sc_3 (Ld.num hrw12 (j := j + 1) (by omega))) ?_
              refine L.nil ?_
              refine ⟨fun _ => hS, ?_⟩
              refine D.va 12 rfl (by kernel_rfl) (fun _ _ _ h => h) rfl (fun w' hw => (by first | exact X.index1n rfl rfl Try.underlying74 sz_3 (by first | exact Option.some_ne_none _ | exact hA) (by omega) | exact X.index1 rfl rfl Try.underlying74 sz_3 (by first | exact Option.some_ne_none _ | exact hA) (by omega))) hS ?_
              refine D.one 13 (by kernel_rfl) rfl ?_
              refine L.storeON rfl rfl (by conv => lhs; whnf) sz_3 (hoX) (by omega) ?_
              intro w12 hoX hg2 hb2 hs2
              have hS1 := trivial
              refine L.nil ?_
              refine ⟨fun _ => hS1, ?_⟩
              replace hG := grb_trans hG hg2
              refine D.va 14 rfl (by kernel_rfl) (fun _ _ _ h => h) rfl (fun w' hw => (by first | exact X.index1n rfl rfl Try.underlying74 sz_3 (by first | exact Option.some_ne_none _ | exact hA) (by omega) | exact X.index1 rfl rfl Try.underlying74 sz_3 (by first | exact Option.some_ne_none _ | exact hA) (by omega))) hS1 ?_
              refine D.one 15 (by kernel_rfl) rfl ?_
              refine L.storeON rfl rfl (by conv => lhs; whnf) sz_3 (hoX) (by omega) ?_
              intro w12 hoX hg2 hb2 hs2
              have hS2 := trivial
              refine L.nil ?_
              refine ⟨fun _ => hS2, ?_⟩
              replace hG := grb_trans hG hg2
              refine D.done (by kernel_rfl) ?_
              refine J.seq ?_
              refine J.region ?_
              refine L.va rfl (X.move (by conv => lhs; whnf)) ?_
              refine L.va rfl (X.add rfl rfl (by omega)) ?_
              refine L.va rfl (X.assign (by conv => lhs; whnf)) ?_
              refine L.nil ?_
              refine J.region ?_
              refine L.va rfl (X.move (by conv => lhs; whnf)) ?_
              refine L.va rfl (X.sub rfl rfl (by omega)) ?_
              refine L.va rfl (X.assign (by conv => lhs; whnf)) ?_
              refine L.nil ?_
              refine ⟨(i + 1, j, swp m i (j + 1)), At2 (by first | rfl | exact at_int rfl (by omega) | exact at_slice rfl (by omega) | exact at_int rfl (by simp)) (by first | rfl | exact at_int rfl (by omega) | exact at_slice rfl (by omega) | exact at_int rfl (by simp)), (by (iterate 23 refine Agr.lk rfl ?_); refine Agr.lk rfl ?_; refine Agr.hav rfl ?_; refine Agr.lk rfl ?_; refine Agr.hav rfl ?_; exact Agr.lk rfl (Agr.hav rfl Agr.rfl')), ?_⟩
              exact ⟨⟨⟨hoX, grb_trans hG9 hG, .step M.p ⟨by omega, by omega⟩ ⟨by omega, by omega⟩ (by omega)⟩, HP.swap (by omega) (by omega) (by omega) (by omega), by rw [swp_at m (by omega) (by omega), if_neg (by omega), if_neg (by omega)]; exact em⟩, by show j + 1 - (i + 1) < _ + 1 - _; omega⟩
  · refine L.va rfl (X.load rfl sc_3 (Ld.num hrw2 (j := a) (by omega))) ?_
    refine L.nil ?_
    refine ⟨fun _ => hS, ?_⟩
    refine D.one 7 (by kernel_rfl) rfl ?_
    refine L.va rfl (X.load rfl sc_3 (Ld.num hrw2 (j := p) (by omega))) ?_
    refine L.nil ?_
    refine ⟨fun _ => hS, ?_⟩
    refine D.va 12 rfl (by kernel_rfl) (fun _ _ _ h => h) rfl (fun w' hw => (by first | exact X.index1n rfl rfl Try.underlying74 sz_3 (by first | exact Option.some_ne_none _ | exact hA) (by omega) | exact X.index1 rfl rfl Try.underlying74 sz_3 (by first | exact Option.some_ne_none _ | exact hA) (by omega))) hS ?_
    refine D.one 13 (by kernel_rfl) rfl ?_
    refine L.storeON rfl rfl (by conv => lhs; whnf) sz_3 (hoX) (by omega) ?_
    intro w2 hoX hg2 hb2 hs2
    have hS1 := trivial
    refine L.nil ?_
    refine ⟨fun _ => hS1, ?_⟩
    replace hG := grb_trans hG hg2
    refine D.va 14 rfl (by kernel_rfl) (fun _ _ _ h => h) rfl (fun w' hw => (by first | exact X.index1n rfl rfl Try.underlying74 sz_3 (by first | exact Option.some_ne_none _ | exact hA) (by omega) | exact X.index1 rfl rfl Try.underlying74 sz_3 (by first | exact Option.some_ne_none _ | exact hA) (by omega))) hS1 ?_
    refine D.one 15 (by kernel_rfl) rfl ?_
    refine L.storeON rfl rfl (by conv => lhs; whnf) sz_3 (hoX) (by omega) ?_
    intro w2 hoX hg2 hb2 hs2
    have hS2 := trivial
    refine L.nil ?_
    refine ⟨fun _ => hS2, ?_⟩
    replace hG := grb_trans hG hg2
    refine D.done (by kernel_rfl) ?_
    refine J.seq ?_
    refine J.region ?_
    refine L.va rfl (X.move (by conv => lhs; whnf)) ?_
    refine L.va rfl (X.add rfl rfl (by omega)) ?_
    refine L.va rfl (X.move (by conv => lhs; whnf)) ?_
    refine L.va rfl (X.sub rfl rfl (by omega)) ?_
    refine L.va rfl (X.assign (by conv => lhs; whnf)) ?_
    refine L.va rfl (X.assign (by conv => lhs; whnf)) ?_
    refine L.nil ?_
    refine J.seq ?_
    refine J.block ?_
    have ea : (swp l a p).getD a 0 = l.getD p 0 := by
      rw [swp_at l (by omega) (by omega)]
      by_cases e : a = p
      · rw [if_pos e, e]
      · rw [if_neg e, if_pos rfl]
    have M0 : SwI w w2 A n c N a b l (swp l a p) := ⟨hoX, hG, .step (.refl _) ⟨by omega, by omega⟩ hp (by omega)⟩
    have HP0 : Pt (· ≤ ·) (fun x y => y < x) (swp l a p) a b (a + 1) (b - 1) := ⟨by omega, by omega, by omega, (fun k k1 k2 => by omega), (fun k k1 k2 => by omega)⟩
    rw [e0]
    refine J.loop (X := Nat × Nat × List Int) [9, 10, 29, 30, 31, 32, 33, 34, 35, 36, 37, 38, 39, 40, 41, 42, 43, 44, 45, 46, 47, 48, 49, 50, 51, 52, 53, 54, 55, 56, 57, 58, 59, 60, 61, 62, 63, 64, 65, 66, 67, 68, 69, 70, 71, 72, 73, 74, 75, 76, 77, 78, 79, 80, 81, 82] (fun (i, j, m) => [(9, .int .i64 (i : Int)), (10, .int .i64 (j : Int))]) (fun (i, j, m) w' => SwI w w' A n c N a b l m ∧ Pt (· ≤ ·) (fun x y => y < x) m a b i j ∧ m.getD a 0 = l.getD p 0) (fun (i, j, _) => j + 1 - i) ((a + 1, b - 1, swp l a p)) (At2 (by first | rfl | exact at_int rfl (by omega) | exact at_slice rfl (by omega) | exact at_int rfl (by simp)) (by first | rfl | exact at_int rfl (by omega) | exact at_slice rfl (by omega) | exact at_int rfl (by simp))) ?_ ?_
    · exact ⟨M0, HP0, ea⟩
    · rintro ⟨i, j, m⟩ g w3 ⟨M, HP, em⟩
      have hml : m.length = n := by rw [M.p.len, hl]
      have HO := M.o
      obtain ⟨io, hio⟩ : ∃ io, io = i := ⟨_, rfl⟩
      refine J.block ?_
      refine J.cut (X := Nat) [9, 29, 30, 31, 32, 33, 34, 35, 36, 37, 38, 39, 40, 41, 42, 43, 44, 45] (fun i => [(9, .int .i64 (i : Int))]) (fun i w' => Pt (· ≤ ·) (fun x y => y < x) m a b i j ∧ (i ≤ j → ¬ m.getD i 0 ≤ m.getD a 0) ∧ io ≤ i ∧ Ext w3 w') ?_ ?_
      · refine J.block ?_
        refine J.loop (X := Nat) [9, 29, 30, 31, 32, 33, 34, 35, 36, 37, 38, 39, 40, 41, 42, 43, 44, 45] (fun i => [(9, .int .i64 (i : Int))]) (fun i w' => Pt (· ≤ ·) (fun x y => y < x) m a b i j ∧ io ≤ i ∧ Ext w3 w') (fun i => j + 1 - i) (i) (At1 (by first | rfl | exact at_int rfl (by omega) | exact at_slice rfl (by omega) | exact at_int rfl (by simp))) ?_ ?_
        · exact ⟨HP, by omega, Ext.refl _⟩
        · rintro i g w4 ⟨HP, hbd, he⟩
          have h1 := HP.ai
          have h2 := HP.ij
          have h3 := HP.jb
          have hr := Reads.of_own (HO.ext he)
          have hA := hr.some_ (by omega)
          refine J.seq ?_
          refine J.seq ?_
          refine J.quiet mixed (by kernel_rfl) ?_
          refine Qt.va rfl (fun w' hw => X.move (by conv => lhs; whnf)) ?_
          refine Qt.va rfl (fun w' hw => X.move (by conv => lhs; whnf)) ?_
          refine Qt.va rfl (fun w' hw => X.leq rfl rfl) ?_
          refine Qt.va rfl (fun w' hw => X.move (by conv => lhs; whnf)) ?_
          refine Qt.caseDec (k := 32) rfl (fun hij => ?_) (fun hij => ?_)
          · refine Qt.va rfl (fun w' hw => X.move (by conv => lhs; whnf)) ?_
            refine Qt.va rfl (fun w' hw => X.move (by conv => lhs; whnf)) ?_
            refine Qt.va rfl (fun w' hw => (by first | exact X.index1n rfl rfl Try.underlying74 sz_3 (by first | exact Option.some_ne_none _ | exact hr.some_ (by omega) | exact hA) (by omega) | exact X.index1 rfl rfl Try.underlying74 sz_3 (by first | exact Option.some_ne_none _ | exact hr.some_ (by omega) | exact hA) (by omega))) ?_
            refine Qt.va rfl (fun w' hw => X.load rfl sc_3 (by first | exact Ld.num (hr.ext hw) (by omega) | exact hA)) ?_
            refine Qt.va rfl (fun w' hw => X.move (by conv => lhs; whnf)) ?_
            refine Qt.va rfl (fun w' hw => X.move (by conv => lhs; whnf)) ?_
            refine Qt.va rfl (fun w' hw => (by first | exact X.index1n rfl rfl Try.underlying74 sz_3 (by first | exact Option.some_ne_none _ | exact hr.some_ (by omega) | exact hA) (by omega) | exact X.index1 rfl rfl Try.underlying74 sz_3 (by first | exact Option.some_ne_none _ | exact hr.some_ (by omega) | exact hA) (by omega))) ?_
            refine Qt.va rfl (fun w' hw => X.load rfl sc_3 (by first | exact Ld.num (hr.ext hw) (by omega) | exact hA)) ?_
            refine Qt.call rfl en_128 rfl (fun w' hw => calls_same hw (clessI (m.getD a 0) (m.getD i 0) w')) ?_
            refine Qt.va rfl (fun w' hw => X.not rfl) ?_
            refine Qt.va rfl (fun w' hw => X.pickT rfl (by conv => lhs; whnf)) ?_
            refine Qt.nil (fun w5 hq => ?_)
            by_cases hd : m.getD i 0 ≤ m.getD a 0
            · rw [show decide (m.getD a 0 < m.getD i 0) = false from decide_eq_false (by omega)]
              refine J.iteT rfl ?_
              refine J.skip ?_
              refine J.block ?_
              refine J.region ?_
              refine L.va rfl (X.move (by conv => lhs; whnf)) ?_
              refine L.va rfl (X.add rfl rfl (by omega)) ?_
              refine L.va rfl (X.assign (by conv => lhs; whnf)) ?_
              refine L.nil ?_
              refine ⟨i + 1, At1 (by first | rfl | exact at_int rfl (by omega) | exact at_slice rfl (by omega) | exact at_int rfl (by simp)), (by (iterate 19 refine Agr.lk rfl ?_); exact Agr.lk rfl (Agr.hav rfl Agr.rfl')), ?_⟩
              exact ⟨⟨⟨by omega, by omega, h3, fun k k1 k2 => by
                rcases Nat.lt_or_ge k i with h | h
                · exact HP.le k k1 h
                · obtain rfl : k = i := by omega
                  exact hd, HP.ri⟩, by omega, he.trans hq⟩, by omega⟩
            · rw [show decide (m.getD a 0 < m.getD i 0) = true from decide_eq_true (by omega)]
              refine J.iteF rfl ?_
              refine J.exit ?_
              refine ⟨i, At1 (by first | rfl | exact at_int rfl (by omega) | exact at_slice rfl (by omega) | exact at_int rfl (by simp)), (by (iterate 16 refine Agr.lk rfl ?_); refine Agr.lk rfl ?_; refine Agr.hav rfl ?_; exact Agr.rfl'), ?_⟩
              exact ⟨HP, (fun _ => hd), hbd, he.trans hq⟩
          · skip
            refine Qt.no rfl ?_
            refine Qt.no rfl ?_
            refine Qt.no rfl ?_
            refine Qt.no rfl ?_
            refine Qt.no rfl ?_
            refine Qt.no rfl ?_
            refine Qt.no rfl ?_
            refine Qt.no rfl ?_
            refine Qt.no rfl ?_
            refine Qt.no rfl ?_
            refine Qt.va rfl (fun w' hw => X.pickF rfl (by conv => lhs; whnf)) ?_
            refine Qt.nil (fun w5 hq => ?_)
            refine J.iteF rfl ?_
            refine J.exit ?_
            refine ⟨i, At1 (by first | rfl | exact at_int rfl (by omega) | exact at_slice rfl (by omega) | exact at_int rfl (by simp)), (by (iterate 16 refine Agr.lk rfl ?_); refine Agr.lk rfl ?_; refine Agr.hav rfl ?_; exact Agr.rfl'), ?_⟩
            exact ⟨HP, (fun h => absurd h (by omega)), hbd, he.trans hq⟩
      · rintro i g w6 ⟨HP, hi, hio2, he6⟩
        replace HO := HO.ext he6
        have hG6 : w.grownBy w6 (Value.ownBlock (.slice A n c)) := grb_trans M.g (grown_ext he6)
        obtain ⟨jo, hjo⟩ : ∃ jo, jo = j := ⟨_, rfl⟩
        rw [← hjo] at hi
        refine J.cut (X := Nat) [10, 46, 47, 48, 49, 50, 51, 52, 53, 54, 55, 56, 57, 58, 59, 60, 61] (fun j => [(10, .int .i64 (j : Int))]) (fun j w' => Pt (· ≤ ·) (fun x y => y < x) m a b i j ∧ (i ≤ j → ¬ m.getD a 0 < m.getD j 0) ∧ j ≤ jo ∧ Ext w6 w') ?_ ?_
        · refine J.block ?_
          refine J.loop (X := Nat) [10, 46, 47, 48, 49, 50, 51, 52, 53, 54, 55, 56, 57, 58, 59, 60, 61] (fun j => [(10, .int .i64 (j : Int))]) (fun j w' => Pt (· ≤ ·) (fun x y => y < x) m a b i j ∧ j ≤ jo ∧ Ext w6 w') (fun j => j) (j) (At1 (by first | rfl | exact at_int rfl (by omega) | exact at_slice rfl (by omega) | exact at_int rfl (by simp))) ?_ ?_
          · exact ⟨HP, by omega, Ext.refl _⟩
          · rintro j g w7 ⟨HP, hbd, he⟩
            have h1 := HP.ai
            have h2 := HP.ij
            have h3 := HP.jb
            have hr := Reads.of_own (HO.ext he)
            have hA := hr.some_ (by omega)
            refine J.seq ?_
            refine J.seq ?_
            refine J.quiet mixed (by kernel_rfl) ?_
            refine Qt.va rfl (fun w' hw => X.move (by conv => lhs; whnf)) ?_
            refine Qt.va rfl (fun w' hw => X.move (by conv => lhs; whnf)) ?_
            refine Qt.va rfl (fun w' hw => X.leq rfl rfl) ?_
            refine Qt.va rfl (fun w' hw => X.move (by conv => lhs; whnf)) ?_
            refine Qt.caseDec (k := 49) rfl (fun hij => ?_) (fun hij => ?_)
            · refine Qt.va rfl (fun w' hw => X.move (by conv => lhs; whnf)) ?_
              refine Qt.va rfl (fun w' hw => X.move (by conv => lhs; whnf)) ?_
              refine Qt.va rfl (fun w' hw => (by first | exact X.index1n rfl rfl Try.underlying74 sz_3 (by first | exact Option.some_ne_none _ | exact hr.some_ (by omega) | exact hA) (by omega) | exact X.index1 rfl rfl Try.underlying74 sz_3 (by first | exact Option.some_ne_none _ | exact hr.some_ (by omega) | exact hA) (by omega))) ?_
              refine Qt.va rfl (fun w' hw => X.load rfl sc_3 (by first | exact Ld.num (hr.ext hw) (by omega) | exact hA)) ?_
              refine Qt.va rfl (fun w' hw => X.move (by conv => lhs; whnf)) ?_
              refine Qt.va rfl (fun w' hw => X.move (by conv => lhs; whnf)) ?_
              refine Qt.va rfl (fun w' hw => (by first | exact X.index1n rfl rfl Try.underlying74 sz_3 (by first | exact Option.some_ne_none _ | exact hr.some_ (by omega) | exact hA) (by omega) | exact X.index1 rfl rfl Try.underlying74 sz_3 (by first | exact Option.some_ne_none _ | exact hr.some_ (by omega) | exact hA) (by omega))) ?_
              refine Qt.va rfl (fun w' hw => X.load rfl sc_3 (by first | exact Ld.num (hr.ext hw) (by omega) | exact hA)) ?_
              refine Qt.call rfl en_128 rfl (fun w' hw => calls_same hw (clessI (m.getD a 0) (m.getD j 0) w')) ?_
              refine Qt.va rfl (fun w' hw => X.pickT rfl (by conv => lhs; whnf)) ?_
              refine Qt.nil (fun w8 hq => ?_)
              by_cases hd : m.getD a 0 < m.getD j 0
              · rw [show decide (m.getD a 0 < m.getD j 0) = true from decide_eq_true (by omega)]
                refine J.iteT rfl ?_
                refine J.skip ?_
                refine J.block ?_
                refine J.region ?_
                refine L.va rfl (X.move (by conv => lhs; whnf)) ?_
                refine L.va rfl (X.sub rfl rfl (by omega)) ?_
                refine L.va rfl (X.assign (by conv => lhs; whnf)) ?_
                refine L.nil ?_
                obtain ⟨j', rfl⟩ : ∃ j', j = j' + 1 := ⟨j - 1, by omega⟩
                refine ⟨j', At1 (by first | rfl | exact at_int rfl (by omega) | exact at_slice rfl (by omega) | exact at_int rfl (by simp)), (by (iterate 18 refine Agr.lk rfl ?_); exact Agr.lk rfl (Agr.hav rfl Agr.rfl')), ?_⟩
                exact ⟨⟨⟨h1, by omega, by omega, HP.le, fun k k1 k2 => by
                  rcases Nat.lt_or_ge (j' + 1) k with h | h
                  · exact HP.ri k h k2
                  · obtain rfl : k = j' + 1 := by omega
                    exact hd⟩, by omega, he.trans hq⟩, by omega⟩
              · rw [show decide (m.getD a 0 < m.getD j 0) = false from decide_eq_false (by omega)]
                refine J.iteF rfl ?_
                refine J.exit ?_
                refine ⟨j, At1 (by first | rfl | exact at_int rfl (by omega) | exact at_slice rfl (by omega) | exact at_int rfl (by simp)), (by (iterate 15 refine Agr.lk rfl ?_); refine Agr.lk rfl ?_; refine Agr.hav rfl ?_; exact Agr.rfl'), ?_⟩
                exact ⟨HP, (fun _ => hd), hbd, he.trans hq⟩
            · skip
              refine Qt.no rfl ?_
              refine Qt.no rfl ?_
              refine Qt.no rfl ?_
              refine Qt.no rfl ?_
              refine Qt.no rfl ?_
              refine Qt.no rfl ?_
              refine Qt.no rfl ?_
              refine Qt.no rfl ?_
              refine Qt.no rfl ?_
              refine Qt.va rfl (fun w' hw => X.pickF rfl (by conv => lhs; whnf)) ?_
              refine Qt.nil (fun w8 hq => ?_)
              refine J.iteF rfl ?_
              refine J.exit ?_
              refine ⟨j, At1 (by first | rfl | exact at_int rfl (by omega) | exact at_slice rfl (by omega) | exact at_int rfl (by simp)), (by (iterate 15 refine Agr.lk rfl ?_); refine Agr.lk rfl ?_; refine Agr.hav rfl ?_; exact Agr.rfl'), ?_⟩
              exact ⟨HP, (fun h => absurd h (by omega)), hbd, he.trans hq⟩
        · rintro j g w9 ⟨HP, hj, hjo2, he9⟩
          replace HO := HO.ext he9
          have hG9 := grb_trans hG6 (grown_ext he9)
          have h1 := HP.ai
          have h2 := HP.ij
          have h3 := HP.jb
          refine J.seq ?_
          refine J.seq ?_
          refine J.region ?_
          refine L.va rfl (X.move (by conv => lhs; whnf)) ?_
          refine L.va rfl (X.move (by conv => lhs; whnf)) ?_
          refine L.va rfl (X.gtr rfl rfl) ?_
          refine L.nil ?_
          refine J.dec rfl (fun hgt => ?_) (fun hgt => ?_)
          · refine J.exit ?_
            refine J.seq ?_
            refine J.region ?_
            refine L.va rfl (X.move (by conv => lhs; whnf)) ?_
            refine L.va rfl (X.assign (by conv => lhs; whnf)) ?_
            refine L.nil ?_
            refine J.ret ?_
            refine fin1 ?_
            obtain rfl : i = j + 1 := by omega
            refine ⟨m, j + 1, rfl, ⟨HO, hG9, M.p⟩, by omega, by omega, fun k k1 k2 => ?_, fun k k1 k2 => ?_⟩
            · by_cases e : k = a
              · rw [e, em]; exact Int.le_refl _
              · rw [← em]; exact HP.le k (by omega) k2
            · rw [← em]; exact HP.ri k (by omega) k2
          · have hi' := hi (by omega)
            have hj' := hj (by omega)
            have hne : i ≠ j := fun e => by subst e; omega
            obtain ⟨j, rfl⟩ : ∃ j', j = j' + 1 := ⟨j - 1, by omega⟩
            refine J.skip ?_
            refine J.seq ?_
            refine J.draw (ℓ := 1000000) (S := (fun _ => True)) mixed (fun w12d hSE hS_h => ?_)
            have hS : ((fun _ => True)) w12d := trivial
            have hrw12 := (Reads.of_own HO).ext hSE
            have hoX := HO.ext hSE
            have hG : w9.grownBy w12d (Value.ownBlock (.slice A n c)) := grown_ext hSE
            refine D.va 0 rfl (by kernel_rfl) (fun _ _ _ h => h) rfl (fun w' hw => X.move (by conv => lhs; whnf)) hS ?_
            refine D.va 1 rfl (by kernel_rfl) (fun _ _ _ h => h) rfl (fun w' hw => X.move (by conv => lhs; whnf)) hS ?_
            refine D.va 2 rfl (by kernel_rfl) (fun _ _ _ h => h) rfl (fun w' hw => X.move (by conv => lhs; whnf)) hS ?_
            refine D.va 3 rfl (by kernel_rfl) (fun _ _ _ h => h) rfl (fun w' hw => X.move (by conv => lhs; whnf)) hS ?_
            refine D.va 4 rfl (by kernel_rfl) (fun _ _ _ h => h) rfl (fun w' hw => X.move (by conv => lhs; whnf)) hS ?_
            refine D.va 5 rfl (by kernel_rfl) (fun _ _ _ h => h) rfl (fun w' hw => X.move (by conv => lhs; whnf)) hS ?_
            refine D.va 6 rfl (by kernel_rfl) (fun _ _ _ h => h) rfl (fun w' hw => (by first | exact X.index1n rfl rfl Try.underlying74 sz_3 (by first | exact Option.some_ne_none _ | exact hA) (by omega) | exact X.index1 rfl rfl Try.underlying74 sz_3 (by first | exact Option.some_ne_none _ | exact hA) (by omega))) hS ?_
            refine D.va 8 rfl (by kernel_rfl) (fun _ _ _ h => h) rfl (fun w' hw => X.move (by conv => lhs; whnf)) hS ?_
            refine D.va 9 rfl (by kernel_rfl) (fun _ _ _ h => h) rfl (fun w' hw => X.move (by conv => lhs; whnf)) hS ?_
            refine D.va 10 rfl (by kernel_rfl) (fun _ _ _ h => h) rfl (fun w' hw => (by first | exact X.index1n rfl rfl Try.underlying74 sz_3 (by first | exact Option.some_ne_none _ | exact hA) (by omega) | exact X.index1 rfl rfl Try.underlying74 sz_3 (by first | exact Option.some_ne_none _ | exact hA) (by omega))) hS ?_
            refine D.two 7 11 (by kernel_rfl) rfl rfl ?_ ?_
            · refine L.va rfl (X.load rfl sc_3 (Ld.num hrw12 (j := j + 1) (by omega))) ?_
              refine L.nil ?_
              refine ⟨fun _ => hS, ?_⟩
              refine D.one 11 (by kernel_rfl) rfl ?_
              refine L.va rfl (X.load rfl sc_3 (Ld.num hrw12 (j := i) (by omega))) ?_
              refine L.nil ?_
              refine ⟨fun _ => hS, ?_⟩
              refine D.va 12 rfl (by kernel_rfl) (fun _ _ _ h => h) rfl (fun w' hw => (by first | exact X.index1n rfl rfl Try.underlying74 sz_3 (by first | exact Option.some_ne_none _ | exact hA) (by omega) | exact X.index1 rfl rfl Try.underlying74 sz_3 (by first | exact Option.some_ne_none _ | exact hA) (by omega))) hS ?_
              refine D.one 13 (by kernel_rfl) rfl ?_
              refine L.storeON rfl rfl (by conv => lhs; whnf) sz_3 (hoX) (by omega) ?_
              intro w12 hoX hg2 hb2 hs2
              have hS1 := trivial
              refine L.nil ?_
              refine ⟨fun _ => hS1, ?_⟩
              replace hG := grb_trans hG hg2
              refine D.va 14 rfl (by kernel_rfl) (fun _ _ _ h => h) rfl (fun w' hw => (by first | exact X.index1n rfl rfl Try.underlying74 sz_3 (by first | exact Option.some_ne_none _ | exact hA) (by omega) | exact X.index1 rfl rfl Try.underlying74 sz_3 (by first | exact Option.some_ne_none _ | exact hA) (by omega))) hS1 ?_
              refine D.one 15 (by kernel_rfl) rfl ?_
              refine L.storeON rfl rfl (by conv => lhs; whnf) sz_3 (hoX) (by omega) ?_
              intro w12 hoX hg2 hb2 hs2
              have hS2 := trivial
              refine L.nil ?_
              refine ⟨fun _ => hS2, ?_⟩
              replace hG := grb_trans hG hg2
              refine D.done (by kernel_rfl) ?_
              refine J.seq ?_
              refine J.region ?_
              refine L.va rfl (X.move (by conv => lhs; whnf)) ?_
              refine L.va rfl (X.add rfl rfl (by omega)) ?_
              refine L.va rfl (X.assign (by conv => lhs; whnf)) ?_
              refine L.nil ?_
              refine J.region ?_
              refine L.va rfl (X.move (by conv => lhs; whnf)) ?_
              refine L.va rfl (X.sub rfl rfl (by omega)) ?_
              refine L.va rfl (X.assign (by conv => lhs; whnf)) ?_
              refine L.nil ?_
              refine ⟨(i + 1, j, swp m i (j + 1)), At2 (by first | rfl | exact at_int rfl (by omega) | exact at_slice rfl (by omega) | exact at_int rfl (by simp)) (by first | rfl | exact at_int rfl (by omega) | exact at_slice rfl (by omega) | exact at_int rfl (by simp)), (by (iterate 23 refine Agr.lk rfl ?_); refine Agr.lk rfl ?_; refine Agr.hav rfl ?_; refine Agr.lk rfl ?_; refine Agr.hav rfl ?_; exact Agr.lk rfl (Agr.hav rfl Agr.rfl')), ?_⟩
              exact ⟨⟨⟨hoX, grb_trans hG9 hG, .step M.p ⟨by omega, by omega⟩ ⟨by omega, by omega⟩ (by omega)⟩, HP.swap (by omega) (by omega) (by omega) (by omega), by rw [swp_at m (by omega) (by omega), if_neg (by omega), if_neg (by omega)]; exact em⟩, by show j + 1 - (i + 1) < _ + 1 - _; omega⟩
            · refine L.va rfl (X.load rfl sc_3 (Ld.num hrw12 (j := i) (by omega))) ?_
              refine L.nil ?_
              refine ⟨fun _ => hS, ?_⟩
              refine D.one 7 (by kernel_rfl) rfl ?_
              refine L.va rfl (X.load rfl sc_3 (Ld.num hrw12 (j := j + 1) (by omega))) ?_
              refine L.nil ?_
              refine ⟨fun _ => hS, ?_⟩
              refine D.va 12 rfl (by kernel_rfl) (fun _ _ _ h => h) rfl (fun w' hw => (by first | exact X.index1n rfl rfl Try.underlying74 sz_3 (by first | exact Option.some_ne_none _ | exact hA) (by omega) | exact X.index1 rfl rfl Try.underlying74 sz_3 (by first | exact Option.some_ne_none _ | exact hA) (by omega))) hS ?_
              refine D.one 13 (by kernel_rfl) rfl ?_
              refine L.storeON rfl rfl (by conv => lhs; whnf) sz_3 (hoX) (by omega) ?_
              intro w12 hoX hg2 hb2 hs2
              have hS1 := trivial
              refine L.nil ?_
              refine ⟨fun _ => hS1, ?_⟩
              replace hG := grb_trans hG hg2
              refine D.va 14 rfl (by kernel_rfl) (fun _ _ _ h => h) rfl (fun w' hw => (by first | exact X.index1n rfl rfl Try.underlying74 sz_3 (by first | exact Option.some_ne_none _ | exact hA) (by omega) | exact X.index1 rfl rfl Try.underlying74 sz_3 (by first | exact Option.some_ne_none _ | exact hA) (by omega))) hS1 ?_
              refine D.one 15 (by kernel_rfl) rfl ?_
              refine L.storeON rfl rfl (by conv => lhs; whnf) sz_3 (hoX) (by omega) ?_
              intro w12 hoX hg2 hb2 hs2
              have hS2 := trivial
              refine L.nil ?_
              refine ⟨fun _ => hS2, ?_⟩
              replace hG := grb_trans hG hg2
              refine D.done (by kernel_rfl) ?_
              refine J.seq ?_
              refine J.region ?_
              refine L.va rfl (X.move (by conv => lhs; whnf)) ?_
              refine L.va rfl (X.add rfl rfl (by omega)) ?_
              refine L.va rfl (X.assign (by conv => lhs; whnf)) ?_
              refine L.nil ?_
              refine J.region ?_
              refine L.va rfl (X.move (by conv => lhs; whnf)) ?_
              refine L.va rfl (X.sub rfl rfl (by omega)) ?_
              refine L.va rfl (X.assign (by conv => lhs; whnf)) ?_
              refine L.nil ?_
              refine ⟨(i + 1, j, swp m i (j + 1)), At2 (by first | rfl | exact at_int rfl (by omega) | exact at_slice rfl (by omega) | exact at_int rfl (by simp)) (by first | rfl | exact at_int rfl (by omega) | exact at_slice rfl (by omega) | exact at_int rfl (by simp)), (by (iterate 23 refine Agr.lk rfl ?_); refine Agr.lk rfl ?_; refine Agr.hav rfl ?_; refine Agr.lk rfl ?_; refine Agr.hav rfl ?_; exact Agr.lk rfl (Agr.hav rfl Agr.rfl')), ?_⟩
              exact ⟨⟨⟨hoX, grb_trans hG9 hG, .step M.p ⟨by omega, by omega⟩ ⟨by omega, by omega⟩ (by omega)⟩, HP.swap (by omega) (by omega) (by omega) (by omega), by rw [swp_at m (by omega) (by omega), if_neg (by omega), if_neg (by omega)]; exact em⟩, by show j + 1 - (i + 1) < _ + 1 - _; omega⟩
theorem partI (A : Option Addr) (n c N a b p : Nat) (l : List Int) (w : World) (ho : w.ownsRow N 3 1 (.slice A n c) n (nums .i64 l)) (hb : b ≤ n) (hn : n ≤ 900000) (hp : a ≤ p ∧ p < b) :
    Calls Try.prog 130 #[.slice A n c, .int .i64 (a : Int), .int .i64 (b : Int), .int .i64 (p : Int)] w fun e w' => ∃ (l' : List Int) (q : Nat) (z : Bool), e = .returned (.tuple #[.int .i64 (q : Int), .bool z]) ∧ SwI w w' A n c N a b l l' ∧ a ≤ q ∧ q < b ∧ (∀ k, a ≤ k → k < q → l'.getD k 0 < l'.getD q 0) ∧ ∀ k, q < k → k < b → l'.getD q 0 ≤ l'.getD k 0 := by
  have hl : l.length = n := by have := ho.1; simpa [nums] using this
  have hA := (Reads.of_own ho).some_ (by omega)
  have e0 : (b : Int) - 1 = ((b - 1 : Nat) : Int) := by omega
  obtain ⟨j, hj0⟩ : ∃ j, j = b - 1 := ⟨_, rfl⟩
  rw [← hj0] at e0
  obtain ⟨i, hi0⟩ : ∃ i, i = a + 1 := ⟨_, rfl⟩
  have e1 : (a : Int) + 1 = (i : Int) := by omega
  refine enter Try.func130 rfl (by kernel_rfl) ?_
  refine J.seq ?_
  refine J.region ?_
  refine L.va rfl (X.assign (by conv => lhs; whnf)) ?_
  refine L.va rfl (X.assign (by conv => lhs; whnf)) ?_
  refine L.nil ?_
  refine J.cut (X := List Int) [12, 13, 14, 15, 16, 17, 18, 19, 20, 21, 22, 23, 24, 25] (fun m => [(1, .int .i64 (a : Int))]) (fun m w' => SwI w w' A n c N a b l m) ?_ ?_
  ·
    refine J.draw (ℓ := 1000000) (S := (fun _ => True)) mixed (fun w2d hSE hS_h => ?_)
    have hS : ((fun _ => True)) w2d := trivial
    have hrw2 := (Reads.of_own ho).ext hSE
    have hoX := ho.ext hSE
    have hG : w.grownBy w2d (Value.ownBlock (.slice A n c)) := grown_ext hSE
    refine D.va 0 rfl (by kernel_rfl) (fun _ _ _ h => h) rfl (fun w' hw => X.move (by conv => lhs; whnf)) hS ?_
    refine D.va 1 rfl (by kernel_rfl) (fun _ _ _ h => h) rfl (fun w' hw => X.move (by conv => lhs; whnf)) hS ?_
    refine D.va 2 rfl (by kernel_rfl) (fun _ _ _ h => h) rfl (fun w' hw => X.move (by conv => lhs; whnf)) hS ?_
    refine D.va 3 rfl (by kernel_rfl) (fun _ _ _ h => h) rfl (fun w' hw => X.move (by conv => lhs; whnf)) hS ?_
    refine D.va 4 rfl (by kernel_rfl) (fun _ _ _ h => h) rfl (fun w' hw => X.move (by conv => lhs; whnf)) hS ?_
    refine D.va 5 rfl (by kernel_rfl) (fun _ _ _ h => h) rfl (fun w' hw => X.move (by conv => lhs; whnf)) hS ?_
    refine D.va 6 rfl (by kernel_rfl) (fun _ _ _ h => h) rfl (fun w' hw => (by first | exact X.index1n rfl rfl Try.underlying74 sz_3 (by first | exact Option.some_ne_none _ | exact hA) (by omega) | exact X.index1 rfl rfl Try.underlying74 sz_3 (by first | exact Option.some_ne_none _ | exact hA) (by omega))) hS ?_
    refine D.va 8 rfl (by kernel_rfl) (fun _ _ _ h => h) rfl (fun w' hw => X.move (by conv => lhs; whnf)) hS ?_
    refine D.va 9 rfl (by kernel_rfl) (fun _ _ _ h => h) rfl (fun w' hw => X.move (by conv => lhs; whnf)) hS ?_
    refine D.va 10 rfl (by kernel_rfl) (fun _ _ _ h => h) rfl (fun w' hw => (by first | exact X.index1n rfl rfl Try.underlying74 sz_3 (by first | exact Option.some_ne_none _ | exact hA) (by omega) | exact X.index1 rfl rfl Try.underlying74 sz_3 (by first | exact Option.some_ne_none _ | exact hA) (by omega))) hS ?_
    refine D.two 7 11 (by kernel_rfl) rfl rfl ?_ ?_
    · refine L.va rfl (X.load rfl sc_3 (Ld.num hrw2 (j := p) (by omega))) ?_
      refine L.nil ?_
      refine ⟨fun _ => hS, ?_⟩
      refine D.one 11 (by kernel_rfl) rfl ?_
      refine L.va rfl (X.load rfl sc_3 (Ld.num hrw2 (j := a) (by omega))) ?_
      refine L.nil ?_
      refine ⟨fun _ => hS, ?_⟩
      refine D.va 12 rfl (by kernel_rfl) (fun _ _ _ h => h) rfl (fun w' hw => (by first | exact X.index1n rfl rfl Try.underlying74 sz_3 (by first | exact Option.some_ne_none _ | exact hA) (by omega) | exact X.index1 rfl rfl Try.underlying74 sz_3 (by first | exact Option.some_ne_none _ | exact hA) (by omega))) hS ?_
      refine D.one 13 (by kernel_rfl) rfl ?_
      refine L.storeON rfl rfl (by conv => lhs; whnf) sz_3 (hoX) (by omega) ?_
      intro w2 hoX hg2 hb2 hs2
      have hS1 := trivial
      refine L.nil ?_
      refine ⟨fun _ => hS1, ?_⟩
      replace hG := grb_trans hG hg2
      refine D.va 14 rfl (by kernel_rfl) (fun _ _ _ h => h) rfl (fun w' hw => (by first | exact X.index1n rfl rfl Try.underlying74 sz_3 (by first | exact Option.some_ne_none _ | exact hA) (by omega) | exact X.index1 rfl rfl Try.underlying74 sz_3 (by first | exact Option.some_ne_none _ | exact hA) (by omega))) hS1 ?_
      refine D.one 15 (by kernel_rfl) rfl ?_
      refine L.storeON rfl rfl (by conv => lhs; whnf) sz_3 (hoX) (by omega) ?_
      intro w2 hoX hg2 hb2 hs2
      have hS2 := trivial
      refine L.nil ?_
      refine ⟨fun _ => hS2, ?_⟩
      replace hG := grb_trans hG hg2
      refine D.done (by kernel_rfl) ?_
      refine ⟨swp l a p, At1 (by first | rfl | exact at_int rfl (by omega) | exact at_slice rfl (by omega) | exact at_int rfl (by simp)), (by (iterate 14 refine Agr.lk rfl ?_); exact Agr.rfl'), ?_⟩
      exact ⟨hoX, hG, .step (.refl _) ⟨by omega, by omega⟩ hp (by omega)⟩
    · refine L.va rfl (X.load rfl sc_3 (Ld.num hrw2 (j := a) (by omega))) ?_
      refine L.nil ?_
      refine ⟨fun _ => hS, ?_⟩
      refine D.one 7 (by kernel_rfl) rfl ?_
      refine L.va rfl (X.load rfl sc_3 (Ld.num hrw2 (j := p) (by omega))) ?_
      refine L.nil ?_
      refine ⟨fun _ => hS, ?_⟩
      refine D.va 12 rfl (by kernel_rfl) (fun _ _ _ h => h) rfl (fun w' hw => (by first | exact X.index1n rfl rfl Try.underlying74 sz_3 (by first | exact Option.some_ne_none _ | exact hA) (by omega) | exact X.index1 rfl rfl Try.underlying74 sz_3 (by first | exact Option.some_ne_none _ | exact hA) (by omega))) hS ?_
      refine D.one 13 (by kernel_rfl) rfl ?_
      refine L.storeON rfl rfl (by conv => lhs; whnf) sz_3 (hoX) (by omega) ?_
      intro w2 hoX hg2 hb2 hs2
      have hS1 := trivial
      refine L.nil ?_
      refine ⟨fun _ => hS1, ?_⟩
      replace hG := grb_trans hG hg2
      refine D.va 14 rfl (by kernel_rfl) (fun _ _ _ h => h) rfl (fun w' hw => (by first | exact X.index1n rfl rfl Try.underlying74 sz_3 (by first | exact Option.some_ne_none _ | exact hA) (by omega) | exact X.index1 rfl rfl Try.underlying74 sz_3 (by first | exact Option.some_ne_none _ | exact hA) (by omega))) hS1 ?_
      refine D.one 15 (by kernel_rfl) rfl ?_
      refine L.storeON rfl rfl (by conv => lhs; whnf) sz_3 (hoX) (by omega) ?_
      intro w2 hoX hg2 hb2 hs2
      have hS2 := trivial
      refine L.nil ?_
      refine ⟨fun _ => hS2, ?_⟩
      replace hG := grb_trans hG hg2
      refine D.done (by kernel_rfl) ?_
      refine ⟨swp l a p, At1 (by first | rfl | exact at_int rfl (by omega) | exact at_slice rfl (by omega) | exact at_int rfl (by simp)), (by (iterate 14 refine Agr.lk rfl ?_); exact Agr.rfl'), ?_⟩
      exact ⟨hoX, hG, .step (.refl _) ⟨by omega, by omega⟩ hp (by omega)⟩
  · rintro m g w2 M
    have hml : m.length = n := by rw [M.p.len, hl]
    have HP : Pt (· < ·) (fun x y => y ≤ x) m a b i j := ⟨by omega, by omega, by omega, (fun k k1 k2 => by omega), (fun k k1 k2 => by omega)⟩
    have HO := M.o
    refine J.seq ?_
    refine J.region ?_
    refine L.va rfl (X.move (by conv => lhs; whnf)) ?_
    refine L.va rfl (X.add rfl rfl (by omega)) ?_
    refine L.va rfl (X.move (by conv => lhs; whnf)) ?_
    refine L.va rfl (X.sub rfl rfl (by omega)) ?_
    refine L.va rfl (X.assign (by conv => lhs; whnf)) ?_
    refine L.va rfl (X.assign (by conv => lhs; whnf)) ?_
    refine L.nil ?_
    rw [e0, e1]
    obtain ⟨io, hio⟩ : ∃ io, io = i := ⟨_, rfl⟩
    refine J.cut (X := Nat) [10, 30, 31, 32, 33, 34, 35, 36, 37, 38, 39, 40, 41, 42, 43, 44, 45] (fun i => [(10, .int .i64 (i : Int))]) (fun i w' => Pt (· < ·) (fun x y => y ≤ x) m a b i j ∧ (i ≤ j → ¬ m.getD i 0 < m.getD a 0) ∧ io ≤ i ∧ Ext w2 w') ?_ ?_
    · refine J.block ?_
      refine J.loop (X := Nat) [10, 30, 31, 32, 33, 34, 35, 36, 37, 38, 39, 40, 41, 42, 43, 44, 45] (fun i => [(10, .int .i64 (i : Int))]) (fun i w' => Pt (· < ·) (fun x y => y ≤ x) m a b i j ∧ io ≤ i ∧ Ext w2 w') (fun i => j + 1 - i) (i) (At1 (by first | rfl | exact at_int rfl (by omega) | exact at_slice rfl (by omega) | exact at_int rfl (by simp))) ?_ ?_
      · exact ⟨HP, by omega, Ext.refl _⟩
      · rintro i g w4 ⟨HP, hbd, he⟩
        have h1 := HP.ai
        have h2 := HP.ij
        have h3 := HP.jb
        have hr := Reads.of_own (HO.ext he)
        have hA := hr.some_ (by omega)
        refine J.seq ?_
        refine J.seq ?_
        refine J.quiet mixed (by kernel_rfl) ?_
        refine Qt.va rfl (fun w' hw => X.move (by conv => lhs; whnf)) ?_
        refine Qt.va rfl (fun w' hw => X.move (by conv => lhs; whnf)) ?_
        refine Qt.va rfl (fun w' hw => X.leq rfl rfl) ?_
        refine Qt.va rfl (fun w' hw => X.move (by conv => lhs; whnf)) ?_
        refine Qt.caseDec (k := 33) rfl (fun hij => ?_) (fun hij => ?_)
        · refine Qt.va rfl (fun w' hw => X.move (by conv => lhs; whnf)) ?_
          refine Qt.va rfl (fun w' hw => X.move (by conv => lhs; whnf)) ?_
          refine Qt.va rfl (fun w' hw => (by first | exact X.index1n rfl rfl Try.underlying74 sz_3 (by first | exact Option.some_ne_none _ | exact hr.some_ (by omega) | exact hA) (by omega) | exact X.index1 rfl rfl Try.underlying74 sz_3 (by first | exact Option.some_ne_none _ | exact hr.some_ (by omega) | exact hA) (by omega))) ?_
          refine Qt.va rfl (fun w' hw => X.load rfl sc_3 (by first | exact Ld.num (hr.ext hw) (by omega) | exact hA)) ?_
          refine Qt.va rfl (fun w' hw => X.move (by conv => lhs; whnf)) ?_
          refine Qt.va rfl (fun w' hw => X.move (by conv => lhs; whnf)) ?_
          refine Qt.va rfl (fun w' hw => (by first | exact X.index1n rfl rfl Try.underlying74 sz_3 (by first | exact Option.some_ne_none _ | exact hr.some_ (by omega) | exact hA) (by omega) | exact X.index1 rfl rfl Try.underlying74 sz_3 (by first | exact Option.some_ne_none _ | exact hr.some_ (by omega) | exact hA) (by omega))) ?_
          refine Qt.va rfl (fun w' hw => X.load rfl sc_3 (by first | exact Ld.num (hr.ext hw) (by omega) | exact hA)) ?_
          refine Qt.call rfl en_128 rfl (fun w' hw => calls_same hw (clessI (m.getD i 0) (m.getD a 0) w')) ?_
          refine Qt.va rfl (fun w' hw => X.pickT rfl (by conv => lhs; whnf)) ?_
          refine Qt.nil (fun w5 hq => ?_)
          by_cases hd : m.getD i 0 < m.getD a 0
          · rw [show decide (m.getD i 0 < m.getD a 0) = true from decide_eq_true (by omega)]
            refine J.iteT rfl ?_
            refine J.skip ?_
            refine J.block ?_
            refine J.region ?_
            refine L.va rfl (X.move (by conv => lhs; whnf)) ?_
            refine L.va rfl (X.add rfl rfl (by omega)) ?_
            refine L.va rfl (X.assign (by conv => lhs; whnf)) ?_
            refine L.nil ?_
            refine ⟨i + 1, At1 (by first | rfl | exact at_int rfl (by omega) | exact at_slice rfl (by omega) | exact at_int rfl (by simp)), (by (iterate 18 refine Agr.lk rfl ?_); exact Agr.lk rfl (Agr.hav rfl Agr.rfl')), ?_⟩
            exact ⟨⟨⟨by omega, by omega, h3, fun k k1 k2 => by
              rcases Nat.lt_or_ge k i with h | h
              · exact HP.le k k1 h
              · obtain rfl : k = i := by omega
                exact hd, HP.ri⟩, by omega, he.trans hq⟩, by omega⟩
          · rw [show decide (m.getD i 0 < m.getD a 0) = false from decide_eq_false (by omega)]
            refine J.iteF rfl ?_
            refine J.exit ?_
            refine ⟨i, At1 (by first | rfl | exact at_int rfl (by omega) | exact at_slice rfl (by omega) | exact at_int rfl (by simp)), (by (iterate 15 refine Agr.lk rfl ?_); refine Agr.lk rfl ?_; refine Agr.hav rfl ?_; exact Agr.rfl'), ?_⟩
            exact ⟨HP, (fun _ => hd), hbd, he.trans hq⟩
        · skip
          refine Qt.no rfl ?_
          refine Qt.no rfl ?_
          refine Qt.no rfl ?_
          refine Qt.no rfl ?_
          refine Qt.no rfl ?_
          refine Qt.no rfl ?_
          refine Qt.no rfl ?_
          refine Qt.no rfl ?_
          refine Qt.no rfl ?_
          refine Qt.va rfl (fun w' hw => X.pickF rfl (by conv => lhs; whnf)) ?_
          refine Qt.nil (fun w5 hq => ?_)
          refine J.iteF rfl ?_
          refine J.exit ?_
          refine ⟨i, At1 (by first | rfl | exact at_int rfl (by omega) | exact at_slice rfl (by omega) | exact at_int rfl (by simp)), (by (iterate 15 refine Agr.lk rfl ?_); refine Agr.lk rfl ?_; refine Agr.hav rfl ?_; exact Agr.rfl'), ?_⟩
          exact ⟨HP, (fun h => absurd h (by omega)), hbd, he.trans hq⟩
    · rintro i g w6 ⟨HP, hi, hio2, he6⟩
      replace HO := HO.ext he6
      have hG6 : w.grownBy w6 (Value.ownBlock (.slice A n c)) := grb_trans M.g (grown_ext he6)
      obtain ⟨jo, hjo⟩ : ∃ jo, jo = j := ⟨_, rfl⟩
      rw [← hjo] at hi
      refine J.cut (X := Nat) [11, 46, 47, 48, 49, 50, 51, 52, 53, 54, 55, 56, 57, 58, 59, 60, 61, 62] (fun j => [(11, .int .i64 (j : Int))]) (fun j w' => Pt (· < ·) (fun x y => y ≤ x) m a b i j ∧ (i ≤ j → ¬ m.getD a 0 ≤ m.getD j 0) ∧ j ≤ jo ∧ Ext w6 w') ?_ ?_
      · refine J.block ?_
        refine J.loop (X := Nat) [11, 46, 47, 48, 49, 50, 51, 52, 53, 54, 55, 56, 57, 58, 59, 60, 61, 62] (fun j => [(11, .int .i64 (j : Int))]) (fun j w' => Pt (· < ·) (fun x y => y ≤ x) m a b i j ∧ j ≤ jo ∧ Ext w6 w') (fun j => j) (j) (At1 (by first | rfl | exact at_int rfl (by omega) | exact at_slice rfl (by omega) | exact at_int rfl (by simp))) ?_ ?_
        · exact ⟨HP, by omega, Ext.refl _⟩
        · rintro j g w7 ⟨HP, hbd, he⟩
          have h1 := HP.ai
          have h2 := HP.ij
          have h3 := HP.jb
          have hr := Reads.of_own (HO.ext he)
          have hA := hr.some_ (by omega)
          refine J.seq ?_
          refine J.seq ?_
          refine J.quiet mixed (by kernel_rfl) ?_
          refine Qt.va rfl (fun w' hw => X.move (by conv => lhs; whnf)) ?_
          refine Qt.va rfl (fun w' hw => X.move (by conv => lhs; whnf)) ?_
          refine Qt.va rfl (fun w' hw => X.leq rfl rfl) ?_
          refine Qt.va rfl (fun w' hw => X.move (by conv => lhs; whnf)) ?_
          refine Qt.caseDec (k := 49) rfl (fun hij => ?_) (fun hij => ?_)
          · refine Qt.va rfl (fun w' hw => X.move (by conv => lhs; whnf)) ?_
            refine Qt.va rfl (fun w' hw => X.move (by conv => lhs; whnf)) ?_
            refine Qt.va rfl (fun w' hw => (by first | exact X.index1n rfl rfl Try.underlying74 sz_3 (by first | exact Option.some_ne_none _ | exact hr.some_ (by omega) | exact hA) (by omega) | exact X.index1 rfl rfl Try.underlying74 sz_3 (by first | exact Option.some_ne_none _ | exact hr.some_ (by omega) | exact hA) (by omega))) ?_
            refine Qt.va rfl (fun w' hw => X.load rfl sc_3 (by first | exact Ld.num (hr.ext hw) (by omega) | exact hA)) ?_
            refine Qt.va rfl (fun w' hw => X.move (by conv => lhs; whnf)) ?_
            refine Qt.va rfl (fun w' hw => X.move (by conv => lhs; whnf)) ?_
            refine Qt.va rfl (fun w' hw => (by first | exact X.index1n rfl rfl Try.underlying74 sz_3 (by first | exact Option.some_ne_none _ | exact hr.some_ (by omega) | exact hA) (by omega) | exact X.index1 rfl rfl Try.underlying74 sz_3 (by first | exact Option.some_ne_none _ | exact hr.some_ (by omega) | exact hA) (by omega))) ?_
            refine Qt.va rfl (fun w' hw => X.load rfl sc_3 (by first | exact Ld.num (hr.ext hw) (by omega) | exact hA)) ?_
            refine Qt.call rfl en_128 rfl (fun w' hw => calls_same hw (clessI (m.getD j 0) (m.getD a 0) w')) ?_
            refine Qt.va rfl (fun w' hw => X.not rfl) ?_
            refine Qt.va rfl (fun w' hw => X.pickT rfl (by conv => lhs; whnf)) ?_
            refine Qt.nil (fun w8 hq => ?_)
            by_cases hd : m.getD a 0 ≤ m.getD j 0
            · rw [show decide (m.getD j 0 < m.getD a 0) = false from decide_eq_false (by omega)]
              refine J.iteT rfl ?_
              refine J.skip ?_
              refine J.block ?_
              refine J.region ?_
              refine L.va rfl (X.move (by conv => lhs; whnf)) ?_
              refine L.va rfl (X.sub rfl rfl (by omega)) ?_
              refine L.va rfl (X.assign (by conv => lhs; whnf)) ?_
              refine L.nil ?_
              obtain ⟨j', rfl⟩ : ∃ j', j = j' + 1 := ⟨j - 1, by omega⟩
              refine ⟨j', At1 (by first | rfl | exact at_int rfl (by omega) | exact at_slice rfl (by omega) | exact at_int rfl (by simp)), (by (iterate 19 refine Agr.lk rfl ?_); exact Agr.lk rfl (Agr.hav rfl Agr.rfl')), ?_⟩
              exact ⟨⟨⟨h1, by omega, by omega, HP.le, fun k k1 k2 => by
                rcases Nat.lt_or_ge (j' + 1) k with h | h
                · exact HP.ri k h k2
                · obtain rfl : k = j' + 1 := by omega
                  exact hd⟩, by omega, he.trans hq⟩, by omega⟩
            · rw [show decide (m.getD j 0 < m.getD a 0) = true from decide_eq_true (by omega)]
              refine J.iteF rfl ?_
              refine J.exit ?_
              refine ⟨j, At1 (by first | rfl | exact at_int rfl (by omega) | exact at_slice rfl (by omega) | exact at_int rfl (by simp)), (by (iterate 16 refine Agr.lk rfl ?_); refine Agr.lk rfl ?_; refine Agr.hav rfl ?_; exact Agr.rfl'), ?_⟩
              exact ⟨HP, (fun _ => hd), hbd, he.trans hq⟩
          · skip
            refine Qt.no rfl ?_
            refine Qt.no rfl ?_
            refine Qt.no rfl ?_
            refine Qt.no rfl ?_
            refine Qt.no rfl ?_
            refine Qt.no rfl ?_
            refine Qt.no rfl ?_
            refine Qt.no rfl ?_
            refine Qt.no rfl ?_
            refine Qt.no rfl ?_
            refine Qt.va rfl (fun w' hw => X.pickF rfl (by conv => lhs; whnf)) ?_
            refine Qt.nil (fun w8 hq => ?_)
            refine J.iteF rfl ?_
            refine J.exit ?_
            refine ⟨j, At1 (by first | rfl | exact at_int rfl (by omega) | exact at_slice rfl (by omega) | exact at_int rfl (by simp)), (by (iterate 16 refine Agr.lk rfl ?_); refine Agr.lk rfl ?_; refine Agr.hav rfl ?_; exact Agr.rfl'), ?_⟩
            exact ⟨HP, (fun h => absurd h (by omega)), hbd, he.trans hq⟩
      · rintro j g w9 ⟨HP, hj, hjo2, he9⟩
        replace HO := HO.ext he9
        have hG9 := grb_trans hG6 (grown_ext he9)
        have h1 := HP.ai
        have h2 := HP.ij
        have h3 := HP.jb
        refine J.seq ?_
        refine J.seq ?_
        refine J.region ?_
        refine L.va rfl (X.move (by conv => lhs; whnf)) ?_
        refine L.va rfl (X.move (by conv => lhs; whnf)) ?_
        refine L.va rfl (X.gtr rfl rfl) ?_
        refine L.nil ?_
        refine J.dec rfl (fun hgt => ?_) (fun hgt => ?_)
        · have hd := HP.done (by omega) (by omega)
          refine J.seq ?_
          refine J.draw (ℓ := 1000000) (S := (fun _ => True)) mixed (fun w12d hSE hS_h => ?_)
          have hS : ((fun _ => True)) w12d := trivial
          have hrw12 := (Reads.of_own HO).ext hSE
          have hoX := HO.ext hSE
          have hG : w9.grownBy w12d (Value.ownBlock (.slice A n c)) := grown_ext hSE
          refine D.va 0 rfl (by kernel_rfl) (fun _ _ _ h => h) rfl (fun w' hw => X.move (by conv => lhs; whnf)) hS ?_
          refine D.va 1 rfl (by kernel_rfl) (fun _ _ _ h => h) rfl (fun w' hw => X.move (by conv => lhs; whnf)) hS ?_
          refine D.va 2 rfl (by kernel_rfl) (fun _ _ _ h => h) rfl (fun w' hw => X.move (by conv => lhs; whnf)) hS ?_
          refine D.va 3 rfl (by kernel_rfl) (fun _ _ _ h => h) rfl (fun w' hw => X.move (by conv => lhs; whnf)) hS ?_
          refine D.va 4 rfl (by kernel_rfl) (fun _ _ _ h => h) rfl (fun w' hw => X.move (by conv => lhs; whnf)) hS ?_
          refine D.va 5 rfl (by kernel_rfl) (fun _ _ _ h => h) rfl (fun w' hw => X.move (by conv => lhs; whnf)) hS ?_
          refine D.va 6 rfl (by kernel_rfl) (fun _ _ _ h => h) rfl (fun w' hw => (by first | exact X.index1n rfl rfl Try.underlying74 sz_3 (by first | exact Option.some_ne_none _ | exact hA) (by omega) | exact X.index1 rfl rfl Try.underlying74 sz_3 (by first | exact Option.some_ne_none _ | exact hA) (by omega))) hS ?_
          refine D.va 8 rfl (by kernel_rfl) (fun _ _ _ h => h) rfl (fun w' hw => X.move (by conv => lhs; whnf)) hS ?_
          refine D.va 9 rfl (by kernel_rfl) (fun _ _ _ h => h) rfl (fun w' hw => X.move (by conv => lhs; whnf)) hS ?_
          refine D.va 10 rfl (by kernel_rfl) (fun _ _ _ h => h) rfl (fun w' hw => (by first | exact X.index1n rfl rfl Try.underlying74 sz_3 (by first | exact Option.some_ne_none _ | exact hA) (by omega) | exact X.index1 rfl rfl Try.underlying74 sz_3 (by first | exact Option.some_ne_none _ | exact hA) (by omega))) hS ?_
          refine D.two 7 11 (by kernel_rfl) rfl rfl ?_ ?_
          · refine L.va rfl (X.load rfl sc_3 (Ld.num hrw12 (j := a) (by omega))) ?_
            refine L.nil ?_
            refine ⟨fun _ => hS, ?_⟩
            refine D.one 11 (by kernel_rfl) rfl ?_
            refine L.va rfl (X.load rfl sc_3 (Ld.num hrw12 (j := j) (by omega))) ?_
            refine L.nil ?_
            refine ⟨fun _ => hS, ?_⟩
            refine D.va 12 rfl (by kernel_rfl) (fun _ _ _ h => h) rfl (fun w' hw => (by first | exact X.index1n rfl rfl Try.underlying74 sz_3 (by first | exact Option.some_ne_none _ | exact hA) (by omega) | exact X.index1 rfl rfl Try.underlying74 sz_3 (by first | exact Option.some_ne_none _ | exact hA) (by omega))) hS ?_
            refine D.one 13 (by kernel_rfl) rfl ?_
            refine L.storeON rfl rfl (by conv => lhs; whnf) sz_3 (hoX) (by omega) ?_
            intro w12 hoX hg2 hb2 hs2
            have hS1 := trivial
            refine L.nil ?_
            refine ⟨fun _ => hS1, ?_⟩
            replace hG := grb_trans hG hg2
            refine D.va 14 rfl (by kernel_rfl) (fun _ _ _ h => h) rfl (fun w' hw => (by first | exact X.index1n rfl rfl Try.underlying74 sz_3 (by first | exact Option.some_ne_none _ | exact hA) (by omega) | exact X.index1 rfl rfl Try.underlying74 sz_3 (by first | exact Option.some_ne_none _ | exact hA) (by omega))) hS1 ?_
            refine D.one 15 (by kernel_rfl) rfl ?_
            refine L.storeON rfl rfl (by conv => lhs; whnf) sz_3 (hoX) (by omega) ?_
            intro w12 hoX hg2 hb2 hs2
            have hS2 := trivial
            refine L.nil ?_
            refine ⟨fun _ => hS2, ?_⟩
            replace hG := grb_trans hG hg2
            refine D.done (by kernel_rfl) ?_
            refine J.seq ?_
            refine J.region ?_
            refine L.va rfl (X.move (by conv => lhs; whnf)) ?_
            refine L.va rfl (X.assign (by conv => lhs; whnf)) ?_
            refine L.va rfl (X.assign (by conv => lhs; whnf)) ?_
            refine L.nil ?_
            refine J.ret ?_
            refine thn_ret <| ?_
            refine fin2 ?_
            exact ⟨swp m j a, j, true, rfl, ⟨hoX, grb_trans hG9 hG, .step M.p ⟨by omega, by omega⟩ ⟨by omega, by omega⟩ (by omega)⟩, by omega, by omega, hd.1, hd.2⟩
          · refine L.va rfl (X.load rfl sc_3 (Ld.num hrw12 (j := j) (by omega))) ?_
            refine L.nil ?_
            refine ⟨fun _ => hS, ?_⟩
            refine D.one 7 (by kernel_rfl) rfl ?_
            refine L.va rfl (X.load rfl sc_3 (Ld.num hrw12 (j := a) (by omega))) ?_
            refine L.nil ?_
            refine ⟨fun _ => hS, ?_⟩
            refine D.va 12 rfl (by kernel_rfl) (fun _ _ _ h => h) rfl (fun w' hw => (by first | exact X.index1n rfl rfl Try.underlying74 sz_3 (by first | exact Option.some_ne_none _ | exact hA) (by omega) | exact X.index1 rfl rfl Try.underlying74 sz_3 (by first | exact Option.some_ne_none _ | exact hA) (by omega))) hS ?_
            refine D.one 13 (by kernel_rfl) rfl ?_
            refine L.storeON rfl rfl (by conv => lhs; whnf) sz_3 (hoX) (by omega) ?_
            intro w12 hoX hg2 hb2 hs2
            have hS1 := trivial
            refine L.nil ?_
            refine ⟨fun _ => hS1, ?_⟩
            replace hG := grb_trans hG hg2
            refine D.va 14 rfl (by kernel_rfl) (fun _ _ _ h => h) rfl (fun w' hw => (by first | exact X.index1n rfl rfl Try.underlying74 sz_3 (by first | exact Option.some_ne_none _ | exact hA) (by omega) | exact X.index1 rfl rfl Try.underlying74 sz_3 (by first | exact Option.some_ne_none _ | exact hA) (by omega))) hS1 ?_
            refine D.one 15 (by kernel_rfl) rfl ?_
            refine L.storeON rfl rfl (by conv => lhs; whnf) sz_3 (hoX) (by omega) ?_
            intro w12 hoX hg2 hb2 hs2
            have hS2 := trivial
            refine L.nil ?_
            refine ⟨fun _ => hS2, ?_⟩
            replace hG := grb_trans hG hg2
            refine D.done (by kernel_rfl) ?_
            refine J.seq ?_
            refine J.region ?_
            refine L.va rfl (X.move (by conv => lhs; whnf)) ?_
            refine L.va rfl (X.assign (by conv => lhs; whnf)) ?_
            refine L.va rfl (X.assign (by conv => lhs; whnf)) ?_
            refine L.nil ?_
            refine J.ret ?_
            refine thn_ret <| ?_
            refine fin2 ?_
            exact ⟨swp m j a, j, true, rfl, ⟨hoX, grb_trans hG9 hG, .step M.p ⟨by omega, by omega⟩ ⟨by omega, by omega⟩ (by omega)⟩, by omega, by omega, hd.1, hd.2⟩
        · have hi' := hi (by omega)
          have hj' := hj (by omega)
          have hne : i ≠ j := fun e => by subst e; omega
          obtain ⟨j, rfl⟩ : ∃ j', j = j' + 1 := ⟨j - 1, by omega⟩
          have ej : ((j + 1 : Nat) : Int) - 1 = (j : Int) := by omega
          refine J.skip ?_
          refine J.seq ?_
          refine J.draw (ℓ := 1000000) (S := (fun _ => True)) mixed (fun w12d hSE hS_h => ?_)
          have hS : ((fun _ => True)) w12d := trivial
          have hrw12 := (Reads.of_own HO).ext hSE
          have hoX := HO.ext hSE
          have hG : w9.grownBy w12d (Value.ownBlock (.slice A n c)) := grown_ext hSE
          refine D.va 0 rfl (by kernel_rfl) (fun _ _ _ h => h) rfl (fun w' hw => X.move (by conv => lhs; whnf)) hS ?_
          refine D.va 1 rfl (by kernel_rfl) (fun _ _ _ h => h) rfl (fun w' hw => X.move (by conv => lhs; whnf)) hS ?_
          refine D.va 2 rfl (by kernel_rfl) (fun _ _ _ h => h) rfl (fun w' hw => X.move (by conv => lhs; whnf)) hS ?_
          refine D.va 3 rfl (by kernel_rfl) (fun _ _ _ h => h) rfl (fun w' hw => X.move (by conv => lhs; whnf)) hS ?_
          refine D.va 4 rfl (by kernel_rfl) (fun _ _ _ h => h) rfl (fun w' hw => X.move (by conv => lhs; whnf)) hS ?_
          refine D.va 5 rfl (by kernel_rfl) (fun _ _ _ h => h) rfl (fun w' hw => X.move (by conv => lhs; whnf)) hS ?_
          refine D.va 6 rfl (by kernel_rfl) (fun _ _ _ h => h) rfl (fun w' hw => (by first | exact X.index1n rfl rfl Try.underlying74 sz_3 (by first | exact Option.some_ne_none _ | exact hA) (by omega) | exact X.index1 rfl rfl Try.underlying74 sz_3 (by first | exact Option.some_ne_none _ | exact hA) (by omega))) hS ?_
          refine D.va 8 rfl (by kernel_rfl) (fun _ _ _ h => h) rfl (fun w' hw => X.move (by conv => lhs; whnf)) hS ?_
          refine D.va 9 rfl (by kernel_rfl) (fun _ _ _ h => h) rfl (fun w' hw => X.move (by conv => lhs; whnf)) hS ?_
          refine D.va 10 rfl (by kernel_rfl) (fun _ _ _ h => h) rfl (fun w' hw => (by first | exact X.index1n rfl rfl Try.underlying74 sz_3 (by first | exact Option.some_ne_none _ | exact hA) (by omega) | exact X.index1 rfl rfl Try.underlying74 sz_3 (by first | exact Option.some_ne_none _ | exact hA) (by omega))) hS ?_
          refine D.two 7 11 (by kernel_rfl) rfl rfl ?_ ?_
          · refine L.va rfl (X.load rfl sc_3 (Ld.num hrw12 (j := j + 1) (by omega))) ?_
            refine L.nil ?_
            refine ⟨fun _ => hS, ?_⟩
            refine D.one 11 (by kernel_rfl) rfl ?_
            refine L.va rfl (X.load rfl sc_3 (Ld.num hrw12 (j := i) (by omega))) ?_
            refine L.nil ?_
            refine ⟨fun _ => hS, ?_⟩
            refine D.va 12 rfl (by kernel_rfl) (fun _ _ _ h => h) rfl (fun w' hw => (by first | exact X.index1n rfl rfl Try.underlying74 sz_3 (by first | exact Option.some_ne_none _ | exact hA) (by omega) | exact X.index1 rfl rfl Try.underlying74 sz_3 (by first | exact Option.some_ne_none _ | exact hA) (by omega))) hS ?_
            refine D.one 13 (by kernel_rfl) rfl ?_
            refine L.storeON rfl rfl (by conv => lhs; whnf) sz_3 (hoX) (by omega) ?_
            intro w12 hoX hg2 hb2 hs2
            have hS1 := trivial
            refine L.nil ?_
            refine ⟨fun _ => hS1, ?_⟩
            replace hG := grb_trans hG hg2
            refine D.va 14 rfl (by kernel_rfl) (fun _ _ _ h => h) rfl (fun w' hw => (by first | exact X.index1n rfl rfl Try.underlying74 sz_3 (by first | exact Option.some_ne_none _ | exact hA) (by omega) | exact X.index1 rfl rfl Try.underlying74 sz_3 (by first | exact Option.some_ne_none _ | exact hA) (by omega))) hS1 ?_
            refine D.one 15 (by kernel_rfl) rfl ?_
            refine L.storeON rfl rfl (by conv => lhs; whnf) sz_3 (hoX) (by omega) ?_
            intro w12 hoX hg2 hb2 hs2
            have hS2 := trivial
            refine L.nil ?_
            refine ⟨fun _ => hS2, ?_⟩
            replace hG := grb_trans hG hg2
            refine D.done (by kernel_rfl) ?_
            refine J.seq ?_
            refine J.region ?_
            refine L.va rfl (X.move (by conv => lhs; whnf)) ?_
            refine L.va rfl (X.add rfl rfl (by omega)) ?_
            refine L.va rfl (X.assign (by conv => lhs; whnf)) ?_
            refine L.nil ?_
            refine J.seq ?_
            refine J.region ?_
            refine L.va rfl (X.move (by conv => lhs; whnf)) ?_
            refine L.va rfl (X.sub rfl rfl (by omega)) ?_
            refine L.va rfl (X.assign (by conv => lhs; whnf)) ?_
            refine L.nil ?_
            refine J.seq ?_
            refine J.block ?_
            have M2 : SwI w w12 A n c N a b l (swp m i (j + 1)) := ⟨hoX, grb_trans hG9 hG, .step M.p ⟨by omega, by omega⟩ ⟨by omega, by omega⟩ (by omega)⟩
            have HP2 := HP.swap (by omega) (by omega) (by omega) (by omega)
            rw [ej]
            refine J.loop (X := Nat × Nat × List Int) [10, 11, 99, 100, 101, 102, 103, 104, 105, 106, 107, 108, 109, 110, 111, 112, 113, 114, 115, 116, 117, 118, 119, 120, 121, 122, 123, 124, 125, 126, 127, 128, 129, 130, 131, 132, 133, 134, 135, 136, 137, 138, 139, 140, 141, 142, 143, 144, 145, 146, 147, 148, 149, 150, 151, 152] (fun (i, j, m) => [(10, .int .i64 (i : Int)), (11, .int .i64 (j : Int))]) (fun (i, j, m) w' => SwI w w' A n c N a b l m ∧ Pt (· < ·) (fun x y => y ≤ x) m a b i j) (fun (i, j, _) => j + 1 - i) ((i + 1, j, swp m i (j + 1))) (At2 (by first | rfl | exact at_int rfl (by omega) | exact at_slice rfl (by omega) | exact at_int rfl (by simp)) (by first | rfl | exact at_int rfl (by omega) | exact at_slice rfl (by omega) | exact at_int rfl (by simp))) ?_ ?_
            · exact ⟨M2, HP2⟩
            · rintro ⟨i, j, m⟩ g w13 ⟨M, HP⟩
              have hml : m.length = n := by rw [M.p.len, hl]
              have HO := M.o
              obtain ⟨io, hio⟩ : ∃ io, io = i := ⟨_, rfl⟩
              refine J.block ?_
              refine J.cut (X := Nat) [10, 99, 100, 101, 102, 103, 104, 105, 106, 107, 108, 109, 110, 111, 112, 113, 114] (fun i => [(10, .int .i64 (i : Int))]) (fun i w' => Pt (· < ·) (fun x y => y ≤ x) m a b i j ∧ (i ≤ j → ¬ m.getD i 0 < m.getD a 0) ∧ io ≤ i ∧ Ext w13 w') ?_ ?_
              · refine J.block ?_
                refine J.loop (X := Nat) [10, 99, 100, 101, 102, 103, 104, 105, 106, 107, 108, 109, 110, 111, 112, 113, 114] (fun i => [(10, .int .i64 (i : Int))]) (fun i w' => Pt (· < ·) (fun x y => y ≤ x) m a b i j ∧ io ≤ i ∧ Ext w13 w') (fun i => j + 1 - i) (i) (At1 (by first | rfl | exact at_int rfl (by omega) | exact at_slice rfl (by omega) | exact at_int rfl (by simp))) ?_ ?_
                · exact ⟨HP, by omega, Ext.refl _⟩
                · rintro i g w14 ⟨HP, hbd, he⟩
                  have h1 := HP.ai
                  have h2 := HP.ij
                  have h3 := HP.jb
                  have hr := Reads.of_own (HO.ext he)
                  have hA := hr.some_ (by omega)
                  refine J.seq ?_
                  refine J.seq ?_
                  refine J.quiet mixed (by kernel_rfl) ?_
                  refine Qt.va rfl (fun w' hw => X.move (by conv => lhs; whnf)) ?_
                  refine Qt.va rfl (fun w' hw => X.move (by conv => lhs; whnf)) ?_
                  refine Qt.va rfl (fun w' hw => X.leq rfl rfl) ?_
                  refine Qt.va rfl (fun w' hw => X.move (by conv => lhs; whnf)) ?_
                  refine Qt.caseDec (k := 102) rfl (fun hij => ?_) (fun hij => ?_)
                  · refine Qt.va rfl (fun w' hw => X.move (by conv => lhs; whnf)) ?_
                    refine Qt.va rfl (fun w' hw => X.move (by conv => lhs; whnf)) ?_
                    refine Qt.va rfl (fun w' hw => (by first | exact X.index1n rfl rfl Try.underlying74 sz_3 (by first | exact Option.some_ne_none _ | exact hr.some_ (by omega) | exact hA) (by omega) | exact X.index1 rfl rfl Try.underlying74 sz_3 (by first | exact Option.some_ne_none _ | exact hr.some_ (by omega) | exact hA) (by omega))) ?_
                    refine Qt.va rfl (fun w' hw => X.load rfl sc_3 (by first | exact Ld.num (hr.ext hw) (by omega) | exact hA)) ?_
                    refine Qt.va rfl (fun w' hw => X.move (by conv => lhs; whnf)) ?_
                    refine Qt.va rfl (fun w' hw => X.move (by conv => lhs; whnf)) ?_
                    refine Qt.va rfl (fun w' hw => (by first | exact X.index1n rfl rfl Try.underlying74 sz_3 (by first | exact Option.some_ne_none _ | exact hr.some_ (by omega) | exact hA) (by omega) | exact X.index1 rfl rfl Try.underlying74 sz_3 (by first | exact Option.some_ne_none _ | exact hr.some_ (by omega) | exact hA) (by omega))) ?_
                    refine Qt.va rfl (fun w' hw => X.load rfl sc_3 (by first | exact Ld.num (hr.ext hw) (by omega) | exact hA)) ?_
                    refine Qt.call rfl en_128 rfl (fun w' hw => calls_same hw (clessI (m.getD i 0) (m.getD a 0) w')) ?_
                    refine Qt.va rfl (fun w' hw => X.pickT rfl (by conv => lhs; whnf)) ?_
                    refine Qt.nil (fun w15 hq => ?_)
                    by_cases hd : m.getD i 0 < m.getD a 0
                    · rw [show decide (m.getD i 0 < m.getD a 0) = true from decide_eq_true (by omega)]
                      refine J.iteT rfl ?_
                      refine J.skip ?_
                      refine J.block ?_
                      refine J.region ?_
                      refine L.va rfl (X.move (by conv => lhs; whnf)) ?_
                      refine L.va rfl (X.add rfl rfl (by omega)) ?_
                      refine L.va rfl (X.assign (by conv => lhs; whnf)) ?_
                      refine L.nil ?_
                      refine ⟨i + 1, At1 (by first | rfl | exact at_int rfl (by omega) | exact at_slice rfl (by omega) | exact at_int rfl (by simp)), (by (iterate 18 refine Agr.lk rfl ?_); exact Agr.lk rfl (Agr.hav rfl Agr.rfl')), ?_⟩
                      exact ⟨⟨⟨by omega, by omega, h3, fun k k1 k2 => by
                        rcases Nat.lt_or_ge k i with h | h
                        · exact HP.le k k1 h
                        · obtain rfl : k = i := by omega
                          exact hd, HP.ri⟩, by omega, he.trans hq⟩, by omega⟩
                    · rw [show decide (m.getD i 0 < m.getD a 0) = false from decide_eq_false (by omega)]
                      refine J.iteF rfl ?_
                      refine J.exit ?_
                      refine ⟨i, At1 (by first | rfl | exact at_int rfl (by omega) | exact at_slice rfl (by omega) | exact at_int rfl (by simp)), (by (iterate 15 refine Agr.lk rfl ?_); refine Agr.lk rfl ?_; refine Agr.hav rfl ?_; exact Agr.rfl'), ?_⟩
                      exact ⟨HP, (fun _ => hd), hbd, he.trans hq⟩
                  · skip
                    refine Qt.no rfl ?_
                    refine Qt.no rfl ?_
                    refine Qt.no rfl ?_
                    refine Qt.no rfl ?_
                    refine Qt.no rfl ?_
                    refine Qt.no rfl ?_
                    refine Qt.no rfl ?_
                    refine Qt.no rfl ?_
                    refine Qt.no rfl ?_
                    refine Qt.va rfl (fun w' hw => X.pickF rfl (by conv => lhs; whnf)) ?_
                    refine Qt.nil (fun w15 hq => ?_)
                    refine J.iteF rfl ?_
                    refine J.exit ?_
                    refine ⟨i, At1 (by first | rfl | exact at_int rfl (by omega) | exact at_slice rfl (by omega) | exact at_int rfl (by simp)), (by (iterate 15 refine Agr.lk rfl ?_); refine Agr.lk rfl ?_; refine Agr.hav rfl ?_; exact Agr.rfl'), ?_⟩
                    exact ⟨HP, (fun h => absurd h (by omega)), hbd, he.trans hq⟩
              · rintro i g w16 ⟨HP, hi, hio2, he16⟩
                replace HO := HO.ext he16
                have hG16 : w.grownBy w16 (Value.ownBlock (.slice A n c)) := grb_trans M.g (grown_ext he16)
                obtain ⟨jo, hjo⟩ : ∃ jo, jo = j := ⟨_, rfl⟩
                rw [← hjo] at hi
                refine J.cut (X := Nat) [11, 115, 116, 117, 118, 119, 120, 121, 122, 123, 124, 125, 126, 127, 128, 129, 130, 131] (fun j => [(11, .int .i64 (j : Int))]) (fun j w' => Pt (· < ·) (fun x y => y ≤ x) m a b i j ∧ (i ≤ j → ¬ m.getD a 0 ≤ m.getD j 0) ∧ j ≤ jo ∧ Ext w16 w') ?_ ?_
                · refine J.block ?_
                  refine J.loop (X := Nat) [11, 115, 116, 117, 118, 119, 120, 121, 122, 123, 124, 125, 126, 127, 128, 129, 130, 131] (fun j => [(11, .int .i64 (j : Int))]) (fun j w' => Pt (· < ·) (fun x y => y ≤ x) m a b i j ∧ j ≤ jo ∧ Ext w16 w') (fun j => j) (j) (At1 (by first | rfl | exact at_int rfl (by omega) | exact at_slice rfl (by omega) | exact at_int rfl (by simp))) ?_ ?_
                  · exact ⟨HP, by omega, Ext.refl _⟩
                  · rintro j g w17 ⟨HP, hbd, he⟩
                    have h1 := HP.ai
                    have h2 := HP.ij
                    have h3 := HP.jb
                    have hr := Reads.of_own (HO.ext he)
                    have hA := hr.some_ (by omega)
                    refine J.seq ?_
                    refine J.seq ?_
                    refine J.quiet mixed (by kernel_rfl) ?_
                    refine Qt.va rfl (fun w' hw => X.move (by conv => lhs; whnf)) ?_
                    refine Qt.va rfl (fun w' hw => X.move (by conv => lhs; whnf)) ?_
                    refine Qt.va rfl (fun w' hw => X.leq rfl rfl) ?_
                    refine Qt.va rfl (fun w' hw => X.move (by conv => lhs; whnf)) ?_
                    refine Qt.caseDec (k := 118) rfl (fun hij => ?_) (fun hij => ?_)
                    · refine Qt.va rfl (fun w' hw => X.move (by conv => lhs; whnf)) ?_
                      refine Qt.va rfl (fun w' hw => X.move (by conv => lhs; whnf)) ?_
                      refine Qt.va rfl (fun w' hw => (by first | exact X.index1n rfl rfl Try.underlying74 sz_3 (by first | exact Option.some_ne_none _ | exact hr.some_ (by omega) | exact hA) (by omega) | exact X.index1 rfl rfl Try.underlying74 sz_3 (by first | exact Option.some_ne_none _ | exact hr.some_ (by omega) | exact hA) (by omega))) ?_
                      refine Qt.va rfl (fun w' hw => X.load rfl sc_3 (by first | exact Ld.num (hr.ext hw) (by omega) | exact hA)) ?_
                      refine Qt.va rfl (fun w' hw => X.move (by conv => lhs; whnf)) ?_
                      refine Qt.va rfl (fun w' hw => X.move (by conv => lhs; whnf)) ?_
                      refine Qt.va rfl (fun w' hw => (by first | exact X.index1n rfl rfl Try.underlying74 sz_3 (by first | exact Option.some_ne_none _ | exact hr.some_ (by omega) | exact hA) (by omega) | exact X.index1 rfl rfl Try.underlying74 sz_3 (by first | exact Option.some_ne_none _ | exact hr.some_ (by omega) | exact hA) (by omega))) ?_
                      refine Qt.va rfl (fun w' hw => X.load rfl sc_3 (by first | exact Ld.num (hr.ext hw) (by omega) | exact hA)) ?_
                      refine Qt.call rfl en_128 rfl (fun w' hw => calls_same hw (clessI (m.getD j 0) (m.getD a 0) w')) ?_
                      refine Qt.va rfl (fun w' hw => X.not rfl) ?_
                      refine Qt.va rfl (fun w' hw => X.pickT rfl (by conv => lhs; whnf)) ?_
                      refine Qt.nil (fun w18 hq => ?_)
                      by_cases hd : m.getD a 0 ≤ m.getD j 0
                      · rw [show decide (m.getD j 0 < m.getD a 0) = false from decide_eq_false (by omega)]
                        refine J.iteT rfl ?_
                        refine J.skip ?_
                        refine J.block ?_
                        refine J.region ?_
                        refine L.va rfl (X.move (by conv => lhs; whnf)) ?_
                        refine L.va rfl (X.sub rfl rfl (by omega)) ?_
                        refine L.va rfl (X.assign (by conv => lhs; whnf)) ?_
                        refine L.nil ?_
                        obtain ⟨j', rfl⟩ : ∃ j', j = j' + 1 := ⟨j - 1, by omega⟩
                        refine ⟨j', At1 (by first | rfl | exact at_int rfl (by omega) | exact at_slice rfl (by omega) | exact at_int rfl (by simp)), (by (iterate 19 refine Agr.lk rfl ?_); exact Agr.lk rfl (Agr.hav rfl Agr.rfl')), ?_⟩
                        exact ⟨⟨⟨h1, by omega, by omega, HP.le, fun k k1 k2 => by
                          rcases Nat.lt_or_ge (j' + 1) k with h | h
                          · exact HP.ri k h k2
                          · obtain rfl : k = j' + 1 := by omega
                            exact hd⟩, by omega, he.trans hq⟩, by omega⟩
                      · rw [show decide (m.getD j 0 < m.getD a 0) = true from decide_eq_true (by omega)]
                        refine J.iteF rfl ?_
                        refine J.exit ?_
                        refine ⟨j, At1 (by first | rfl | exact at_int rfl (by omega) | exact at_slice rfl (by omega) | exact at_int rfl (by simp)), (by (iterate 16 refine Agr.lk rfl ?_); refine Agr.lk rfl ?_; refine Agr.hav rfl ?_; exact Agr.rfl'), ?_⟩
                        exact ⟨HP, (fun _ => hd), hbd, he.trans hq⟩
                    · skip
                      refine Qt.no rfl ?_
                      refine Qt.no rfl ?_
                      refine Qt.no rfl ?_
                      refine Qt.no rfl ?_
                      refine Qt.no rfl ?_
                      refine Qt.no rfl ?_
                      refine Qt.no rfl ?_
                      refine Qt.no rfl ?_
                      refine Qt.no rfl ?_
                      refine Qt.no rfl ?_
                      refine Qt.va rfl (fun w' hw => X.pickF rfl (by conv => lhs; whnf)) ?_
                      refine Qt.nil (fun w18 hq => ?_)
                      refine J.iteF rfl ?_
                      refine J.exit ?_
                      refine ⟨j, At1 (by first | rfl | exact at_int rfl (by omega) | exact at_slice rfl (by omega) | exact at_int rfl (by simp)), (by (iterate 16 refine Agr.lk rfl ?_); refine Agr.lk rfl ?_; refine Agr.hav rfl ?_; exact Agr.rfl'), ?_⟩
                      exact ⟨HP, (fun h => absurd h (by omega)), hbd, he.trans hq⟩
                · rintro j g w19 ⟨HP, hj, hjo2, he19⟩
                  replace HO := HO.ext he19
                  have hG19 := grb_trans hG16 (grown_ext he19)
                  have h1 := HP.ai
                  have h2 := HP.ij
                  have h3 := HP.jb
                  refine J.seq ?_
                  refine J.seq ?_
                  refine J.region ?_
                  refine L.va rfl (X.move (by conv => lhs; whnf)) ?_
                  refine L.va rfl (X.move (by conv => lhs; whnf)) ?_
                  refine L.va rfl (X.gtr rfl rfl) ?_
                  refine L.nil ?_
                  refine J.dec rfl (fun hgt => ?_) (fun hgt => ?_)
                  · have hd := HP.done (by omega) (by omega)
                    refine J.exit ?_
                    refine J.seq ?_
                    refine J.draw (ℓ := 1000000) (S := (fun _ => True)) mixed (fun w22d hSE hS_h => ?_)
                    have hS : ((fun _ => True)) w22d := trivial
                    have hrw22 := (Reads.of_own HO).ext hSE
                    have hoX := HO.ext hSE
                    have hG : w19.grownBy w22d (Value.ownBlock (.slice A n c)) := grown_ext hSE
                    refine D.va 0 rfl (by kernel_rfl) (fun _ _ _ h => h) rfl (fun w' hw => X.move (by conv => lhs; whnf)) hS ?_
                    refine D.va 1 rfl (by kernel_rfl) (fun _ _ _ h => h) rfl (fun w' hw => X.move (by conv => lhs; whnf)) hS ?_
                    refine D.va 2 rfl (by kernel_rfl) (fun _ _ _ h => h) rfl (fun w' hw => X.move (by conv => lhs; whnf)) hS ?_
                    refine D.va 3 rfl (by kernel_rfl) (fun _ _ _ h => h) rfl (fun w' hw => X.move (by conv => lhs; whnf)) hS ?_
                    refine D.va 4 rfl (by kernel_rfl) (fun _ _ _ h => h) rfl (fun w' hw => X.move (by conv => lhs; whnf)) hS ?_
                    refine D.va 5 rfl (by kernel_rfl) (fun _ _ _ h => h) rfl (fun w' hw => X.move (by conv => lhs; whnf)) hS ?_
                    refine D.va 6 rfl (by kernel_rfl) (fun _ _ _ h => h) rfl (fun w' hw => (by first | exact X.index1n rfl rfl Try.underlying74 sz_3 (by first | exact Option.some_ne_none _ | exact hA) (by omega) | exact X.index1 rfl rfl Try.underlying74 sz_3 (by first | exact Option.some_ne_none _ | exact hA) (by omega))) hS ?_
                    refine D.va 8 rfl (by kernel_rfl) (fun _ _ _ h => h) rfl (fun w' hw => X.move (by conv => lhs; whnf)) hS ?_
                    refine D.va 9 rfl (by kernel_rfl) (fun _ _ _ h => h) rfl (fun w' hw => X.move (by conv => lhs; whnf)) hS ?_
                    refine D.va 10 rfl (by kernel_rfl) (fun _ _ _ h => h) rfl (fun w' hw => (by first | exact X.index1n rfl rfl Try.underlying74 sz_3 (by first | exact Option.some_ne_none _ | exact hA) (by omega) | exact X.index1 rfl rfl Try.underlying74 sz_3 (by first | exact Option.some_ne_none _ | exact hA) (by omega))) hS ?_
                    refine D.two 7 11 (by kernel_rfl) rfl rfl ?_ ?_
                    · refine L.va rfl (X.load rfl sc_3 (Ld.num hrw22 (j := a) (by omega))) ?_
                      refine L.nil ?_
                      refine ⟨fun _ => hS, ?_⟩
                      refine D.one 11 (by kernel_rfl) rfl ?_
                      refine L.va rfl (X.load rfl sc_3 (Ld.num hrw22 (j := j) (by omega))) ?_
                      refine L.nil ?_
                      refine ⟨fun _ => hS, ?_⟩
                      refine D.va 12 rfl (by kernel_rfl) (fun _ _ _ h => h) rfl (fun w' hw => (by first | exact X.index1n rfl rfl Try.underlying74 sz_3 (by first | exact Option.some_ne_none _ | exact hA) (by omega) | exact X.index1 rfl rfl Try.underlying74 sz_3 (by first | exact Option.some_ne_none _ | exact hA) (by omega))) hS ?_
                      refine D.one 13 (by kernel_rfl) rfl ?_
                      refine L.storeON rfl rfl (by conv => lhs; whnf) sz_3 (hoX) (by omega) ?_
                      intro w22 hoX hg2 hb2 hs2
                      have hS1 := trivial
                      refine L.nil ?_
                      refine ⟨fun _ => hS1, ?_⟩
                      replace hG := grb_trans hG hg2
                      refine D.va 14 rfl (by kernel_rfl) (fun _ _ _ h => h) rfl (fun w' hw => (by first | exact X.index1n rfl rfl Try.underlying74 sz_3 (by first | exact Option.some_ne_none _ | exact hA) (by omega) | exact X.index1 rfl rfl Try.underlying74 sz_3 (by first | exact Option.some_ne_none _ | exact hA) (by omega))) hS1 ?_
                      refine D.one 15 (by kernel_rfl) rfl ?_
                      refine L.storeON rfl rfl (by conv => lhs; whnf) sz_3 (hoX) (by omega) ?_
                      intro w22 hoX hg2 hb2 hs2
                      have hS2 := trivial
                      refine L.nil ?_
                      refine ⟨fun _ => hS2, ?_⟩
                      replace hG := grb_trans hG hg2
                      refine D.done (by kernel_rfl) ?_
                      refine J.seq ?_
                      refine J.region ?_
                      refine L.va rfl (X.move (by conv => lhs; whnf)) ?_
                      refine L.va rfl (X.assign (by conv => lhs; whnf)) ?_
                      refine L.va rfl (X.assign (by conv => lhs; whnf)) ?_
                      refine L.nil ?_
                      refine J.ret ?_
                      refine fin2 ?_
                      exact ⟨swp m j a, j, false, rfl, ⟨hoX, grb_trans hG19 hG, .step M.p ⟨by omega, by omega⟩ ⟨by omega, by omega⟩ (by omega)⟩, by omega, by omega, hd.1, hd.2⟩
                    · refine L.va rfl (X.load rfl sc_3 (Ld.num hrw22 (j := j) (by omega))) ?_
                      refine L.nil ?_
                      refine ⟨fun _ => hS, ?_⟩
                      refine D.one 7 (by kernel_rfl) rfl ?_
                      refine L.va rfl (X.load rfl sc_3 (Ld.num hrw22 (j := a) (by omega))) ?_
                      refine L.nil ?_
                      refine ⟨fun _ => hS, ?_⟩
                      refine D.va 12 rfl (by kernel_rfl) (fun _ _ _ h => h) rfl (fun w' hw => (by first | exact X.index1n rfl rfl Try.underlying74 sz_3 (by first | exact Option.some_ne_none _ | exact hA) (by omega) | exact X.index1 rfl rfl Try.underlying74 sz_3 (by first | exact Option.some_ne_none _ | exact hA) (by omega))) hS ?_
                      refine D.one 13 (by kernel_rfl) rfl ?_
                      refine L.storeON rfl rfl (by conv => lhs; whnf) sz_3 (hoX) (by omega) ?_
                      intro w22 hoX hg2 hb2 hs2
                      have hS1 := trivial
                      refine L.nil ?_
                      refine ⟨fun _ => hS1, ?_⟩
                      replace hG := grb_trans hG hg2
                      refine D.va 14 rfl (by kernel_rfl) (fun _ _ _ h => h) rfl (fun w' hw => (by first | exact X.index1n rfl rfl Try.underlying74 sz_3 (by first | exact Option.some_ne_none _ | exact hA) (by omega) | exact X.index1 rfl rfl Try.underlying74 sz_3 (by first | exact Option.some_ne_none _ | exact hA) (by omega))) hS1 ?_
                      refine D.one 15 (by kernel_rfl) rfl ?_
                      refine L.storeON rfl rfl (by conv => lhs; whnf) sz_3 (hoX) (by omega) ?_
                      intro w22 hoX hg2 hb2 hs2
                      have hS2 := trivial
                      refine L.nil ?_
                      refine ⟨fun _ => hS2, ?_⟩
                      replace hG := grb_trans hG hg2
                      refine D.done (by kernel_rfl) ?_
                      refine J.seq ?_
                      refine J.region ?_
                      refine L.va rfl (X.move (by conv => lhs; whnf)) ?_
                      refine L.va rfl (X.assign (by conv => lhs; whnf)) ?_
                      refine L.va rfl (X.assign (by conv => lhs; whnf)) ?_
                      refine L.nil ?_
                      refine J.ret ?_
                      refine fin2 ?_
                      exact ⟨swp m j a, j, false, rfl, ⟨hoX, grb_trans hG19 hG, .step M.p ⟨by omega, by omega⟩ ⟨by omega, by omega⟩ (by omega)⟩, by omega, by omega, hd.1, hd.2⟩
                  · have hi' := hi (by omega)
                    have hj' := hj (by omega)
                    have hne : i ≠ j := fun e => by subst e; omega
                    obtain ⟨j, rfl⟩ : ∃ j', j = j' + 1 := ⟨j - 1, by omega⟩
                    refine J.skip ?_
                    refine J.seq ?_
                    refine J.draw (ℓ := 1000000) (S := (fun _ => True)) mixed (fun w22d hSE hS_h => ?_)
                    have hS : ((fun _ => True)) w22d := trivial
                    have hrw22 := (Reads.of_own HO).ext hSE
                    have hoX := HO.ext hSE
                    have hG : w19.grownBy w22d (Value.ownBlock (.slice A n c)) := grown_ext hSE
                    refine D.va 0 rfl (by kernel_rfl) (fun _ _ _ h => h) rfl (fun w' hw => X.move (by conv => lhs; whnf)) hS ?_
                    refine D.va 1 rfl (by kernel_rfl) (fun _ _ _ h => h) rfl (fun w' hw => X.move (by conv => lhs; whnf)) hS ?_
                    refine D.va 2 rfl (by kernel_rfl) (fun _ _ _ h => h) rfl (fun w' hw => X.move (by conv => lhs; whnf)) hS ?_
                    refine D.va 3 rfl (by kernel_rfl) (fun _ _ _ h => h) rfl (fun w' hw => X.move (by conv => lhs; whnf)) hS ?_
                    refine D.va 4 rfl (by kernel_rfl) (fun _ _ _ h => h) rfl (fun w' hw => X.move (by conv => lhs; whnf)) hS ?_
                    refine D.va 5 rfl (by kernel_rfl) (fun _ _ _ h => h) rfl (fun w' hw => X.move (by conv => lhs; whnf)) hS ?_
                    refine D.va 6 rfl (by kernel_rfl) (fun _ _ _ h => h) rfl (fun w' hw => (by first | exact X.index1n rfl rfl Try.underlying74 sz_3 (by first | exact Option.some_ne_none _ | exact hA) (by omega) | exact X.index1 rfl rfl Try.underlying74 sz_3 (by first | exact Option.some_ne_none _ | exact hA) (by omega))) hS ?_
                    refine D.va 8 rfl (by kernel_rfl) (fun _ _ _ h => h) rfl (fun w' hw => X.move (by conv => lhs; whnf)) hS ?_
                    refine D.va 9 rfl (by kernel_rfl) (fun _ _ _ h => h) rfl (fun w' hw => X.move (by conv => lhs; whnf)) hS ?_
                    refine D.va 10 rfl (by kernel_rfl) (fun _ _ _ h => h) rfl (fun w' hw => (by first | exact X.index1n rfl rfl Try.underlying74 sz_3 (by first | exact Option.some_ne_none _ | exact hA) (by omega) | exact X.index1 rfl rfl Try.underlying74 sz_3 (by first | exact Option.some_ne_none _ | exact hA) (by omega))) hS ?_
                    refine D.two 7 11 (by kernel_rfl) rfl rfl ?_ ?_
                    · refine L.va rfl (X.load rfl sc_3 (Ld.num hrw22 (j := j + 1) (by omega))) ?_
                      refine L.nil ?_
                      refine ⟨fun _ => hS, ?_⟩
                      refine D.one 11 (by kernel_rfl) rfl ?_
                      refine L.va rfl (X.load rfl sc_3 (Ld.num hrw22 (j := i) (by omega))) ?_
                      refine L.nil ?_
                      refine ⟨fun _ => hS, ?_⟩
                      refine D.va 12 rfl (by kernel_rfl) (fun _ _ _ h => h) rfl (fun w' hw => (by first | exact X.index1n rfl rfl Try.underlying74 sz_3 (by first | exact Option.some_ne_none _ | exact hA) (by omega) | exact X.index1 rfl rfl Try.underlying74 sz_3 (by first | exact Option.some_ne_none _ | exact hA) (by omega))) hS ?_
                      refine D.one 13 (by kernel_rfl) rfl ?_
                      refine L.storeON rfl rfl (by conv => lhs; whnf) sz_3 (hoX) (by omega) ?_
                      intro w22 hoX hg2 hb2 hs2
                      have hS1 := trivial
                      refine L.nil ?_
                      refine ⟨fun _ => hS1, ?_⟩
                      replace hG := grb_trans hG hg2
                      refine D.va 14 rfl (by kernel_rfl) (fun _ _ _ h => h) rfl (fun w' hw => (by first | exact X.index1n rfl rfl Try.underlying74 sz_3 (by first | exact Option.some_ne_none _ | exact hA) (by omega) | exact X.index1 rfl rfl Try.underlying74 sz_3 (by first | exact Option.some_ne_none _ | exact hA) (by omega))) hS1 ?_
                      refine D.one 15 (by kernel_rfl) rfl ?_
                      refine L.storeON rfl rfl (by conv => lhs; whnf) sz_3 (hoX) (by omega) ?_
                      intro w22 hoX hg2 hb2 hs2
                      have hS2 := trivial
                      refine L.nil ?_
                      refine ⟨fun _ => hS2, ?_⟩
                      replace hG := grb_trans hG hg2
                      refine D.done (by kernel_rfl) ?_
                      refine J.seq ?_
                      refine J.region ?_
                      refine L.va rfl (X.move (by conv => lhs; whnf)) ?_
                      refine L.va rfl (X.add rfl rfl (by omega)) ?_
                      refine L.va rfl (X.assign (by conv => lhs; whnf)) ?_
                      refine L.nil ?_
                      refine J.region ?_
                      refine L.va rfl (X.move (by conv => lhs; whnf)) ?_
                      refine L.va rfl (X.sub rfl rfl (by omega)) ?_
                      refine L.va rfl (X.assign (by conv => lhs; whnf)) ?_
                      refine L.nil ?_
                      refine ⟨(i + 1, j, swp m i (j + 1)), At2 (by first | rfl | exact at_int rfl (by omega) | exact at_slice rfl (by omega) | exact at_int rfl (by simp)) (by first | rfl | exact at_int rfl (by omega) | exact at_slice rfl (by omega) | exact at_int rfl (by simp)), (by (iterate 23 refine Agr.lk rfl ?_); refine Agr.lk rfl ?_; refine Agr.hav rfl ?_; refine Agr.lk rfl ?_; refine Agr.hav rfl ?_; exact Agr.lk rfl (Agr.hav rfl Agr.rfl')), ?_⟩
                      exact ⟨⟨⟨hoX, grb_trans hG19 hG, .step M.p ⟨by omega, by omega⟩ ⟨by omega, by omega⟩ (by omega)⟩, HP.swap (by omega) (by omega) (by omega) (by omega)⟩, by show j + 1 - (i + 1) < _ + 1 - _; omega⟩
                    · refine L.va rfl (X.load rfl sc_3 (Ld.num hrw22 (j := i) (by omega))) ?_
                      refine L.nil ?_
                      refine ⟨fun _ => hS, ?_⟩
                      refine D.one 7 (by kernel_rfl) rfl ?_
                      refine L.va rfl (X.load rfl sc_3 (Ld.num hrw22 (j := j + 1) (by omega))) ?_
                      refine L.nil ?_
                      refine ⟨fun _ => hS, ?_⟩
                      refine D.va 12 rfl (by kernel_rfl) (fun _ _ _ h => h) rfl (fun w' hw => (by first | exact X.index1n rfl rfl Try.underlying74 sz_3 (by first | exact Option.some_ne_none _ | exact hA) (by omega) | exact X.index1 rfl rfl Try.underlying74 sz_3 (by first | exact Option.some_ne_none _ | exact hA) (by omega))) hS ?_
                      refine D.one 13 (by kernel_rfl) rfl ?_
                      refine L.storeON rfl rfl (by conv => lhs; whnf) sz_3 (hoX) (by omega) ?_
                      intro w22 hoX hg2 hb2 hs2
                      have hS1 := trivial
                      refine L.nil ?_
                      refine ⟨fun _ => hS1, ?_⟩
                      replace hG := grb_trans hG hg2
                      refine D.va 14 rfl (by kernel_rfl) (fun _ _ _ h => h) rfl (fun w' hw => (by first | exact X.index1n rfl rfl Try.underlying74 sz_3 (by first | exact Option.some_ne_none _ | exact hA) (by omega) | exact X.index1 rfl rfl Try.underlying74 sz_3 (by first | exact Option.some_ne_none _ | exact hA) (by omega))) hS1 ?_
                      refine D.one 15 (by kernel_rfl) rfl ?_
                      refine L.storeON rfl rfl (by conv => lhs; whnf) sz_3 (hoX) (by omega) ?_
                      intro w22 hoX hg2 hb2 hs2
                      have hS2 := trivial
                      refine L.nil ?_
                      refine ⟨fun _ => hS2, ?_⟩
                      replace hG := grb_trans hG hg2
                      refine D.done (by kernel_rfl) ?_
                      refine J.seq ?_
                      refine J.region ?_
                      refine L.va rfl (X.move (by conv => lhs; whnf)) ?_
                      refine L.va rfl (X.add rfl rfl (by omega)) ?_
                      refine L.va rfl (X.assign (by conv => lhs; whnf)) ?_
                      refine L.nil ?_
                      refine J.region ?_
                      refine L.va rfl (X.move (by conv => lhs; whnf)) ?_
                      refine L.va rfl (X.sub rfl rfl (by omega)) ?_
                      refine L.va rfl (X.assign (by conv => lhs; whnf)) ?_
                      refine L.nil ?_
                      refine ⟨(i + 1, j, swp m i (j + 1)), At2 (by first | rfl | exact at_int rfl (by omega) | exact at_slice rfl (by omega) | exact at_int rfl (by simp)) (by first | rfl | exact at_int rfl (by omega) | exact at_slice rfl (by omega) | exact at_int rfl (by simp)), (by (iterate 23 refine Agr.lk rfl ?_); refine Agr.lk rfl ?_; refine Agr.hav rfl ?_; refine Agr.lk rfl ?_; refine Agr.hav rfl ?_; exact Agr.lk rfl (Agr.hav rfl Agr.rfl')), ?_⟩
                      exact ⟨⟨⟨hoX, grb_trans hG19 hG, .step M.p ⟨by omega, by omega⟩ ⟨by omega, by omega⟩ (by omega)⟩, HP.swap (by omega) (by omega) (by omega) (by omega)⟩, by show j + 1 - (i + 1) < _ + 1 - _; omega⟩
          · refine L.va rfl (X.load rfl sc_3 (Ld.num hrw12 (j := i) (by omega))) ?_
            refine L.nil ?_
            refine ⟨fun _ => hS, ?_⟩
            refine D.one 7 (by kernel_rfl) rfl ?_
            refine L.va rfl (X.load rfl sc_3 (Ld.num hrw12 (j := j + 1) (by omega))) ?_
            refine L.nil ?_
            refine ⟨fun _ => hS, ?_⟩
            refine D.va 12 rfl (by kernel_rfl) (fun _ _ _ h => h) rfl (fun w' hw => (by first | exact X.index1n rfl rfl Try.underlying74 sz_3 (by first | exact Option.some_ne_none _ | exact hA) (by omega) | exact X.index1 rfl rfl Try.underlying74 sz_3 (by first | exact Option.some_ne_none _ | exact hA) (by omega))) hS ?_
            refine D.one 13 (by kernel_rfl) rfl ?_
            refine L.storeON rfl rfl (by conv => lhs; whnf) sz_3 (hoX) (by omega) ?_
            intro w12 hoX hg2 hb2 hs2
            have hS1 := trivial
            refine L.nil ?_
            refine ⟨fun _ => hS1, ?_⟩
            replace hG := grb_trans hG hg2
            refine D.va 14 rfl (by kernel_rfl) (fun _ _ _ h => h) rfl (fun w' hw => (by first | exact X.index1n rfl rfl Try.underlying74 sz_3 (by first | exact Option.some_ne_none _ | exact hA) (by omega) | exact X.index1 rfl rfl Try.underlying74 sz_3 (by first | exact Option.some_ne_none _ | exact hA) (by omega))) hS1 ?_
            refine D.one 15 (by kernel_rfl) rfl ?_
            refine L.storeON rfl rfl (by conv => lhs; whnf) sz_3 (hoX) (by omega) ?_
            intro w12 hoX hg2 hb2 hs2
            have hS2 := trivial
            refine L.nil ?_
            refine ⟨fun _ => hS2, ?_⟩
            replace hG := grb_trans hG hg2
            refine D.done (by kernel_rfl) ?_
            refine J.seq ?_
            refine J.region ?_
            refine L.va rfl (X.move (by conv => lhs; whnf)) ?_
            refine L.va rfl (X.add rfl rfl (by omega)) ?_
            refine L.va rfl (X.assign (by conv => lhs; whnf)) ?_
            refine L.nil ?_
            refine J.seq ?_
            refine J.region ?_
            refine L.va rfl (X.move (by conv => lhs; whnf)) ?_
            refine L.va rfl (X.sub rfl rfl (by omega)) ?_
            refine L.va rfl (X.assign (by conv => lhs; whnf)) ?_
            refine L.nil ?_
            refine J.seq ?_
            refine J.block ?_
            have M2 : SwI w w12 A n c N a b l (swp m i (j + 1)) := ⟨hoX, grb_trans hG9 hG, .step M.p ⟨by omega, by omega⟩ ⟨by omega, by omega⟩ (by omega)⟩
            have HP2 := HP.swap (by omega) (by omega) (by omega) (by omega)
            rw [ej]
            refine J.loop (X := Nat × Nat × List Int) [10, 11, 99, 100, 101, 102, 103, 104, 105, 106, 107, 108, 109, 110, 111, 112, 113, 114, 115, 116, 117, 118, 119, 120, 121, 122, 123, 124, 125, 126, 127, 128, 129, 130, 131, 132, 133, 134, 135, 136, 137, 138, 139, 140, 141, 142, 143, 144, 145, 146, 147, 148, 149, 150, 151, 152] (fun (i, j, m) => [(10, .int .i64 (i : Int)), (11, .int .i64 (j : Int))]) (fun (i, j, m) w' => SwI w w' A n c N a b l m ∧ Pt (· < ·) (fun x y => y ≤ x) m a b i j) (fun (i, j, _) => j + 1 - i) ((i + 1, j, swp m i (j + 1))) (At2 (by first | rfl | exact at_int rfl (by omega) | exact at_slice rfl (by omega) | exact at_int rfl (by simp)) (by first | rfl | exact at_int rfl (by omega) | exact at_slice rfl (by omega) | exact at_int rfl (by simp))) ?_ ?_
            · exact ⟨M2, HP2⟩
            · rintro ⟨i, j, m⟩ g w13 ⟨M, HP⟩
              have hml : m.length = n := by rw [M.p.len, hl]
              have HO := M.o
              obtain ⟨io, hio⟩ : ∃ io, io = i := ⟨_, rfl⟩
              refine J.block ?_
              refine J.cut (X := Nat) [10, 99, 100, 101, 102, 103, 104, 105, 106, 107, 108, 109, 110, 111, 112, 113, 114] (fun i => [(10, .int .i64 (i : Int))]) (fun i w' => Pt (· < ·) (fun x y => y ≤ x) m a b i j ∧ (i ≤ j → ¬ m.getD i 0 < m.getD a 0) ∧ io ≤ i ∧ Ext w13 w') ?_ ?_
              · refine J.block ?_
                refine J.loop (X := Nat) [10, 99, 100, 101, 102, 103, 104, 105, 106, 107, 108, 109, 110, 111, 112, 113, 114] (fun i => [(10, .int .i64 (i : Int))]) (fun i w' => Pt (· < ·) (fun x y => y ≤ x) m a b i j ∧ io ≤ i ∧ Ext w13 w') (fun i => j + 1 - i) (i) (At1 (by first | rfl | exact at_int rfl (by omega) | exact at_slice rfl (by omega) | exact at_int rfl (by simp))) ?_ ?_
                · exact ⟨HP, by omega, Ext.refl _⟩
                · rintro i g w14 ⟨HP, hbd, he⟩
                  have h1 := HP.ai
                  have h2 := HP.ij
                  have h3 := HP.jb
                  have hr := Reads.of_own (HO.ext he)
                  have hA := hr.some_ (by omega)
                  refine J.seq ?_
                  refine J.seq ?_
                  refine J.quiet mixed (by kernel_rfl) ?_
                  refine Qt.va rfl (fun w' hw => X.move (by conv => lhs; whnf)) ?_
                  refine Qt.va rfl (fun w' hw => X.move (by conv => lhs; whnf)) ?_
                  refine Qt.va rfl (fun w' hw => X.leq rfl rfl) ?_
                  refine Qt.va rfl (fun w' hw => X.move (by conv => lhs; whnf)) ?_
                  refine Qt.caseDec (k := 102) rfl (fun hij => ?_) (fun hij => ?_)
                  · refine Qt.va rfl (fun w' hw => X.move (by conv => lhs; whnf)) ?_
                    refine Qt.va rfl (fun w' hw => X.move (by conv => lhs; whnf)) ?_
                    refine Qt.va rfl (fun w' hw => (by first | exact X.index1n rfl rfl Try.underlying74 sz_3 (by first | exact Option.some_ne_none _ | exact hr.some_ (by omega) | exact hA) (by omega) | exact X.index1 rfl rfl Try.underlying74 sz_3 (by first | exact Option.some_ne_none _ | exact hr.some_ (by omega) | exact hA) (by omega))) ?_
                    refine Qt.va rfl (fun w' hw => X.load rfl sc_3 (by first | exact Ld.num (hr.ext hw) (by omega) | exact hA)) ?_
                    refine Qt.va rfl (fun w' hw => X.move (by conv => lhs; whnf)) ?_
                    refine Qt.va rfl (fun w' hw => X.move (by conv => lhs; whnf)) ?_
                    refine Qt.va rfl (fun w' hw => (by first | exact X.index1n rfl rfl Try.underlying74 sz_3 (by first | exact Option.some_ne_none _ | exact hr.some_ (by omega) | exact hA) (by omega) | exact X.index1 rfl rfl Try.underlying74 sz_3 (by first | exact Option.some_ne_none _ | exact hr.some_ (by omega) | exact hA) (by omega))) ?_
                    refine Qt.va rfl (fun w' hw => X.load rfl sc_3 (by first | exact Ld.num (hr.ext hw) (by omega) | exact hA)) ?_
                    refine Qt.call rfl en_128 rfl (fun w' hw => calls_same hw (clessI (m.getD i 0) (m.getD a 0) w')) ?_
                    refine Qt.va rfl (fun w' hw => X.pickT rfl (by conv => lhs; whnf)) ?_
                    refine Qt.nil (fun w15 hq => ?_)
                    by_cases hd : m.getD i 0 < m.getD a 0
                    · rw [show decide (m.getD i 0 < m.getD a 0) = true from decide_eq_true (by omega)]
                      refine J.iteT rfl ?_
                      refine J.skip ?_
                      refine J.block ?_
                      refine J.region ?_
                      refine L.va rfl (X.move (by conv => lhs; whnf)) ?_
                      refine L.va rfl (X.add rfl rfl (by omega)) ?_
                      refine L.va rfl (X.assign (by conv => lhs; whnf)) ?_
                      refine L.nil ?_
                      refine ⟨i + 1, At1 (by first | rfl | exact at_int rfl (by omega) | exact at_slice rfl (by omega) | exact at_int rfl (by simp)), (by (iterate 18 refine Agr.lk rfl ?_); exact Agr.lk rfl (Agr.hav rfl Agr.rfl')), ?_⟩
                      exact ⟨⟨⟨by omega, by omega, h3, fun k k1 k2 => by
                        rcases Nat.lt_or_ge k i with h | h
                        · exact HP.le k k1 h
                        · obtain rfl : k = i := by omega
                          exact hd, HP.ri⟩, by omega, he.trans hq⟩, by omega⟩
                    · rw [show decide (m.getD i 0 < m.getD a 0) = false from decide_eq_false (by omega)]
                      refine J.iteF rfl ?_
                      refine J.exit ?_
                      refine ⟨i, At1 (by first | rfl | exact at_int rfl (by omega) | exact at_slice rfl (by omega) | exact at_int rfl (by simp)), (by (iterate 15 refine Agr.lk rfl ?_); refine Agr.lk rfl ?_; refine Agr.hav rfl ?_; exact Agr.rfl'), ?_⟩
                      exact ⟨HP, (fun _ => hd), hbd, he.trans hq⟩
                  · skip
                    refine Qt.no rfl ?_
                    refine Qt.no rfl ?_
                    refine Qt.no rfl ?_
                    refine Qt.no rfl ?_
                    refine Qt.no rfl ?_
                    refine Qt.no rfl ?_
                    refine Qt.no rfl ?_
                    refine Qt.no rfl ?_
                    refine Qt.no rfl ?_
                    refine Qt.va rfl (fun w' hw => X.pickF rfl (by conv => lhs; whnf)) ?_
                    refine Qt.nil (fun w15 hq => ?_)
                    refine J.iteF rfl ?_
                    refine J.exit ?_
                    refine ⟨i, At1 (by first | rfl | exact at_int rfl (by omega) | exact at_slice rfl (by omega) | exact at_int rfl (by simp)), (by (iterate 15 refine Agr.lk rfl ?_); refine Agr.lk rfl ?_; refine Agr.hav rfl ?_; exact Agr.rfl'), ?_⟩
                    exact ⟨HP, (fun h => absurd h (by omega)), hbd, he.trans hq⟩
              · rintro i g w16 ⟨HP, hi, hio2, he16⟩
                replace HO := HO.ext he16
                have hG16 : w.grownBy w16 (Value.ownBlock (.slice A n c)) := grb_trans M.g (grown_ext he16)
                obtain ⟨jo, hjo⟩ : ∃ jo, jo = j := ⟨_, rfl⟩
                rw [← hjo] at hi
                refine J.cut (X := Nat) [11, 115, 116, 117, 118, 119, 120, 121, 122, 123, 124, 125, 126, 127, 128, 129, 130, 131] (fun j => [(11, .int .i64 (j : Int))]) (fun j w' => Pt (· < ·) (fun x y => y ≤ x) m a b i j ∧ (i ≤ j → ¬ m.getD a 0 ≤ m.getD j 0) ∧ j ≤ jo ∧ Ext w16 w') ?_ ?_
                · refine J.block ?_
                  refine J.loop (X := Nat) [11, 115, 116, 117, 118, 119, 120, 121, 122, 123, 124, 125, 126, 127, 128, 129, 130, 131] (fun j => [(11, .int .i64 (j : Int))]) (fun j w' => Pt (· < ·) (fun x y => y ≤ x) m a b i j ∧ j ≤ jo ∧ Ext w16 w') (fun j => j) (j) (At1 (by first | rfl | exact at_int rfl (by omega) | exact at_slice rfl (by omega) | exact at_int rfl (by simp))) ?_ ?_
                  · exact ⟨HP, by omega, Ext.refl _⟩
                  · rintro j g w17 ⟨HP, hbd, he⟩
                    have h1 := HP.ai
                    have h2 := HP.ij
                    have h3 := HP.jb
                    have hr := Reads.of_own (HO.ext he)
                    have hA := hr.some_ (by omega)
                    refine J.seq ?_
                    refine J.seq ?_
                    refine J.quiet mixed (by kernel_rfl) ?_
                    refine Qt.va rfl (fun w' hw => X.move (by conv => lhs; whnf)) ?_
                    refine Qt.va rfl (fun w' hw => X.move (by conv => lhs; whnf)) ?_
                    refine Qt.va rfl (fun w' hw => X.leq rfl rfl) ?_
                    refine Qt.va rfl (fun w' hw => X.move (by conv => lhs; whnf)) ?_
                    refine Qt.caseDec (k := 118) rfl (fun hij => ?_) (fun hij => ?_)
                    · refine Qt.va rfl (fun w' hw => X.move (by conv => lhs; whnf)) ?_
                      refine Qt.va rfl (fun w' hw => X.move (by conv => lhs; whnf)) ?_
                      refine Qt.va rfl (fun w' hw => (by first | exact X.index1n rfl rfl Try.underlying74 sz_3 (by first | exact Option.some_ne_none _ | exact hr.some_ (by omega) | exact hA) (by omega) | exact X.index1 rfl rfl Try.underlying74 sz_3 (by first | exact Option.some_ne_none _ | exact hr.some_ (by omega) | exact hA) (by omega))) ?_
                      refine Qt.va rfl (fun w' hw => X.load rfl sc_3 (by first | exact Ld.num (hr.ext hw) (by omega) | exact hA)) ?_
                      refine Qt.va rfl (fun w' hw => X.move (by conv => lhs; whnf)) ?_
                      refine Qt.va rfl (fun w' hw => X.move (by conv => lhs; whnf)) ?_
                      refine Qt.va rfl (fun w' hw => (by first | exact X.index1n rfl rfl Try.underlying74 sz_3 (by first | exact Option.some_ne_none _ | exact hr.some_ (by omega) | exact hA) (by omega) | exact X.index1 rfl rfl Try.underlying74 sz_3 (by first | exact Option.some_ne_none _ | exact hr.some_ (by omega) | exact hA) (by omega))) ?_
                      refine Qt.va rfl (fun w' hw => X.load rfl sc_3 (by first | exact Ld.num (hr.ext hw) (by omega) | exact hA)) ?_
                      refine Qt.call rfl en_128 rfl (fun w' hw => calls_same hw (clessI (m.getD j 0) (m.getD a 0) w')) ?_
                      refine Qt.va rfl (fun w' hw => X.not rfl) ?_
                      refine Qt.va rfl (fun w' hw => X.pickT rfl (by conv => lhs; whnf)) ?_
                      refine Qt.nil (fun w18 hq => ?_)
                      by_cases hd : m.getD a 0 ≤ m.getD j 0
                      · rw [show decide (m.getD j 0 < m.getD a 0) = false from decide_eq_false (by omega)]
                        refine J.iteT rfl ?_
                        refine J.skip ?_
                        refine J.block ?_
                        refine J.region ?_
                        refine L.va rfl (X.move (by conv => lhs; whnf)) ?_
                        refine L.va rfl (X.sub rfl rfl (by omega)) ?_
                        refine L.va rfl (X.assign (by conv => lhs; whnf)) ?_
                        refine L.nil ?_
                        obtain ⟨j', rfl⟩ : ∃ j', j = j' + 1 := ⟨j - 1, by omega⟩
                        refine ⟨j', At1 (by first | rfl | exact at_int rfl (by omega) | exact at_slice rfl (by omega) | exact at_int rfl (by simp)), (by (iterate 19 refine Agr.lk rfl ?_); exact Agr.lk rfl (Agr.hav rfl Agr.rfl')), ?_⟩
                        exact ⟨⟨⟨h1, by omega, by omega, HP.le, fun k k1 k2 => by
                          rcases Nat.lt_or_ge (j' + 1) k with h | h
                          · exact HP.ri k h k2
                          · obtain rfl : k = j' + 1 := by omega
                            exact hd⟩, by omega, he.trans hq⟩, by omega⟩
                      · rw [show decide (m.getD j 0 < m.getD a 0) = true from decide_eq_true (by omega)]
                        refine J.iteF rfl ?_
                        refine J.exit ?_
                        refine ⟨j, At1 (by first | rfl | exact at_int rfl (by omega) | exact at_slice rfl (by omega) | exact at_int rfl (by simp)), (by (iterate 16 refine Agr.lk rfl ?_); refine Agr.lk rfl ?_; refine Agr.hav rfl ?_; exact Agr.rfl'), ?_⟩
                        exact ⟨HP, (fun _ => hd), hbd, he.trans hq⟩
                    · skip
                      refine Qt.no rfl ?_
                      refine Qt.no rfl ?_
                      refine Qt.no rfl ?_
                      refine Qt.no rfl ?_
                      refine Qt.no rfl ?_
                      refine Qt.no rfl ?_
                      refine Qt.no rfl ?_
                      refine Qt.no rfl ?_
                      refine Qt.no rfl ?_
                      refine Qt.no rfl ?_
                      refine Qt.va rfl (fun w' hw => X.pickF rfl (by conv => lhs; whnf)) ?_
                      refine Qt.nil (fun w18 hq => ?_)
                      refine J.iteF rfl ?_
                      refine J.exit ?_
                      refine ⟨j, At1 (by first | rfl | exact at_int rfl (by omega) | exact at_slice rfl (by omega) | exact at_int rfl (by simp)), (by (iterate 16 refine Agr.lk rfl ?_); refine Agr.lk rfl ?_; refine Agr.hav rfl ?_; exact Agr.rfl'), ?_⟩
                      exact ⟨HP, (fun h => absurd h (by omega)), hbd, he.trans hq⟩
                · rintro j g w19 ⟨HP, hj, hjo2, he19⟩
                  replace HO := HO.ext he19
                  have hG19 := grb_trans hG16 (grown_ext he19)
                  have h1 := HP.ai
                  have h2 := HP.ij
                  have h3 := HP.jb
                  refine J.seq ?_
                  refine J.seq ?_
                  refine J.region ?_
                  refine L.va rfl (X.move (by conv => lhs; whnf)) ?_
                  refine L.va rfl (X.move (by conv => lhs; whnf)) ?_
                  refine L.va rfl (X.gtr rfl rfl) ?_
                  refine L.nil ?_
                  refine J.dec rfl (fun hgt => ?_) (fun hgt => ?_)
                  · have hd := HP.done (by omega) (by omega)
                    refine J.exit ?_
                    refine J.seq ?_
                    refine J.draw (ℓ := 1000000) (S := (fun _ => True)) mixed (fun w22d hSE hS_h => ?_)
                    have hS : ((fun _ => True)) w22d := trivial
                    have hrw22 := (Reads.of_own HO).ext hSE
                    have hoX := HO.ext hSE
                    have hG : w19.grownBy w22d (Value.ownBlock (.slice A n c)) := grown_ext hSE
                    refine D.va 0 rfl (by kernel_rfl) (fun _ _ _ h => h) rfl (fun w' hw => X.move (by conv => lhs; whnf)) hS ?_
                    refine D.va 1 rfl (by kernel_rfl) (fun _ _ _ h => h) rfl (fun w' hw => X.move (by conv => lhs; whnf)) hS ?_
                    refine D.va 2 rfl (by kernel_rfl) (fun _ _ _ h => h) rfl (fun w' hw => X.move (by conv => lhs; whnf)) hS ?_
                    refine D.va 3 rfl (by kernel_rfl) (fun _ _ _ h => h) rfl (fun w' hw => X.move (by conv => lhs; whnf)) hS ?_
                    refine D.va 4 rfl (by kernel_rfl) (fun _ _ _ h => h) rfl (fun w' hw => X.move (by conv => lhs; whnf)) hS ?_
                    refine D.va 5 rfl (by kernel_rfl) (fun _ _ _ h => h) rfl (fun w' hw => X.move (by conv => lhs; whnf)) hS ?_
                    refine D.va 6 rfl (by kernel_rfl) (fun _ _ _ h => h) rfl (fun w' hw => (by first | exact X.index1n rfl rfl Try.underlying74 sz_3 (by first | exact Option.some_ne_none _ | exact hA) (by omega) | exact X.index1 rfl rfl Try.underlying74 sz_3 (by first | exact Option.some_ne_none _ | exact hA) (by omega))) hS ?_
                    refine D.va 8 rfl (by kernel_rfl) (fun _ _ _ h => h) rfl (fun w' hw => X.move (by conv => lhs; whnf)) hS ?_
                    refine D.va 9 rfl (by kernel_rfl) (fun _ _ _ h => h) rfl (fun w' hw => X.move (by conv => lhs; whnf)) hS ?_
                    refine D.va 10 rfl (by kernel_rfl) (fun _ _ _ h => h) rfl (fun w' hw => (by first | exact X.index1n rfl rfl Try.underlying74 sz_3 (by first | exact Option.some_ne_none _ | exact hA) (by omega) | exact X.index1 rfl rfl Try.underlying74 sz_3 (by first | exact Option.some_ne_none _ | exact hA) (by omega))) hS ?_
                    refine D.two 7 11 (by kernel_rfl) rfl rfl ?_ ?_
                    · refine L.va rfl (X.load rfl sc_3 (Ld.num hrw22 (j := a) (by omega))) ?_
                      refine L.nil ?_
                      refine ⟨fun _ => hS, ?_⟩
                      refine D.one 11 (by kernel_rfl) rfl ?_
                      refine L.va rfl (X.load rfl sc_3 (Ld.num hrw22 (j := j) (by omega))) ?_
                      refine L.nil ?_
                      refine ⟨fun _ => hS, ?_⟩
                      refine D.va 12 rfl (by kernel_rfl) (fun _ _ _ h => h) rfl (fun w' hw => (by first | exact X.index1n rfl rfl Try.underlying74 sz_3 (by first | exact Option.some_ne_none _ | exact hA) (by omega) | exact X.index1 rfl rfl Try.underlying74 sz_3 (by first | exact Option.some_ne_none _ | exact hA) (by omega))) hS ?_
                      refine D.one 13 (by kernel_rfl) rfl ?_
                      refine L.storeON rfl rfl (by conv => lhs; whnf) sz_3 (hoX) (by omega) ?_
                      intro w22 hoX hg2 hb2 hs2
                      have hS1 := trivial
                      refine L.nil ?_
                      refine ⟨fun _ => hS1, ?_⟩
                      replace hG := grb_trans hG hg2
                      refine D.va 14 rfl (by kernel_rfl) (fun _ _ _ h => h) rfl (fun w' hw => (by first | exact X.index1n rfl rfl Try.underlying74 sz_3 (by first | exact Option.some_ne_none _ | exact hA) (by omega) | exact X.index1 rfl rfl Try.underlying74 sz_3 (by first | exact Option.some_ne_none _ | exact hA) (by omega))) hS1 ?_
                      refine D.one 15 (by kernel_rfl) rfl ?_
                      refine L.storeON rfl rfl (by conv => lhs; whnf) sz_3 (hoX) (by omega) ?_
                      intro w22 hoX hg2 hb2 hs2
                      have hS2 := trivial
                      refine L.nil ?_
                      refine ⟨fun _ => hS2, ?_⟩
                      replace hG := grb_trans hG hg2
                      refine D.done (by kernel_rfl) ?_
                      refine J.seq ?_
                      refine J.region ?_
                      refine L.va rfl (X.move (by conv => lhs; whnf)) ?_
                      refine L.va rfl (X.assign (by conv => lhs; whnf)) ?_
                      refine L.va rfl (X.assign (by conv => lhs; whnf)) ?_
                      refine L.nil ?_
                      refine J.ret ?_
                      refine fin2 ?_
                      exact ⟨swp m j a, j, false, rfl, ⟨hoX, grb_trans hG19 hG, .step M.p ⟨by omega, by omega⟩ ⟨by omega, by omega⟩ (by omega)⟩, by omega, by omega, hd.1, hd.2⟩
                    · refine L.va rfl (X.load rfl sc_3 (Ld.num hrw22 (j := j) (by omega))) ?_
                      refine L.nil ?_
                      refine ⟨fun _ => hS, ?_⟩
                      refine D.one 7 (by kernel_rfl) rfl ?_
                      refine L.va rfl (X.load rfl sc_3 (Ld.num hrw22 (j := a) (by omega))) ?_
                      refine L.nil ?_
                      refine ⟨fun _ => hS, ?_⟩
                      refine D.va 12 rfl (by kernel_rfl) (fun _ _ _ h => h) rfl (fun w' hw => (by first | exact X.index1n rfl rfl Try.underlying74 sz_3 (by first | exact Option.some_ne_none _ | exact hA) (by omega) | exact X.index1 rfl rfl Try.underlying74 sz_3 (by first | exact Option.some_ne_none _ | exact hA) (by omega))) hS ?_
                      refine D.one 13 (by kernel_rfl) rfl ?_
                      refine L.storeON rfl rfl (by conv => lhs; whnf) sz_3 (hoX) (by omega) ?_
                      intro w22 hoX hg2 hb2 hs2
                      have hS1 := trivial
                      refine L.nil ?_
                      refine ⟨fun _ => hS1, ?_⟩
                      replace hG := grb_trans hG hg2
                      refine D.va 14 rfl (by kernel_rfl) (fun _ _ _ h => h) rfl (fun w' hw => (by first | exact X.index1n rfl rfl Try.underlying74 sz_3 (by first | exact Option.some_ne_none _ | exact hA) (by omega) | exact X.index1 rfl rfl Try.underlying74 sz_3 (by first | exact Option.some_ne_none _ | exact hA) (by omega))) hS1 ?_
                      refine D.one 15 (by kernel_rfl) rfl ?_
                      refine L.storeON rfl rfl (by conv => lhs; whnf) sz_3 (hoX) (by omega) ?_
                      intro w22 hoX hg2 hb2 hs2
                      have hS2 := trivial
                      refine L.nil ?_
                      refine ⟨fun _ => hS2, ?_⟩
                      replace hG := grb_trans hG hg2
                      refine D.done (by kernel_rfl) ?_
                      refine J.seq ?_
                      refine J.region ?_
                      refine L.va rfl (X.move (by conv => lhs; whnf)) ?_
                      refine L.va rfl (X.assign (by conv => lhs; whnf)) ?_
                      refine L.va rfl (X.assign (by conv => lhs; whnf)) ?_
                      refine L.nil ?_
                      refine J.ret ?_
                      refine fin2 ?_
                      exact ⟨swp m j a, j, false, rfl, ⟨hoX, grb_trans hG19 hG, .step M.p ⟨by omega, by omega⟩ ⟨by omega, by omega⟩ (by omega)⟩, by omega, by omega, hd.1, hd.2⟩
                  · have hi' := hi (by omega)
                    have hj' := hj (by omega)
                    have hne : i ≠ j := fun e => by subst e; omega
                    obtain ⟨j, rfl⟩ : ∃ j', j = j' + 1 := ⟨j - 1, by omega⟩
                    refine J.skip ?_
                    refine J.seq ?_
                    refine J.draw (ℓ := 1000000) (S := (fun _ => True)) mixed (fun w22d hSE hS_h => ?_)
                    have hS : ((fun _ => True)) w22d := trivial
                    have hrw22 := (Reads.of_own HO).ext hSE
                    have hoX := HO.ext hSE
                    have hG : w19.grownBy w22d (Value.ownBlock (.slice A n c)) := grown_ext hSE
                    refine D.va 0 rfl (by kernel_rfl) (fun _ _ _ h => h) rfl (fun w' hw => X.move (by conv => lhs; whnf)) hS ?_
                    refine D.va 1 rfl (by kernel_rfl) (fun _ _ _ h => h) rfl (fun w' hw => X.move (by conv => lhs; whnf)) hS ?_
                    refine D.va 2 rfl (by kernel_rfl) (fun _ _ _ h => h) rfl (fun w' hw => X.move (by conv => lhs; whnf)) hS ?_
                    refine D.va 3 rfl (by kernel_rfl) (fun _ _ _ h => h) rfl (fun w' hw => X.move (by conv => lhs; whnf)) hS ?_
                    refine D.va 4 rfl (by kernel_rfl) (fun _ _ _ h => h) rfl (fun w' hw => X.move (by conv => lhs; whnf)) hS ?_
                    refine D.va 5 rfl (by kernel_rfl) (fun _ _ _ h => h) rfl (fun w' hw => X.move (by conv => lhs; whnf)) hS ?_
                    refine D.va 6 rfl (by kernel_rfl) (fun _ _ _ h => h) rfl (fun w' hw => (by first | exact X.index1n rfl rfl Try.underlying74 sz_3 (by first | exact Option.some_ne_none _ | exact hA) (by omega) | exact X.index1 rfl rfl Try.underlying74 sz_3 (by first | exact Option.some_ne_none _ | exact hA) (by omega))) hS ?_
                    refine D.va 8 rfl (by kernel_rfl) (fun _ _ _ h => h) rfl (fun w' hw => X.move (by conv => lhs; whnf)) hS ?_
                    refine D.va 9 rfl (by kernel_rfl) (fun _ _ _ h => h) rfl (fun w' hw => X.move (by conv => lhs; whnf)) hS ?_
                    refine D.va 10 rfl (by kernel_rfl) (fun _ _ _ h => h) rfl (fun w' hw => (by first | exact X.index1n rfl rfl Try.underlying74 sz_3 (by first | exact Option.some_ne_none _ | exact hA) (by omega) | exact X.index1 rfl rfl Try.underlying74 sz_3 (by first | exact Option.some_ne_none _ | exact hA) (by omega))) hS ?_
                    refine D.two 7 11 (by kernel_rfl) rfl rfl ?_ ?_
                    · refine L.va rfl (X.load rfl sc_3 (Ld.num hrw22 (j := j + 1) (by omega))) ?_
                      refine L.nil ?_
                      refine ⟨fun _ => hS, ?_⟩
                      refine D.one 11 (by kernel_rfl) rfl ?_
                      refine L.va rfl (X.load rfl sc_3 (Ld.num hrw22 (j := i) (by omega))) ?_
                      refine L.nil ?_
                      refine ⟨fun _ => hS, ?_⟩
                      refine D.va 12 rfl (by kernel_rfl) (fun _ _ _ h => h) rfl (fun w' hw => (by first | exact X.index1n rfl rfl Try.underlying74 sz_3 (by first | exact Option.some_ne_none _ | exact hA) (by omega) | exact X.index1 rfl rfl Try.underlying74 sz_3 (by first | exact Option.some_ne_none _ | exact hA) (by omega))) hS ?_
                      refine D.one 13 (by kernel_rfl) rfl ?_
                      refine L.storeON rfl rfl (by conv => lhs; whnf) sz_3 (hoX) (by omega) ?_
                      intro w22 hoX hg2 hb2 hs2
                      have hS1 := trivial
                      refine L.nil ?_
                      refine ⟨fun _ => hS1, ?_⟩
                      replace hG := grb_trans hG hg2
                      refine D.va 14 rfl (by kernel_rfl) (fun _ _ _ h => h) rfl (fun w' hw => (by first | exact X.index1n rfl rfl Try.underlying74 sz_3 (by first | exact Option.some_ne_none _ | exact hA) (by omega) | exact X.index1 rfl rfl Try.underlying74 sz_3 (by first | exact Option.some_ne_none _ | exact hA) (by omega))) hS1 ?_
                      refine D.one 15 (by kernel_rfl) rfl ?_
                      refine L.storeON rfl rfl (by conv => lhs; whnf) sz_3 (hoX) (by omega) ?_
                      intro w22 hoX hg2 hb2 hs2
                      have hS2 := trivial
                      refine L.nil ?_
                      refine ⟨fun _ => hS2, ?_⟩
                      replace hG := grb_trans hG hg2
                      refine D.done (by kernel_rfl) ?_
                      refine J.seq ?_
                      refine J.region ?_
                      refine L.va rfl (X.move (by conv => lhs; whnf)) ?_
                      refine L.va rfl (X.add rfl rfl (by omega)) ?_
                      refine L.va rfl (X.assign (by conv => lhs; whnf)) ?_
                      refine L.nil ?_
                      refine J.region ?_
                      refine L.va rfl (X.move (by conv => lhs; whnf)) ?_
                      refine L.va rfl (X.sub rfl rfl (by omega)) ?_
                      refine L.va rfl (X.assign (by conv => lhs; whnf)) ?_
                      refine L.nil ?_
                      refine ⟨(i + 1, j, swp m i (j + 1)), At2 (by first | rfl | exact at_int rfl (by omega) | exact at_slice rfl (by omega) | exact at_int rfl (by simp)) (by first | rfl | exact at_int rfl (by omega) | exact at_slice rfl (by omega) | exact at_int rfl (by simp)), (by (iterate 23 refine Agr.lk rfl ?_); refine Agr.lk rfl ?_; refine Agr.hav rfl ?_; refine Agr.lk rfl ?_; refine Agr.hav rfl ?_; exact Agr.lk rfl (Agr.hav rfl Agr.rfl')), ?_⟩
                      exact ⟨⟨⟨hoX, grb_trans hG19 hG, .step M.p ⟨by omega, by omega⟩ ⟨by omega, by omega⟩ (by omega)⟩, HP.swap (by omega) (by omega) (by omega) (by omega)⟩, by show j + 1 - (i + 1) < _ + 1 - _; omega⟩
                    · refine L.va rfl (X.load rfl sc_3 (Ld.num hrw22 (j := i) (by omega))) ?_
                      refine L.nil ?_
                      refine ⟨fun _ => hS, ?_⟩
                      refine D.one 7 (by kernel_rfl) rfl ?_
                      refine L.va rfl (X.load rfl sc_3 (Ld.num hrw22 (j := j + 1) (by omega))) ?_
                      refine L.nil ?_
                      refine ⟨fun _ => hS, ?_⟩
                      refine D.va 12 rfl (by kernel_rfl) (fun _ _ _ h => h) rfl (fun w' hw => (by first | exact X.index1n rfl rfl Try.underlying74 sz_3 (by first | exact Option.some_ne_none _ | exact hA) (by omega) | exact X.index1 rfl rfl Try.underlying74 sz_3 (by first | exact Option.some_ne_none _ | exact hA) (by omega))) hS ?_
                      refine D.one 13 (by kernel_rfl) rfl ?_
                      refine L.storeON rfl rfl (by conv => lhs; whnf) sz_3 (hoX) (by omega) ?_
                      intro w22 hoX hg2 hb2 hs2
                      have hS1 := trivial
                      refine L.nil ?_
                      refine ⟨fun _ => hS1, ?_⟩
                      replace hG := grb_trans hG hg2
                      refine D.va 14 rfl (by kernel_rfl) (fun _ _ _ h => h) rfl (fun w' hw => (by first | exact X.index1n rfl rfl Try.underlying74 sz_3 (by first | exact Option.some_ne_none _ | exact hA) (by omega) | exact X.index1 rfl rfl Try.underlying74 sz_3 (by first | exact Option.some_ne_none _ | exact hA) (by omega))) hS1 ?_
                      refine D.one 15 (by kernel_rfl) rfl ?_
                      refine L.storeON rfl rfl (by conv => lhs; whnf) sz_3 (hoX) (by omega) ?_
                      intro w22 hoX hg2 hb2 hs2
                      have hS2 := trivial
                      refine L.nil ?_
                      refine ⟨fun _ => hS2, ?_⟩
                      replace hG := grb_trans hG hg2
                      refine D.done (by kernel_rfl) ?_
                      refine J.seq ?_
                      refine J.region ?_
                      refine L.va rfl (X.move (by conv => lhs; whnf)) ?_
                      refine L.va rfl (X.add rfl rfl (by omega)) ?_
                      refine L.va rfl (X.assign (by conv => lhs; whnf)) ?_
                      refine L.nil ?_
                      refine J.region ?_
                      refine L.va rfl (X.move (by conv => lhs; whnf)) ?_
                      refine L.va rfl (X.sub rfl rfl (by omega)) ?_
                      refine L.va rfl (X.assign (by conv => lhs; whnf)) ?_
                      refine L.nil ?_
                      refine ⟨(i + 1, j, swp m i (j + 1)), At2 (by first | rfl | exact at_int rfl (by omega) | exact at_slice rfl (by omega) | exact at_int rfl (by simp)) (by first | rfl | exact at_int rfl (by omega) | exact at_slice rfl (by omega) | exact at_int rfl (by simp)), (by (iterate 23 refine Agr.lk rfl ?_); refine Agr.lk rfl ?_; refine Agr.hav rfl ?_; refine Agr.lk rfl ?_; refine Agr.hav rfl ?_; exact Agr.lk rfl (Agr.hav rfl Agr.rfl')), ?_⟩
                      exact ⟨⟨⟨hoX, grb_trans hG19 hG, .step M.p ⟨by omega, by omega⟩ ⟨by omega, by omega⟩ (by omega)⟩, HP.swap (by omega) (by omega) (by omega) (by omega)⟩, by show j + 1 - (i + 1) < _ + 1 - _; omega⟩
end Go.Proofs.Ytpomklkfedpkfaa
namespace Go.Proofs.Ytpomklkfedpkfaa
set_option maxRecDepth 100000
open Go.RowKit H
open Srt
set_option linter.unusedVariables false
theorem SwI.up {w w' w'' : World} {A : Option Addr} {n c N a b : Nat} {l m : List Int} (h : SwI w w' A n c N a b l m) (he : Ext w' w'') : SwI w w'' A n c N a b l m := ⟨h.o.ext he, grb_trans h.g (grown_ext he), h.p⟩
theorem SwI.sw {w w' w'' : World} {A : Option Addr} {n c N a b i j : Nat} {l m : List Int} (h : SwI w w' A n c N a b l m) (ho : w''.ownsRow N 3 1 (.slice A n c) n (nums .i64 (swp m i j))) (hg : w'.grownBy w'' (Value.ownBlock (.slice A n c))) (hi : a ≤ i ∧ i < b) (hj : a ≤ j ∧ j < b) (hb : b ≤ m.length) : SwI w w'' A n c N a b l (swp m i j) :=
  ⟨ho, grb_trans h.g hg, .step h.p hi hj hb⟩
theorem partinsI (A : Option Addr) (n c N a b : Nat) (l : List Int) (w : World) (ho : w.ownsRow N 3 1 (.slice A n c) n (nums .i64 l)) (hb : b ≤ n) (hn : n ≤ 900000) (hab : a + 1 ≤ b) (hLo : Lo l a b) :
    Calls Try.prog 127 #[.slice A n c, .int .i64 (a : Int), .int .i64 (b : Int)] w fun e w' => ∃ (l' : List Int) (z : Bool), e = .returned (.bool z) ∧ SwI w w' A n c N a b l l' ∧ (z = true → In l' a b) := by
  have hl : l.length = n := by have := ho.1; simpa [nums] using this
  have hA := (Reads.of_own ho).some_ (by omega)
  refine enter Try.func127 rfl (by kernel_rfl) ?_
  refine J.seq ?_
  refine J.region ?_
  refine L.va rfl (X.assign (by conv => lhs; whnf)) ?_
  refine L.nil ?_
  refine J.seq ?_
  refine J.region ?_
  refine L.va rfl (X.move (by conv => lhs; whnf)) ?_
  refine L.va rfl (X.add rfl rfl (by omega)) ?_
  refine L.va rfl (X.assign (by conv => lhs; whnf)) ?_
  refine L.nil ?_
  refine J.seq ?_
  refine J.seq ?_
  refine J.region ?_
  refine L.va rfl (X.assign (by conv => lhs; whnf)) ?_
  refine L.nil ?_
  refine J.block ?_
  refine J.loop (X := Nat × Nat × List Int) [6, 7, 8, 9, 10, 13, 14, 15, 16, 17, 18, 19, 20, 21, 22, 23, 24, 25, 26, 27, 28, 29, 30, 31, 32, 33, 34, 35, 36, 37, 38, 39, 40, 41, 42, 43, 44, 45, 46, 47, 48, 49, 50, 51, 52, 53, 54, 55, 56, 57, 58, 59, 60, 61, 62, 63, 64, 65, 66, 67, 68, 69, 70, 71, 72, 73, 74, 75, 76, 77, 78, 79, 80, 81, 82, 83, 84, 85, 86, 87, 88, 89, 90, 91, 92, 93, 94, 95, 96, 97, 98, 99, 100, 101, 102, 103, 104, 105, 106, 107, 108, 109, 110, 111, 112, 113, 114, 115, 116, 117, 118, 119, 120, 121, 122, 123, 124, 125, 126, 127, 128, 129, 130, 131, 132] (fun (i, q, m) => [(7, .int .i64 (i : Int)), (8, .int .i64 (q : Int))]) (fun (i, q, m) w' => a + 1 ≤ i ∧ i ≤ b ∧ q ≤ 5 ∧ SwI w w' A n c N a b l m ∧ In m a i) (fun (_, q, _) => 5 - q) ((a + 1, 0, l)) (At2 (by first | rfl | exact at_int rfl (by omega) | exact at_slice rfl (by omega) | exact at_int rfl (by simp)) (by first | rfl | exact at_int rfl (by omega) | exact at_slice rfl (by omega) | exact at_int rfl (by simp))) ?_ ?_
  · exact ⟨Nat.le_refl _, hab, by omega, ⟨ho, grown_ext (Ext.refl _), .refl _⟩, In.tiny (Nat.le_refl _)⟩
  · rintro ⟨i, q, m⟩ g w2 ⟨h1, h2, hq5, M, hI⟩
    have hml : m.length = n := by rw [M.p.len, hl]
    refine J.seq ?_
    refine J.seq ?_
    refine J.region ?_
    refine L.va rfl (X.move (by conv => lhs; whnf)) ?_
    refine L.va rfl (X.lss rfl rfl) ?_
    refine L.nil ?_
    refine J.dec rfl (fun hlt => ?_) (fun hlt => ?_)
    · refine J.skip ?_
      refine J.cut (X := Nat × List Int) [6, 7, 9, 10, 17, 18, 19, 20, 21, 22, 23, 24, 25, 26, 27, 28, 29, 30, 31, 32, 33, 34, 35, 36, 37, 38, 39, 40, 41, 42, 43, 44, 45, 46, 47, 48, 49, 50, 51, 52, 53, 54, 55, 56, 57, 58, 59, 60, 61, 62, 63, 64, 65, 66, 67, 68, 69, 70, 71, 72, 73, 74, 75, 76, 77, 78, 79, 80, 81, 82, 83, 84, 85, 86, 87, 88, 89, 90, 91, 92, 93, 94, 95, 96, 97, 98, 99, 100, 101, 102, 103, 104, 105, 106, 107, 108, 109, 110, 111, 112, 113, 114, 115, 116, 117, 118, 119, 120, 121, 122, 123, 124, 125, 126, 127, 128, 129, 130, 131, 132] (fun (i, m) => [(7, .int .i64 (i : Int))]) (fun (i, m) w' => a + 1 ≤ i ∧ i ≤ b ∧ SwI w w' A n c N a b l m ∧ In m a i) ?_ ?_
      · refine J.block ?_
        refine J.cut (X := Nat) [7, 17, 18, 19, 20, 21, 22, 23, 24, 25, 26, 27, 28, 29, 30, 31, 32, 33, 34] (fun i => [(7, .int .i64 (i : Int))]) (fun i w' => a + 1 ≤ i ∧ i ≤ b ∧ In m a i ∧ (i < b → m.getD i 0 < m.getD (i - 1) 0) ∧ Ext w2 w') ?_ ?_
        · refine J.block ?_
          refine J.loop (X := Nat) [7, 17, 18, 19, 20, 21, 22, 23, 24, 25, 26, 27, 28, 29, 30, 31, 32, 33, 34] (fun i => [(7, .int .i64 (i : Int))]) (fun i w' => a + 1 ≤ i ∧ i ≤ b ∧ In m a i ∧ Ext w2 w') (fun i => b - i) (i) (At1 (by first | rfl | exact at_int rfl (by omega) | exact at_slice rfl (by omega) | exact at_int rfl (by simp))) ?_ ?_
          · exact ⟨h1, h2, hI, Ext.refl _⟩
          · rintro i g w3 ⟨h1, h2, hI, he⟩
            have hr := Reads.of_own (M.o.ext he)
            refine J.seq ?_
            refine J.seq ?_
            refine J.quiet mixed (by kernel_rfl) ?_
            refine Qt.va rfl (fun w' hw => X.move (by conv => lhs; whnf)) ?_
            refine Qt.va rfl (fun w' hw => X.move (by conv => lhs; whnf)) ?_
            refine Qt.va rfl (fun w' hw => X.lss rfl rfl) ?_
            refine Qt.va rfl (fun w' hw => X.move (by conv => lhs; whnf)) ?_
            refine Qt.caseDec (k := 20) rfl (fun hib => ?_) (fun hib => ?_)
            · refine Qt.va rfl (fun w' hw => X.move (by conv => lhs; whnf)) ?_
              refine Qt.va rfl (fun w' hw => X.move (by conv => lhs; whnf)) ?_
              refine Qt.va rfl (fun w' hw => (by first | exact X.index1n rfl rfl Try.underlying74 sz_3 (by first | exact Option.some_ne_none _ | exact hr.some_ (by omega) | exact hA) (by omega) | exact X.index1 rfl rfl Try.underlying74 sz_3 (by first | exact Option.some_ne_none _ | exact hr.some_ (by omega) | exact hA) (by omega))) ?_
              refine Qt.va rfl (fun w' hw => X.load rfl sc_3 (by first | exact Ld.num (hr.ext hw) (by omega) | exact hA)) ?_
              refine Qt.va rfl (fun w' hw => X.move (by conv => lhs; whnf)) ?_
              refine Qt.va rfl (fun w' hw => X.move (by conv => lhs; whnf)) ?_
              refine Qt.va rfl (fun w' hw => X.sub rfl rfl (by omega)) ?_
              refine Qt.va rfl (fun w' hw => X.index1eI (j := i - 1) rfl rfl (by omega) Try.underlying74 sz_3 hA (by omega)) ?_
              refine Qt.va rfl (fun w' hw => X.load rfl sc_3 (by first | exact Ld.num (hr.ext hw) (by omega) | exact hA)) ?_
              refine Qt.call rfl en_128 rfl (fun w' hw => calls_same hw (clessI (m.getD i 0) (m.getD (i - 1) 0) w')) ?_
              refine Qt.va rfl (fun w' hw => X.not rfl) ?_
              refine Qt.va rfl (fun w' hw => X.pickT rfl (by conv => lhs; whnf)) ?_
              refine Qt.nil (fun w4 hq => ?_)
              by_cases hd : m.getD i 0 < m.getD (i - 1) 0
              · rw [decide_eq_true hd]
                refine J.iteF rfl ?_
                refine J.exit ?_
                refine ⟨i, At1 (by first | rfl | exact at_int rfl (by omega) | exact at_slice rfl (by omega) | exact at_int rfl (by simp)), (by (iterate 17 refine Agr.lk rfl ?_); refine Agr.lk rfl ?_; refine Agr.hav rfl ?_; exact Agr.rfl'), ?_⟩
                exact ⟨h1, h2, hI, (fun _ => hd), he.trans hq⟩
              · rw [decide_eq_false hd]
                refine J.iteT rfl ?_
                refine J.skip ?_
                refine J.block ?_
                refine J.region ?_
                refine L.va rfl (X.move (by conv => lhs; whnf)) ?_
                refine L.va rfl (X.add rfl rfl (by omega)) ?_
                refine L.va rfl (X.assign (by conv => lhs; whnf)) ?_
                refine L.nil ?_
                refine ⟨i + 1, At1 (by first | rfl | exact at_int rfl (by omega) | exact at_slice rfl (by omega) | exact at_int rfl (by simp)), (by (iterate 20 refine Agr.lk rfl ?_); exact Agr.lk rfl (Agr.hav rfl Agr.rfl')), ?_⟩
                refine ⟨⟨by omega, by omega, fun p q k1 k2 k3 => ?_, he.trans hq⟩, by omega⟩
                by_cases e : q = i
                · subst e
                  by_cases e2 : p = q - 1
                  · rw [e2]; omega
                  · exact Int.le_trans (hI p (q - 1) k1 (by omega) (by omega)) (by omega)
                · exact hI p q k1 k2 (by omega)
            · skip
              refine Qt.no rfl ?_
              refine Qt.no rfl ?_
              refine Qt.no rfl ?_
              refine Qt.no rfl ?_
              refine Qt.no rfl ?_
              refine Qt.no rfl ?_
              refine Qt.no rfl ?_
              refine Qt.no rfl ?_
              refine Qt.no rfl ?_
              refine Qt.no rfl ?_
              refine Qt.no rfl ?_
              refine Qt.va rfl (fun w' hw => X.pickF rfl (by conv => lhs; whnf)) ?_
              refine Qt.nil (fun w4 hq => ?_)
              refine J.iteF rfl ?_
              refine J.exit ?_
              refine ⟨i, At1 (by first | rfl | exact at_int rfl (by omega) | exact at_slice rfl (by omega) | exact at_int rfl (by simp)), (by (iterate 17 refine Agr.lk rfl ?_); refine Agr.lk rfl ?_; refine Agr.hav rfl ?_; exact Agr.rfl'), ?_⟩
              exact ⟨h1, h2, hI, (fun h => absurd h (by omega)), he.trans hq⟩
        · rintro i g w5 ⟨h1, h2, hI, hst, he5⟩
          replace M := M.up he5
          refine J.seq ?_
          refine J.seq ?_
          refine J.region ?_
          refine L.va rfl (X.move (by conv => lhs; whnf)) ?_
          refine L.va rfl (X.move (by conv => lhs; whnf)) ?_
          refine L.va rfl (X.eql rfl rfl) ?_
          refine L.nil ?_
          refine J.dec rfl (fun heq => ?_) (fun heq => ?_)
          · obtain rfl : i = b := by omega
            refine J.seq ?_
            refine J.region ?_
            refine L.va rfl (X.assign (by conv => lhs; whnf)) ?_
            refine L.nil ?_
            refine J.ret ?_
            refine thn_ret <|  inB_ret <|  thn_ret <|  thn_ret <|  inB_ret <|  thn_ret <| ?_
            refine fin1 ?_
            exact ⟨m, true, rfl, M, fun _ => hI⟩
          · have hst := hst (by omega)
            refine J.skip ?_
            refine J.seq ?_
            refine J.seq ?_
            refine J.region ?_
            refine L.va rfl (X.move (by conv => lhs; whnf)) ?_
            refine L.va rfl (X.move (by conv => lhs; whnf)) ?_
            refine L.va rfl (X.sub rfl rfl (by omega)) ?_
            refine L.va rfl (X.lss rfl rfl) ?_
            refine L.nil ?_
            refine J.dec rfl (fun h50 => ?_) (fun h50 => ?_)
            · refine J.seq ?_
              refine J.region ?_
              refine L.va rfl (X.assign (by conv => lhs; whnf)) ?_
              refine L.nil ?_
              refine J.ret ?_
              refine thn_ret <|  inB_ret <|  thn_ret <|  thn_ret <|  inB_ret <|  thn_ret <| ?_
              refine fin1 ?_
              exact ⟨m, false, rfl, M, fun h => by cases h⟩
            · obtain ⟨i, rfl⟩ : ∃ i', i = i' + 1 := ⟨i - 1, by omega⟩
              have HO := M.o
              refine J.skip ?_
              refine J.cut (X := List Int) [42, 43, 44, 45, 46, 47, 48, 49, 50, 51, 52, 53, 54, 55, 56, 57] (fun m => [(7, .int .i64 ((i + 1 : Nat) : Int))]) (fun m w' => SwI w w' A n c N a b l m ∧ InBut m a i i) ?_ ?_
              · skip
                refine J.draw (ℓ := 1000000) (S := (fun _ => True)) mixed (fun w6d hSE hS_h => ?_)
                have hS : ((fun _ => True)) w6d := trivial
                have hrw6 := (Reads.of_own HO).ext hSE
                have hoX := HO.ext hSE
                have hG : w5.grownBy w6d (Value.ownBlock (.slice A n c)) := grown_ext hSE
                refine D.va 0 rfl (by kernel_rfl) (fun _ _ _ h => h) rfl (fun w' hw => X.move (by conv => lhs; whnf)) hS ?_
                refine D.va 1 rfl (by kernel_rfl) (fun _ _ _ h => h) rfl (fun w' hw => X.move (by conv => lhs; whnf)) hS ?_
                refine D.va 2 rfl (by kernel_rfl) (fun _ _ _ h => h) rfl (fun w' hw => X.move (by conv => lhs; whnf)) hS ?_
                refine D.va 3 rfl (by kernel_rfl) (fun _ _ _ h => h) rfl (fun w' hw => X.move (by conv => lhs; whnf)) hS ?_
                refine D.va 4 rfl (by kernel_rfl) (fun _ _ _ h => h) rfl (fun w' hw => X.sub rfl rfl (by omega)) hS ?_
                refine D.va 5 rfl (by kernel_rfl) (fun _ _ _ h => h) rfl (fun w' hw => X.move (by conv => lhs; whnf)) hS ?_
                refine D.va 6 rfl (by kernel_rfl) (fun _ _ _ h => h) rfl (fun w' hw => X.move (by conv => lhs; whnf)) hS ?_
                refine D.va 7 rfl (by kernel_rfl) (fun _ _ _ h => h) rfl (fun w' hw => X.sub rfl rfl (by omega)) hS ?_
                refine D.va 8 rfl (by kernel_rfl) (fun _ _ _ h => h) rfl (fun w' hw => X.index1eI (j := i) rfl rfl (by omega) Try.underlying74 sz_3 hA (by omega)) hS ?_
                refine D.va 10 rfl (by kernel_rfl) (fun _ _ _ h => h) rfl (fun w' hw => X.move (by conv => lhs; whnf)) hS ?_
                refine D.va 11 rfl (by kernel_rfl) (fun _ _ _ h => h) rfl (fun w' hw => X.move (by conv => lhs; whnf)) hS ?_
                refine D.va 12 rfl (by kernel_rfl) (fun _ _ _ h => h) rfl (fun w' hw => (by first | exact X.index1n rfl rfl Try.underlying74 sz_3 (by first | exact Option.some_ne_none _ | exact hA) (by omega) | exact X.index1 rfl rfl Try.underlying74 sz_3 (by first | exact Option.some_ne_none _ | exact hA) (by omega))) hS ?_
                refine D.two 9 13 (by kernel_rfl) rfl rfl ?_ ?_
                · refine L.va rfl (X.load rfl sc_3 (Ld.num hrw6 (j := i) (by omega))) ?_
                  refine L.nil ?_
                  refine ⟨fun _ => hS, ?_⟩
                  refine D.one 13 (by kernel_rfl) rfl ?_
                  refine L.va rfl (X.load rfl sc_3 (Ld.num hrw6 (j := i + 1) (by omega))) ?_
                  refine L.nil ?_
                  refine ⟨fun _ => hS, ?_⟩
                  refine D.va 14 rfl (by kernel_rfl) (fun _ _ _ h => h) rfl (fun w' hw => (by first | exact X.index1n rfl rfl Try.underlying74 sz_3 (by first | exact Option.some_ne_none _ | exact hA) (by omega) | exact X.index1 rfl rfl Try.underlying74 sz_3 (by first | exact Option.some_ne_none _ | exact hA) (by omega))) hS ?_
                  refine D.one 15 (by kernel_rfl) rfl ?_
                  refine L.storeON rfl rfl (by conv => lhs; whnf) sz_3 (hoX) (by omega) ?_
                  intro w6 hoX hg2 hb2 hs2
                  have hS1 := trivial
                  refine L.nil ?_
                  refine ⟨fun _ => hS1, ?_⟩
                  replace hG := grb_trans hG hg2
                  refine D.va 16 rfl (by kernel_rfl) (fun _ _ _ h => h) rfl (fun w' hw => X.index1eI (j := i) rfl rfl (by omega) Try.underlying74 sz_3 hA (by omega)) hS1 ?_
                  refine D.one 17 (by kernel_rfl) rfl ?_
                  refine L.storeON rfl rfl (by conv => lhs; whnf) sz_3 (hoX) (by omega) ?_
                  intro w6 hoX hg2 hb2 hs2
                  have hS2 := trivial
                  refine L.nil ?_
                  refine ⟨fun _ => hS2, ?_⟩
                  replace hG := grb_trans hG hg2
                  refine D.done (by kernel_rfl) ?_
                  refine ⟨swp m (i + 1) i, At1 (by first | rfl | exact at_int rfl (by omega) | exact at_slice rfl (by omega) | exact at_int rfl (by simp)), (by (iterate 16 refine Agr.lk rfl ?_); exact Agr.rfl'), ?_⟩
                  exact ⟨M.sw hoX hG ⟨by omega, by omega⟩ ⟨by omega, by omega⟩ (by omega), hI.but (by omega)⟩
                · refine L.va rfl (X.load rfl sc_3 (Ld.num hrw6 (j := i + 1) (by omega))) ?_
                  refine L.nil ?_
                  refine ⟨fun _ => hS, ?_⟩
                  refine D.one 9 (by kernel_rfl) rfl ?_
                  refine L.va rfl (X.load rfl sc_3 (Ld.num hrw6 (j := i) (by omega))) ?_
                  refine L.nil ?_
                  refine ⟨fun _ => hS, ?_⟩
                  refine D.va 14 rfl (by kernel_rfl) (fun _ _ _ h => h) rfl (fun w' hw => (by first | exact X.index1n rfl rfl Try.underlying74 sz_3 (by first | exact Option.some_ne_none _ | exact hA) (by omega) | exact X.index1 rfl rfl Try.underlying74 sz_3 (by first | exact Option.some_ne_none _ | exact hA) (by omega))) hS ?_
                  refine D.one 15 (by kernel_rfl) rfl ?_
                  refine L.storeON rfl rfl (by conv => lhs; whnf) sz_3 (hoX) (by omega) ?_
                  intro w6 hoX hg2 hb2 hs2
                  have hS1 := trivial
                  refine L.nil ?_
                  refine ⟨fun _ => hS1, ?_⟩
                  replace hG := grb_trans hG hg2
                  refine D.va 16 rfl (by kernel_rfl) (fun _ _ _ h => h) rfl (fun w' hw => X.index1eI (j := i) rfl rfl (by omega) Try.underlying74 sz_3 hA (by omega)) hS1 ?_
                  refine D.one 17 (by kernel_rfl) rfl ?_
                  refine L.storeON rfl rfl (by conv => lhs; whnf) sz_3 (hoX) (by omega) ?_
                  intro w6 hoX hg2 hb2 hs2
                  have hS2 := trivial
                  refine L.nil ?_
                  refine ⟨fun _ => hS2, ?_⟩
                  replace hG := grb_trans hG hg2
                  refine D.done (by kernel_rfl) ?_
                  refine ⟨swp m (i + 1) i, At1 (by first | rfl | exact at_int rfl (by omega) | exact at_slice rfl (by omega) | exact at_int rfl (by simp)), (by (iterate 16 refine Agr.lk rfl ?_); exact Agr.rfl'), ?_⟩
                  exact ⟨M.sw hoX hG ⟨by omega, by omega⟩ ⟨by omega, by omega⟩ (by omega), hI.but (by omega)⟩
              · rintro m g w7 ⟨M, hB⟩
                have hml : m.length = n := by rw [M.p.len, hl]
                refine J.cut (X := List Int) [9, 58, 59, 60, 61, 62, 63, 64, 65, 66, 67, 68, 69, 70, 71, 72, 73, 74, 75, 76, 77, 78, 79, 80, 81, 82, 83, 84, 85, 86, 87, 88, 89, 90, 91, 92, 93, 94] (fun m => [(7, .int .i64 ((i + 1 : Nat) : Int))]) (fun m w' => SwI w w' A n c N a b l m ∧ In m a (i + 1)) ?_ ?_
                · refine J.seq ?_
                  refine J.region ?_
                  refine L.va rfl (X.move (by conv => lhs; whnf)) ?_
                  refine L.va rfl (X.move (by conv => lhs; whnf)) ?_
                  refine L.va rfl (X.sub rfl rfl (by omega)) ?_
                  refine L.va rfl (X.geq rfl rfl) ?_
                  refine L.nil ?_
                  refine J.dec rfl (fun hi2 => ?_) (fun hi2 => ?_)
                  · refine J.seq ?_
                    refine J.region ?_
                    refine L.va rfl (X.move (by conv => lhs; whnf)) ?_
                    refine L.va rfl (X.sub rfl rfl (by omega)) ?_
                    refine L.va rfl (X.assign (by conv => lhs; whnf)) ?_
                    refine L.nil ?_
                    refine J.block ?_
                    rw [show ((i + 1 : Nat) : Int) - 1 = (i : Int) by omega]
                    refine J.loop (X := Nat × List Int) [9, 64, 65, 66, 67, 68, 69, 70, 71, 72, 73, 74, 75, 76, 77, 78, 79, 80, 81, 82, 83, 84, 85, 86, 87, 88, 89, 90, 91, 92, 93, 94] (fun (j, m) => [(9, .int .i64 (j : Int))]) (fun (j, m) w' => a ≤ j ∧ j ≤ i ∧ SwI w w' A n c N a b l m ∧ InBut m a i j) (fun (j, _) => j) ((i, m)) (At1 (by first | rfl | exact at_int rfl (by omega) | exact at_slice rfl (by omega) | exact at_int rfl (by simp))) ?_ ?_
                    · exact ⟨by omega, Nat.le_refl _, M, hB⟩
                    · rintro ⟨j, m⟩ g w8 ⟨j1, j2, M, hB⟩
                      have hml : m.length = n := by rw [M.p.len, hl]
                      have hr := Reads.of_own M.o
                      have hlo := hLo.keep M.p
                      refine J.seq ?_
                      refine J.seq ?_
                      refine J.region ?_
                      refine L.va rfl (X.move (by conv => lhs; whnf)) ?_
                      refine L.va rfl (X.geq rfl rfl) ?_
                      refine L.nil ?_
                      refine J.dec rfl (fun hj1 => ?_) (fun hj1 => ?_)
                      · skip
                        refine J.skip ?_
                        refine J.seq ?_
                        refine J.block ?_
                        refine J.seq ?_
                        refine J.seq ?_
                        refine J.quiet mixed (by kernel_rfl) ?_
                        refine Qt.va rfl (fun w' hw => X.move (by conv => lhs; whnf)) ?_
                        refine Qt.va rfl (fun w' hw => X.move (by conv => lhs; whnf)) ?_
                        refine Qt.va rfl (fun w' hw => (by first | exact X.index1n rfl rfl Try.underlying74 sz_3 (by first | exact Option.some_ne_none _ | exact hr.some_ (by omega) | exact hA) (by omega) | exact X.index1 rfl rfl Try.underlying74 sz_3 (by first | exact Option.some_ne_none _ | exact hr.some_ (by omega) | exact hA) (by omega))) ?_
                        refine Qt.va rfl (fun w' hw => X.load rfl sc_3 (by first | exact Ld.num (hr.ext hw) (by omega) | exact hA)) ?_
                        refine Qt.va rfl (fun w' hw => X.move (by conv => lhs; whnf)) ?_
                        refine Qt.va rfl (fun w' hw => X.move (by conv => lhs; whnf)) ?_
                        refine Qt.va rfl (fun w' hw => X.sub rfl rfl (by omega)) ?_
                        refine Qt.va rfl (fun w' hw => X.index1eI (j := j - 1) rfl rfl (by omega) Try.underlying74 sz_3 hA (by omega)) ?_
                        refine Qt.va rfl (fun w' hw => X.load rfl sc_3 (by first | exact Ld.num (hr.ext hw) (by omega) | exact hA)) ?_
                        refine Qt.call rfl en_128 rfl (fun w' hw => calls_same hw (clessI (m.getD j 0) (m.getD (j - 1) 0) w')) ?_
                        refine Qt.va rfl (fun w' hw => X.not rfl) ?_
                        refine Qt.nil (fun w9 hq => ?_)
                        have M9 := M.up hq
                        have HO := M9.o
                        by_cases hd : m.getD j 0 < m.getD (j - 1) 0
                        · rw [decide_eq_true hd]
                          have hja : a < j := by
                            rcases Nat.lt_or_ge a j with h | h
                            · exact h
                            · obtain rfl : j = a := by omega
                              have := hlo (by omega) j (Nat.le_refl _) (by omega)
                              omega
                          obtain ⟨j, rfl⟩ : ∃ j', j = j' + 1 := ⟨j - 1, by omega⟩
                          rw [Nat.add_sub_cancel] at hd
                          refine J.iteF rfl ?_
                          refine J.skip ?_
                          refine J.draw (ℓ := 1000000) (S := (fun _ => True)) mixed (fun w10d hSE hS_h => ?_)
                          have hS : ((fun _ => True)) w10d := trivial
                          have hrw10 := (Reads.of_own HO).ext hSE
                          have hoX := HO.ext hSE
                          have hG : w9.grownBy w10d (Value.ownBlock (.slice A n c)) := grown_ext hSE
                          refine D.va 0 rfl (by kernel_rfl) (fun _ _ _ h => h) rfl (fun w' hw => X.move (by conv => lhs; whnf)) hS ?_
                          refine D.va 1 rfl (by kernel_rfl) (fun _ _ _ h => h) rfl (fun w' hw => X.move (by conv => lhs; whnf)) hS ?_
                          refine D.va 2 rfl (by kernel_rfl) (fun _ _ _ h => h) rfl (fun w' hw => X.move (by conv => lhs; whnf)) hS ?_
                          refine D.va 3 rfl (by kernel_rfl) (fun _ _ _ h => h) rfl (fun w' hw => X.move (by conv => lhs; whnf)) hS ?_
                          refine D.va 4 rfl (by kernel_rfl) (fun _ _ _ h => h) rfl (fun w' hw => X.sub rfl rfl (by omega)) hS ?_
                          refine D.va 5 rfl (by kernel_rfl) (fun _ _ _ h => h) rfl (fun w' hw => X.move (by conv => lhs; whnf)) hS ?_
                          refine D.va 6 rfl (by kernel_rfl) (fun _ _ _ h => h) rfl (fun w' hw => X.move (by conv => lhs; whnf)) hS ?_
                          refine D.va 7 rfl (by kernel_rfl) (fun _ _ _ h => h) rfl (fun w' hw => X.sub rfl rfl (by omega)) hS ?_
                          refine D.va 8 rfl (by kernel_rfl) (fun _ _ _ h => h) rfl (fun w' hw => X.index1eI (j := j) rfl rfl (by omega) Try.underlying74 sz_3 hA (by omega)) hS ?_
                          refine D.va 10 rfl (by kernel_rfl) (fun _ _ _ h => h) rfl (fun w' hw => X.move (by conv => lhs; whnf)) hS ?_
                          refine D.va 11 rfl (by kernel_rfl) (fun _ _ _ h => h) rfl (fun w' hw => X.move (by conv => lhs; whnf)) hS ?_
                          refine D.va 12 rfl (by kernel_rfl) (fun _ _ _ h => h) rfl (fun w' hw => (by first | exact X.index1n rfl rfl Try.underlying74 sz_3 (by first | exact Option.some_ne_none _ | exact hA) (by omega) | exact X.index1 rfl rfl Try.underlying74 sz_3 (by first | exact Option.some_ne_none _ | exact hA) (by omega))) hS ?_
                          refine D.two 9 13 (by kernel_rfl) rfl rfl ?_ ?_
                          · refine L.va rfl (X.load rfl sc_3 (Ld.num hrw10 (j := j) (by omega))) ?_
                            refine L.nil ?_
                            refine ⟨fun _ => hS, ?_⟩
                            refine D.one 13 (by kernel_rfl) rfl ?_
                            refine L.va rfl (X.load rfl sc_3 (Ld.num hrw10 (j := j + 1) (by omega))) ?_
                            refine L.nil ?_
                            refine ⟨fun _ => hS, ?_⟩
                            refine D.va 14 rfl (by kernel_rfl) (fun _ _ _ h => h) rfl (fun w' hw => (by first | exact X.index1n rfl rfl Try.underlying74 sz_3 (by first | exact Option.some_ne_none _ | exact hA) (by omega) | exact X.index1 rfl rfl Try.underlying74 sz_3 (by first | exact Option.some_ne_none _ | exact hA) (by omega))) hS ?_
                            refine D.one 15 (by kernel_rfl) rfl ?_
                            refine L.storeON rfl rfl (by conv => lhs; whnf) sz_3 (hoX) (by omega) ?_
                            intro w10 hoX hg2 hb2 hs2
                            have hS1 := trivial
                            refine L.nil ?_
                            refine ⟨fun _ => hS1, ?_⟩
                            replace hG := grb_trans hG hg2
                            refine D.va 16 rfl (by kernel_rfl) (fun _ _ _ h => h) rfl (fun w' hw => X.index1eI (j := j) rfl rfl (by omega) Try.underlying74 sz_3 hA (by omega)) hS1 ?_
                            refine D.one 17 (by kernel_rfl) rfl ?_
                            refine L.storeON rfl rfl (by conv => lhs; whnf) sz_3 (hoX) (by omega) ?_
                            intro w10 hoX hg2 hb2 hs2
                            have hS2 := trivial
                            refine L.nil ?_
                            refine ⟨fun _ => hS2, ?_⟩
                            replace hG := grb_trans hG hg2
                            refine D.done (by kernel_rfl) ?_
                            refine J.region ?_
                            refine L.va rfl (X.move (by conv => lhs; whnf)) ?_
                            refine L.va rfl (X.sub rfl rfl (by omega)) ?_
                            refine L.va rfl (X.assign (by conv => lhs; whnf)) ?_
                            refine L.nil ?_
                            refine ⟨(j, swp m (j + 1) j), At1 (by first | rfl | exact at_int rfl (by omega) | exact at_slice rfl (by omega) | exact at_int rfl (by simp)), (by (iterate 32 refine Agr.lk rfl ?_); exact Agr.lk rfl (Agr.hav rfl Agr.rfl')), ?_⟩
                            exact ⟨⟨by omega, by omega, M9.sw hoX hG ⟨by omega, by omega⟩ ⟨by omega, by omega⟩ (by omega), hB.step (by omega) j2 (by omega) hd⟩, by show j < j + 1; omega⟩
                          · refine L.va rfl (X.load rfl sc_3 (Ld.num hrw10 (j := j + 1) (by omega))) ?_
                            refine L.nil ?_
                            refine ⟨fun _ => hS, ?_⟩
                            refine D.one 9 (by kernel_rfl) rfl ?_
                            refine L.va rfl (X.load rfl sc_3 (Ld.num hrw10 (j := j) (by omega))) ?_
                            refine L.nil ?_
                            refine ⟨fun _ => hS, ?_⟩
                            refine D.va 14 rfl (by kernel_rfl) (fun _ _ _ h => h) rfl (fun w' hw => (by first | exact X.index1n rfl rfl Try.underlying74 sz_3 (by first | exact Option.some_ne_none _ | exact hA) (by omega) | exact X.index1 rfl rfl Try.underlying74 sz_3 (by first | exact Option.some_ne_none _ | exact hA) (by omega))) hS ?_
                            refine D.one 15 (by kernel_rfl) rfl ?_
                            refine L.storeON rfl rfl (by conv => lhs; whnf) sz_3 (hoX) (by omega) ?_
                            intro w10 hoX hg2 hb2 hs2
                            have hS1 := trivial
                            refine L.nil ?_
                            refine ⟨fun _ => hS1, ?_⟩
                            replace hG := grb_trans hG hg2
                            refine D.va 16 rfl (by kernel_rfl) (fun _ _ _ h => h) rfl (fun w' hw => X.index1eI (j := j) rfl rfl (by omega) Try.underlying74 sz_3 hA (by omega)) hS1 ?_
                            refine D.one 17 (by kernel_rfl) rfl ?_
                            refine L.storeON rfl rfl (by conv => lhs; whnf) sz_3 (hoX) (by omega) ?_
                            intro w10 hoX hg2 hb2 hs2
                            have hS2 := trivial
                            refine L.nil ?_
                            refine ⟨fun _ => hS2, ?_⟩
                            replace hG := grb_trans hG hg2
                            refine D.done (by kernel_rfl) ?_
                            refine J.region ?_
                            refine L.va rfl (X.move (by conv => lhs; whnf)) ?_
                            refine L.va rfl (X.sub rfl rfl (by omega)) ?_
                            refine L.va rfl (X.assign (by conv => lhs; whnf)) ?_
                            refine L.nil ?_
                            refine ⟨(j, swp m (j + 1) j), At1 (by first | rfl | exact at_int rfl (by omega) | exact at_slice rfl (by omega) | exact at_int rfl (by simp)), (by (iterate 32 refine Agr.lk rfl ?_); exact Agr.lk rfl (Agr.hav rfl Agr.rfl')), ?_⟩
                            exact ⟨⟨by omega, by omega, M9.sw hoX hG ⟨by omega, by omega⟩ ⟨by omega, by omega⟩ (by omega), hB.step (by omega) j2 (by omega) hd⟩, by show j < j + 1; omega⟩
                        · rw [decide_eq_false hd]
                          refine J.iteT rfl ?_
                          refine J.exit ?_
                          refine ⟨m, At1 (by first | rfl | exact at_int rfl (by omega) | exact at_slice rfl (by omega) | exact at_int rfl (by simp)), (by (iterate 13 refine Agr.lk rfl ?_); refine Agr.lk rfl ?_; refine Agr.hav rfl ?_; (iterate 7 refine Agr.lk rfl ?_); exact Agr.rfl'), ?_⟩
                          exact ⟨M9, hB.stop j2 (.inr (by omega))⟩
                      · refine J.exit ?_
                        refine ⟨m, At1 (by first | rfl | exact at_int rfl (by omega) | exact at_slice rfl (by omega) | exact at_int rfl (by simp)), (by (iterate 2 refine Agr.lk rfl ?_); refine Agr.lk rfl ?_; refine Agr.hav rfl ?_; (iterate 7 refine Agr.lk rfl ?_); exact Agr.rfl'), ?_⟩
                        exact ⟨M, hB.stop j2 (.inl (by omega))⟩
                  · refine J.skip ?_
                    refine ⟨m, At1 (by first | rfl | exact at_int rfl (by omega) | exact at_slice rfl (by omega) | exact at_int rfl (by simp)), (by (iterate 4 refine Agr.lk rfl ?_); exact Agr.rfl'), ?_⟩
                    exact ⟨M, In.tiny (by omega)⟩
                · rintro m g w11 ⟨M, hI⟩
                  have hml : m.length = n := by rw [M.p.len, hl]
                  refine J.seq ?_
                  refine J.region ?_
                  refine L.va rfl (X.move (by conv => lhs; whnf)) ?_
                  refine L.va rfl (X.move (by conv => lhs; whnf)) ?_
                  refine L.va rfl (X.sub rfl rfl (by omega)) ?_
                  refine L.va rfl (X.geq rfl rfl) ?_
                  refine L.nil ?_
                  refine J.dec rfl (fun hb2 => ?_) (fun hb2 => ?_)
                  · refine J.seq ?_
                    refine J.region ?_
                    refine L.va rfl (X.move (by conv => lhs; whnf)) ?_
                    refine L.va rfl (X.add rfl rfl (by omega)) ?_
                    refine L.va rfl (X.assign (by conv => lhs; whnf)) ?_
                    refine L.nil ?_
                    refine J.block ?_
                    refine J.loop (X := Nat × List Int) [10, 101, 102, 103, 104, 105, 106, 107, 108, 109, 110, 111, 112, 113, 114, 115, 116, 117, 118, 119, 120, 121, 122, 123, 124, 125, 126, 127, 128, 129, 130, 131, 132] (fun (j, m) => [(10, .int .i64 (j : Int))]) (fun (j, m) w' => i + 2 ≤ j ∧ j ≤ b ∧ SwI w w' A n c N a b l m ∧ In m a (i + 1)) (fun (j, _) => b - j) ((i + 2, m)) (At1 (by first | rfl | exact at_int rfl (by omega) | exact at_slice rfl (by omega) | exact at_int rfl (by simp))) ?_ ?_
                    · exact ⟨Nat.le_refl _, by omega, M, hI⟩
                    · rintro ⟨j, m⟩ g w12 ⟨j1, j2, M, hI⟩
                      have hml : m.length = n := by rw [M.p.len, hl]
                      have hr := Reads.of_own M.o
                      refine J.seq ?_
                      refine J.seq ?_
                      refine J.region ?_
                      refine L.va rfl (X.move (by conv => lhs; whnf)) ?_
                      refine L.va rfl (X.move (by conv => lhs; whnf)) ?_
                      refine L.va rfl (X.lss rfl rfl) ?_
                      refine L.nil ?_
                      refine J.dec rfl (fun hjb => ?_) (fun hjb => ?_)
                      · skip
                        refine J.skip ?_
                        refine J.seq ?_
                        refine J.block ?_
                        refine J.seq ?_
                        refine J.seq ?_
                        refine J.quiet mixed (by kernel_rfl) ?_
                        refine Qt.va rfl (fun w' hw => X.move (by conv => lhs; whnf)) ?_
                        refine Qt.va rfl (fun w' hw => X.move (by conv => lhs; whnf)) ?_
                        refine Qt.va rfl (fun w' hw => (by first | exact X.index1n rfl rfl Try.underlying74 sz_3 (by first | exact Option.some_ne_none _ | exact hr.some_ (by omega) | exact hA) (by omega) | exact X.index1 rfl rfl Try.underlying74 sz_3 (by first | exact Option.some_ne_none _ | exact hr.some_ (by omega) | exact hA) (by omega))) ?_
                        refine Qt.va rfl (fun w' hw => X.load rfl sc_3 (by first | exact Ld.num (hr.ext hw) (by omega) | exact hA)) ?_
                        refine Qt.va rfl (fun w' hw => X.move (by conv => lhs; whnf)) ?_
                        refine Qt.va rfl (fun w' hw => X.move (by conv => lhs; whnf)) ?_
                        refine Qt.va rfl (fun w' hw => X.sub rfl rfl (by omega)) ?_
                        refine Qt.va rfl (fun w' hw => X.index1eI (j := j - 1) rfl rfl (by omega) Try.underlying74 sz_3 hA (by omega)) ?_
                        refine Qt.va rfl (fun w' hw => X.load rfl sc_3 (by first | exact Ld.num (hr.ext hw) (by omega) | exact hA)) ?_
                        refine Qt.call rfl en_128 rfl (fun w' hw => calls_same hw (clessI (m.getD j 0) (m.getD (j - 1) 0) w')) ?_
                        refine Qt.va rfl (fun w' hw => X.not rfl) ?_
                        refine Qt.nil (fun w13 hq => ?_)
                        have M13 := M.up hq
                        have HO := M13.o
                        by_cases hd : m.getD j 0 < m.getD (j - 1) 0
                        · rw [decide_eq_true hd]
                          obtain ⟨j, rfl⟩ : ∃ j', j = j' + 1 := ⟨j - 1, by omega⟩
                          refine J.iteF rfl ?_
                          refine J.skip ?_
                          refine J.draw (ℓ := 1000000) (S := (fun _ => True)) mixed (fun w14d hSE hS_h => ?_)
                          have hS : ((fun _ => True)) w14d := trivial
                          have hrw14 := (Reads.of_own HO).ext hSE
                          have hoX := HO.ext hSE
                          have hG : w13.grownBy w14d (Value.ownBlock (.slice A n c)) := grown_ext hSE
                          refine D.va 0 rfl (by kernel_rfl) (fun _ _ _ h => h) rfl (fun w' hw => X.move (by conv => lhs; whnf)) hS ?_
                          refine D.va 1 rfl (by kernel_rfl) (fun _ _ _ h => h) rfl (fun w' hw => X.move (by conv => lhs; whnf)) hS ?_
                          refine D.va 2 rfl (by kernel_rfl) (fun _ _ _ h => h) rfl (fun w' hw => X.move (by conv => lhs; whnf)) hS ?_
                          refine D.va 3 rfl (by kernel_rfl) (fun _ _ _ h => h) rfl (fun w' hw => X.move (by conv => lhs; whnf)) hS ?_
                          refine D.va 4 rfl (by kernel_rfl) (fun _ _ _ h => h) rfl (fun w' hw => X.sub rfl rfl (by omega)) hS ?_
                          refine D.va 5 rfl (by kernel_rfl) (fun _ _ _ h => h) rfl (fun w' hw => X.move (by conv => lhs; whnf)) hS ?_
                          refine D.va 6 rfl (by kernel_rfl) (fun _ _ _ h => h) rfl (fun w' hw => X.move (by conv => lhs; whnf)) hS ?_
                          refine D.va 7 rfl (by kernel_rfl) (fun _ _ _ h => h) rfl (fun w' hw => X.sub rfl rfl (by omega)) hS ?_
                          refine D.va 8 rfl (by kernel_rfl) (fun _ _ _ h => h) rfl (fun w' hw => X.index1eI (j := j) rfl rfl (by omega) Try.underlying74 sz_3 hA (by omega)) hS ?_
                          refine D.va 10 rfl (by kernel_rfl) (fun _ _ _ h => h) rfl (fun w' hw => X.move (by conv => lhs; whnf)) hS ?_
                          refine D.va 11 rfl (by kernel_rfl) (fun _ _ _ h => h) rfl (fun w' hw => X.move (by conv => lhs; whnf)) hS ?_
                          refine D.va 12 rfl (by kernel_rfl) (fun _ _ _ h => h) rfl (fun w' hw => (by first | exact X.index1n rfl rfl Try.underlying74 sz_3 (by first | exact Option.some_ne_none _ | exact hA) (by omega) | exact X.index1 rfl rfl Try.underlying74 sz_3 (by first | exact Option.some_ne_none _ | exact hA) (by omega))) hS ?_
                          refine D.two 9 13 (by kernel_rfl) rfl rfl ?_ ?_
                          · refine L.va rfl (X.load rfl sc_3 (Ld.num hrw14 (j := j) (by omega))) ?_
                            refine L.nil ?_
                            refine ⟨fun _ => hS, ?_⟩
                            refine D.one 13 (by kernel_rfl) rfl ?_
                            refine L.va rfl (X.load rfl sc_3 (Ld.num hrw14 (j := j + 1) (by omega))) ?_
                            refine L.nil ?_
                            refine ⟨fun _ => hS, ?_⟩
                            refine D.va 14 rfl (by kernel_rfl) (fun _ _ _ h => h) rfl (fun w' hw => (by first | exact X.index1n rfl rfl Try.underlying74 sz_3 (by first | exact Option.some_ne_none _ | exact hA) (by omega) | exact X.index1 rfl rfl Try.underlying74 sz_3 (by first | exact Option.some_ne_none _ | exact hA) (by omega))) hS ?_
                            refine D.one 15 (by kernel_rfl) rfl ?_
                            refine L.storeON rfl rfl (by conv => lhs; whnf) sz_3 (hoX) (by omega) ?_
                            intro w14 hoX hg2 hb2 hs2
                            have hS1 := trivial
                            refine L.nil ?_
                            refine ⟨fun _ => hS1, ?_⟩
                            replace hG := grb_trans hG hg2
                            refine D.va 16 rfl (by kernel_rfl) (fun _ _ _ h => h) rfl (fun w' hw => X.index1eI (j := j) rfl rfl (by omega) Try.underlying74 sz_3 hA (by omega)) hS1 ?_
                            refine D.one 17 (by kernel_rfl) rfl ?_
                            refine L.storeON rfl rfl (by conv => lhs; whnf) sz_3 (hoX) (by omega) ?_
                            intro w14 hoX hg2 hb2 hs2
                            have hS2 := trivial
                            refine L.nil ?_
                            refine ⟨fun _ => hS2, ?_⟩
                            replace hG := grb_trans hG hg2
                            refine D.done (by kernel_rfl) ?_
                            refine J.region ?_
                            refine L.va rfl (X.move (by conv => lhs; whnf)) ?_
                            refine L.va rfl (X.add rfl rfl (by omega)) ?_
                            refine L.va rfl (X.assign (by conv => lhs; whnf)) ?_
                            refine L.nil ?_
                            refine ⟨(j + 2, swp m (j + 1) j), At1 (by first | rfl | exact at_int rfl (by omega) | exact at_slice rfl (by omega) | exact at_int rfl (by simp)), (by (iterate 33 refine Agr.lk rfl ?_); exact Agr.lk rfl (Agr.hav rfl Agr.rfl')), ?_⟩
                            exact ⟨⟨by omega, by omega, M13.sw hoX hG ⟨by omega, by omega⟩ ⟨by omega, by omega⟩ (by omega), hI.same fun k hk => by rw [swp_at m (by omega) (by omega), if_neg (by omega), if_neg (by omega)]⟩, by show b - (j + 2) < b - (j + 1); omega⟩
                          · refine L.va rfl (X.load rfl sc_3 (Ld.num hrw14 (j := j + 1) (by omega))) ?_
                            refine L.nil ?_
                            refine ⟨fun _ => hS, ?_⟩
                            refine D.one 9 (by kernel_rfl) rfl ?_
                            refine L.va rfl (X.load rfl sc_3 (Ld.num hrw14 (j := j) (by omega))) ?_
                            refine L.nil ?_
                            refine ⟨fun _ => hS, ?_⟩
                            refine D.va 14 rfl (by kernel_rfl) (fun _ _ _ h => h) rfl (fun w' hw => (by first | exact X.index1n rfl rfl Try.underlying74 sz_3 (by first | exact Option.some_ne_none _ | exact hA) (by omega) | exact X.index1 rfl rfl Try.underlying74 sz_3 (by first | exact Option.some_ne_none _ | exact hA) (by omega))) hS ?_
                            refine D.one 15 (by kernel_rfl) rfl ?_
                            refine L.storeON rfl rfl (by conv => lhs; whnf) sz_3 (hoX) (by omega) ?_
                            intro w14 hoX hg2 hb2 hs2
                            have hS1 := trivial
                            refine L.nil ?_
                            refine ⟨fun _ => hS1, ?_⟩
                            replace hG := grb_trans hG hg2
                            refine D.va 16 rfl (by kernel_rfl) (fun _ _ _ h => h) rfl (fun w' hw => X.index1eI (j := j) rfl rfl (by omega) Try.underlying74 sz_3 hA (by omega)) hS1 ?_
                            refine D.one 17 (by kernel_rfl) rfl ?_
                            refine L.storeON rfl rfl (by conv => lhs; whnf) sz_3 (hoX) (by omega) ?_
                            intro w14 hoX hg2 hb2 hs2
                            have hS2 := trivial
                            refine L.nil ?_
                            refine ⟨fun _ => hS2, ?_⟩
                            replace hG := grb_trans hG hg2
                            refine D.done (by kernel_rfl) ?_
                            refine J.region ?_
                            refine L.va rfl (X.move (by conv => lhs; whnf)) ?_
                            refine L.va rfl (X.add rfl rfl (by omega)) ?_
                            refine L.va rfl (X.assign (by conv => lhs; whnf)) ?_
                            refine L.nil ?_
                            refine ⟨(j + 2, swp m (j + 1) j), At1 (by first | rfl | exact at_int rfl (by omega) | exact at_slice rfl (by omega) | exact at_int rfl (by simp)), (by (iterate 33 refine Agr.lk rfl ?_); exact Agr.lk rfl (Agr.hav rfl Agr.rfl')), ?_⟩
                            exact ⟨⟨by omega, by omega, M13.sw hoX hG ⟨by omega, by omega⟩ ⟨by omega, by omega⟩ (by omega), hI.same fun k hk => by rw [swp_at m (by omega) (by omega), if_neg (by omega), if_neg (by omega)]⟩, by show b - (j + 2) < b - (j + 1); omega⟩
                        · rw [decide_eq_false hd]
                          refine J.iteT rfl ?_
                          refine J.exit ?_
                          refine ⟨(i + 1, m), At1 (by first | rfl | exact at_int rfl (by omega) | exact at_slice rfl (by omega) | exact at_int rfl (by simp)), (by (iterate 14 refine Agr.lk rfl ?_); refine Agr.lk rfl ?_; refine Agr.hav rfl ?_; (iterate 7 refine Agr.lk rfl ?_); refine Agr.lk rfl ?_; refine Agr.hav rfl ?_; refine Agr.lk rfl ?_; refine Agr.hav rfl ?_; (iterate 7 refine Agr.lk rfl ?_); refine Agr.lk rfl ?_; refine Agr.hav rfl ?_; exact Agr.rfl'), ?_⟩
                          exact ⟨by omega, by omega, M13, hI⟩
                      · refine J.exit ?_
                        refine ⟨(i + 1, m), At1 (by first | rfl | exact at_int rfl (by omega) | exact at_slice rfl (by omega) | exact at_int rfl (by simp)), (by (iterate 3 refine Agr.lk rfl ?_); refine Agr.lk rfl ?_; refine Agr.hav rfl ?_; (iterate 7 refine Agr.lk rfl ?_); refine Agr.lk rfl ?_; refine Agr.hav rfl ?_; refine Agr.lk rfl ?_; refine Agr.hav rfl ?_; (iterate 7 refine Agr.lk rfl ?_); refine Agr.lk rfl ?_; refine Agr.hav rfl ?_; exact Agr.rfl'), ?_⟩
                        exact ⟨by omega, by omega, M, hI⟩
                  · refine J.skip ?_
                    refine ⟨(i + 1, m), At1 (by first | rfl | exact at_int rfl (by omega) | exact at_slice rfl (by omega) | exact at_int rfl (by simp)), (by (iterate 4 refine Agr.lk rfl ?_); refine Agr.lk rfl ?_; refine Agr.hav rfl ?_; refine Agr.lk rfl ?_; refine Agr.hav rfl ?_; (iterate 7 refine Agr.lk rfl ?_); refine Agr.lk rfl ?_; refine Agr.hav rfl ?_; exact Agr.rfl'), ?_⟩
                    exact ⟨by omega, by omega, M, hI⟩
      · rintro ⟨i, m⟩ g w15 ⟨i1, i2, M, hI⟩
        refine J.region ?_
        refine L.va rfl (X.move (by conv => lhs; whnf)) ?_
        refine L.va rfl (X.add rfl rfl (by omega)) ?_
        refine L.va rfl (X.assign (by conv => lhs; whnf)) ?_
        refine L.nil ?_
        refine ⟨(i, q + 1, m), At2 (by first | rfl | exact at_int rfl (by omega) | exact at_slice rfl (by omega) | exact at_int rfl (by simp)) (by first | rfl | exact at_int rfl (by omega) | exact at_slice rfl (by omega) | exact at_int rfl (by simp)), (by (iterate 3 refine Agr.lk rfl ?_); refine Agr.lk rfl ?_; refine Agr.hav rfl ?_; (iterate 2 refine Agr.lk rfl ?_); exact Agr.lk rfl (Agr.hav rfl Agr.rfl')), ?_⟩
        exact ⟨⟨i1, i2, by omega, M, hI⟩, by show 5 - (q + 1) < 5 - q; omega⟩
    · refine J.exit ?_
      refine J.seq ?_
      refine J.region ?_
      refine L.va rfl (X.assign (by conv => lhs; whnf)) ?_
      refine L.nil ?_
      refine J.ret ?_
      refine fin1 ?_
      exact ⟨m, false, rfl, M, fun h => by cases h⟩
end Go.Proofs.Ytpomklkfedpkfaa
