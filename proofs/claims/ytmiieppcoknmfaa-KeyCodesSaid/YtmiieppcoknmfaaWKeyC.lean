/-
  Keys: one code, a key of fewer dimensions; the codes of a key in the reference.
-/
import Derived.Test.YtmiieppcoknmfaaWKeyB
namespace Go.Proofs.Ytmiieppcoknmfaa
set_option maxRecDepth 100000
open Go.RowKit H
set_option linter.unusedVariables false
namespace Sch
/-- one dimension's code -/
def cdE (s : Sch) (m : Nat) (k d : Int) : Int := if s.coE m k ≠ 0 ∨ d < 0 ∨ (s.nd : Int) ≤ d then -1 else cdK s.ds m s.nd k d.toNat
theorem coL_length {s : Sch} {m : Nat} {k : Int} (h : s.coE m k = 0) : (s.coL m k).length = s.nd := by rw [coL, if_pos h, coK_length]
theorem Here.code1 {s : Sch} {w : World} (h : s.Here w) {m : Nat} (hm : m < 4294967296) (k : Int) (hk : 0 ≤ k ∧ k ≤ 18446744073709551615) (d : Int) :
    Calls Try.prog 23 #[s.val, .int .u32 (m : Int), .int .u64 k, .int .i64 d] w fun e w' => e = .returned (.int .i64 (s.cdE m k d)) ∧ Ext w w' := by
  have hle := h.hle
  refine enter Try.func23 rfl (by kernel_rfl) ?_
  refine J.seq ?_
  refine J.region ?_
  -- box
  refine L.boxA (l := [_, _, _, _]) rfl rfl ?_
  intro b1 w1 hb1 hs1 hk1 he1
  refine L.va rfl (X.assign (by conv => lhs; whnf)) ?_
  refine L.nil ?_
  refine J.seq ?_
  refine J.region ?_
  refine L.va rfl ((by first | exact X.loadAgg rfl (range_l hk1) Try.underlying26 rfl (by kernel_rfl) | exact X.loadAgg rfl (range_blk hk1) Try.underlying26 rfl (by kernel_rfl))) ?_
  refine L.va rfl (X.move (by conv => lhs; whnf)) ?_
  refine L.va rfl (X.move (by conv => lhs; whnf)) ?_
  -- callfn bushel/key.Codes
  refine L.call rfl en_21 rfl ((h.ext he1).codes hm k hk) ?_
  rintro e w2 ⟨A, c, rfl, ho, he2⟩
  refine ⟨_, rfl, ?_⟩
  have he2 : Ext w1 w2 := he2
  have he02 := he1.trans he2
  refine L.va rfl (X.move (by conv => lhs; whnf)) ?_
  refine L.va rfl (X.extract rfl rfl) ?_
  refine L.va rfl (X.extract rfl rfl) ?_
  refine L.va rfl (X.assign (by conv => lhs; whnf)) ?_
  refine L.va rfl (X.assign (by conv => lhs; whnf)) ?_
  refine L.nil ?_
  refine J.seq ?_
  refine J.seq ?_
  refine J.region ?_
  refine L.va rfl (X.move (by conv => lhs; whnf)) ?_
  refine L.va rfl (X.neq rfl rfl) ?_
  refine L.va rfl (X.move (by conv => lhs; whnf)) ?_
  -- case t20
  refine L.caseNdec (k := 20) rfl (fun hE => ?_) (fun hE => ?_)
  · have e : s.cdE m k d = -1 := by rw [cdE, if_pos (.inl hE)]
    rw [e]
    refine L.no rfl ?_
    refine L.no rfl ?_
    refine L.va rfl (X.pickT rfl (by conv => lhs; whnf)) ?_
    refine L.va rfl (X.move (by conv => lhs; whnf)) ?_
    refine L.no rfl ?_
    refine L.no rfl ?_
    refine L.no rfl ?_
    refine L.no rfl ?_
    refine L.va rfl (X.pickT rfl (by conv => lhs; whnf)) ?_
    refine L.nil ?_
    -- cond
    refine J.iteT rfl ?_
    refine J.seq ?_
    refine J.region ?_
    refine L.va rfl (X.assign (by conv => lhs; whnf)) ?_
    refine L.nil ?_
    -- ret
    refine J.ret ?_
    refine thn_ret <| ?_
    refine fin1 ?_
    exact ⟨rfl, he02⟩
  · have hE0 : s.coE m k = 0 := by omega
    have hL := coL_length hE0
    have hLe : s.coL m k = coK s.ds m s.nd k := by rw [coL, if_pos hE0]
    rw [hL] at ho
    rw [hLe] at ho
    rw [hL]
    refine L.va rfl (X.move (by conv => lhs; whnf)) ?_
    refine L.va rfl (X.lss rfl rfl) ?_
    refine L.va rfl (X.pickF rfl (by conv => lhs; whnf)) ?_
    refine L.va rfl (X.move (by conv => lhs; whnf)) ?_
    -- case t24
    refine L.caseDec (k := 24) rfl (fun hd0 => ?_) (fun hd0 => ?_)
    · have e : s.cdE m k d = -1 := by rw [cdE, if_pos (.inr (.inl hd0))]
      rw [e]
      refine L.no rfl ?_
      refine L.no rfl ?_
      refine L.no rfl ?_
      refine L.no rfl ?_
      refine L.va rfl (X.pickT rfl (by conv => lhs; whnf)) ?_
      refine L.nil ?_
      -- cond
      refine J.iteT rfl ?_
      refine J.seq ?_
      refine J.region ?_
      refine L.va rfl (X.assign (by conv => lhs; whnf)) ?_
      refine L.nil ?_
      -- ret
      refine J.ret ?_
      refine thn_ret <| ?_
      refine fin1 ?_
      exact ⟨rfl, he02⟩
    · refine L.va rfl (X.move (by conv => lhs; whnf)) ?_
      refine L.va rfl (X.move (by conv => lhs; whnf)) ?_
      refine L.va rfl (X.len rfl Try.underlying28) ?_
      refine L.va rfl (X.geq rfl rfl) ?_
      refine L.va rfl (X.pickF rfl (by conv => lhs; whnf)) ?_
      refine L.nil ?_
      -- cond
      refine J.dec rfl (fun hdn => ?_) (fun hdn => ?_)
      · have e : s.cdE m k d = -1 := by rw [cdE, if_pos (.inr (.inr hdn))]
        rw [e]
        refine J.seq ?_
        refine J.region ?_
        refine L.va rfl (X.assign (by conv => lhs; whnf)) ?_
        refine L.nil ?_
        -- ret
        refine J.ret ?_
        refine thn_ret <| ?_
        refine fin1 ?_
        exact ⟨rfl, he02⟩
      · obtain ⟨i, rfl⟩ := Int.eq_ofNat_of_zero_le (show 0 ≤ d by omega)
        have hi : i < s.nd := by omega
        have e : s.cdE m k (i : Int) = (coK s.ds m s.nd k).getD i 0 := by
          rw [cdE, if_neg (by omega), coK_at hi]
          rfl
        rw [e]
        refine J.skip ?_
        refine J.seq ?_
        refine J.region ?_
        refine L.va rfl (X.move (by conv => lhs; whnf)) ?_
        refine L.va rfl (X.move (by conv => lhs; whnf)) ?_
        refine L.va rfl ((by first | exact X.index1n rfl rfl Try.underlying28 sz_3 (by first | exact Option.some_ne_none _ | exact own_ne ho (by omega)) (by omega) | exact X.index1 rfl rfl Try.underlying28 sz_3 (by first | exact Option.some_ne_none _ | exact own_ne ho (by omega)) (by omega))) ?_
        refine L.va rfl (X.load rfl sc_3 (by first | exact Ld.own ho (by omega))) ?_
        refine L.va rfl (X.assign (by conv => lhs; whnf)) ?_
        refine L.nil ?_
        -- ret
        refine J.ret ?_
        refine fin1 ?_
        exact ⟨rfl, he02⟩
/-- a key of fewer dimensions, or why there is none -/
def dnE (s : Sch) (a b : Nat) (k : Int) : Int := if s.askE a ≠ 0 then s.askE a else if Mk.sb b a = false then 11 else if kyP s.ds a s.nd ≤ k then 2 else 0
def dnK (s : Sch) (a b : Nat) (k : Int) : Int := if s.dnE a b k = 0 then kyO s.ds b (coK s.ds a s.nd k) s.nd else 0
section
variable {s : Sch} {a b : Nat} {k : Int}
theorem dnE_a (h : s.askE a ≠ 0) : s.dnE a b k = s.askE a ∧ s.dnK a b k = 0 := by
  have e : s.dnE a b k = s.askE a := by rw [dnE, if_pos h]
  exact ⟨e, by rw [dnK, e, if_neg h]⟩
theorem dnE_11 (h : s.askE a = 0) (hs : Mk.sb b a = false) : s.dnE a b k = 11 ∧ s.dnK a b k = 0 := by
  have e : s.dnE a b k = 11 := by rw [dnE, if_neg (fun x => x h), if_pos hs]
  exact ⟨e, by rw [dnK, e, if_neg (by decide)]⟩
theorem dnE_2 (h : s.askE a = 0) (hs : Mk.sb b a = true) (hk : kyP s.ds a s.nd ≤ k) : s.dnE a b k = 2 ∧ s.dnK a b k = 0 := by
  have e : s.dnE a b k = 2 := by rw [dnE, if_neg (fun x => x h), if_neg (by rw [hs]; decide), if_pos hk]
  exact ⟨e, by rw [dnK, e, if_neg (by decide)]⟩
theorem dnE_0 (h : s.askE a = 0) (hs : Mk.sb b a = true) (hk : ¬ kyP s.ds a s.nd ≤ k) : s.dnE a b k = 0 ∧ s.dnK a b k = kyO s.ds b (coK s.ds a s.nd k) s.nd := by
  have e : s.dnE a b k = 0 := by rw [dnE, if_neg (fun x => x h), if_neg (by rw [hs]; decide), if_neg hk]
  exact ⟨e, by rw [dnK, if_pos e]⟩
end
theorem ask_sub {s : Sch} {a b : Nat} (h : s.askE a = 0) (hs : Mk.sb b a = true) : s.askE b = 0 := by
  obtain ⟨hc, hF⟩ := askE_0 h
  have := Mk.sb_le hs
  rw [askE, if_neg (fun k => k hc), if_pos (by omega)]
theorem Here.down {s : Sch} {w : World} (h : s.Here w) {a b : Nat} (ha : a < 4294967296) (hb : b < 4294967296) (k : Int) (hk : 0 ≤ k ∧ k ≤ 18446744073709551615) :
    Calls Try.prog 24 #[s.val, .int .u32 (a : Int), .int .u32 (b : Int), .int .u64 k] w fun e w' => e = .returned (.tuple #[.int .u64 (s.dnK a b k), .int .i64 (s.dnE a b k)]) ∧ Ext w w' := by
  have hle := h.hle
  have ra := @dnE_a s a b k
  have r11 := @dnE_11 s a b k
  have r2 := @dnE_2 s a b k
  have r0 := @dnE_0 s a b k
  have hcon : bits .andNot .u32 (b : Int) (a : Int) = 0 ↔ Mk.sb b a = true := by
    rw [u32_andNot_nat b a hb ha, ← Mk.andNot_zero hb ha]
    omega
  refine enter Try.func24 rfl (by kernel_rfl) ?_
  refine J.seq ?_
  refine J.region ?_
  -- box
  refine L.boxA (l := [_, _, _, _]) rfl rfl ?_
  intro b1 w1 hb1 hs1 hk1 he1
  refine L.va rfl (X.assign (by conv => lhs; whnf)) ?_
  refine L.va rfl (X.assign (by conv => lhs; whnf)) ?_
  refine L.nil ?_
  refine J.seq ?_
  refine J.seq ?_
  refine J.region ?_
  refine L.va rfl ((by first | exact X.loadAgg rfl (range_l hk1) Try.underlying26 rfl (by kernel_rfl) | exact X.loadAgg rfl (range_blk hk1) Try.underlying26 rfl (by kernel_rfl))) ?_
  refine L.va rfl (X.move (by conv => lhs; whnf)) ?_
  -- callfn bushel/key.ask
  refine L.call rfl en_62 rfl ((h.ext he1).ask ha) ?_
  rintro e w2 ⟨rfl, he2⟩
  refine ⟨_, rfl, ?_⟩
  have he2 : Ext w1 w2 := he2
  have he02 := he1.trans he2
  replace hk1 := hk1.ext he2
  refine L.va rfl (X.assign (by conv => lhs; whnf)) ?_
  refine L.nil ?_
  refine J.seq ?_
  refine J.region ?_
  refine L.va rfl (X.move (by conv => lhs; whnf)) ?_
  refine L.va rfl (X.neq rfl rfl) ?_
  refine L.nil ?_
  -- cond
  refine J.ndec rfl (fun hA => ?_) (fun hA => ?_)
  · rw [(ra hA).1, (ra hA).2]
    refine J.seq ?_
    refine J.region ?_
    refine L.va rfl (X.move (by conv => lhs; whnf)) ?_
    refine L.va rfl (X.assign (by conv => lhs; whnf)) ?_
    refine L.va rfl (X.assign (by conv => lhs; whnf)) ?_
    refine L.nil ?_
    -- ret
    refine J.ret ?_
    refine thn_ret <| ?_
    refine fin2 ?_
    exact ⟨rfl, he02⟩
  · have hA0 : s.askE a = 0 := hA
    obtain ⟨hc, hF⟩ := askE_0 hA0
    obtain ⟨g0, g1⟩ := good hc
    refine J.skip ?_
    refine J.seq ?_
    refine J.seq ?_
    refine J.region ?_
    refine L.va rfl (X.move (by conv => lhs; whnf)) ?_
    refine L.va rfl (X.move (by conv => lhs; whnf)) ?_
    refine L.va rfl (X.andNot rfl rfl) ?_
    refine L.va rfl (X.neq rfl rfl) ?_
    refine L.nil ?_
    -- cond
    refine J.ndec rfl (fun hsb => ?_) (fun hsb => ?_)
    · have hs : Mk.sb b a = false := by
        cases hx : Mk.sb b a with
        | false => rfl
        | true => exact absurd (hcon.2 hx) hsb
      rw [(r11 hA0 hs).1, (r11 hA0 hs).2]
      refine J.seq ?_
      refine J.region ?_
      refine L.va rfl (X.assign (by conv => lhs; whnf)) ?_
      refine L.va rfl (X.assign (by conv => lhs; whnf)) ?_
      refine L.nil ?_
      -- ret
      refine J.ret ?_
      refine thn_ret <| ?_
      refine fin2 ?_
      exact ⟨rfl, he02⟩
    · have hs : Mk.sb b a = true := hcon.1 hsb
      have hsub : ∀ i, b.testBit i = true → a.testBit i = true := Mk.sb_iff.1 hs
      refine J.skip ?_
      refine J.seq ?_
      refine J.region ?_
      refine L.va rfl ((by first | exact X.loadAgg rfl (range_l hk1) Try.underlying26 rfl (by kernel_rfl) | exact X.loadAgg rfl (range_blk hk1) Try.underlying26 rfl (by kernel_rfl))) ?_
      refine L.va rfl (X.move (by conv => lhs; whnf)) ?_
      refine L.va rfl (X.move (by conv => lhs; whnf)) ?_
      -- callfn bushel/key.Codes
      refine L.call rfl en_21 rfl ((h.ext he02).codes ha k hk) ?_
      rintro e w3 ⟨A, c, rfl, ho, he3⟩
      refine ⟨_, rfl, ?_⟩
      have he3 : Ext w2 w3 := he3
      have he03 := he02.trans he3
      replace hk1 := hk1.ext he3
      refine L.va rfl (X.move (by conv => lhs; whnf)) ?_
      refine L.va rfl (X.extract rfl rfl) ?_
      refine L.va rfl (X.extract rfl rfl) ?_
      refine L.va rfl (X.assign (by conv => lhs; whnf)) ?_
      refine L.va rfl (X.assign (by conv => lhs; whnf)) ?_
      refine L.nil ?_
      refine J.seq ?_
      refine J.seq ?_
      refine J.region ?_
      refine L.va rfl (X.move (by conv => lhs; whnf)) ?_
      refine L.va rfl (X.neq rfl rfl) ?_
      refine L.nil ?_
      -- cond
      refine J.ndec rfl (fun hE => ?_) (fun hE => ?_)
      · have h2 : kyP s.ds a s.nd ≤ k := by
          apply Decidable.byContradiction
          intro hx
          exact hE (coE_0 hA0 hx).1
        rw [(r2 hA0 hs h2).1, (r2 hA0 hs h2).2, (coE_2 hA0 h2).1]
        refine J.seq ?_
        refine J.region ?_
        refine L.va rfl (X.move (by conv => lhs; whnf)) ?_
        refine L.va rfl (X.assign (by conv => lhs; whnf)) ?_
        refine L.va rfl (X.assign (by conv => lhs; whnf)) ?_
        refine L.nil ?_
        -- ret
        refine J.ret ?_
        refine thn_ret <| ?_
        refine fin2 ?_
        exact ⟨rfl, he03⟩
      · have hE0 : s.coE a k = 0 := hE
        have hlt := (coE_ok hE0).2
        have hL := coL_length hE0
        have hLe : s.coL a k = coK s.ds a s.nd k := by rw [coL, if_pos hE0]
        rw [hL] at ho
        rw [hLe] at ho
        rw [hL, (r0 hA0 hs (by omega)).1, (r0 hA0 hs (by omega)).2]
        have hO := okO_co (m := a) g1 hsub k
        have e0 := ofE_0 (m := b) (nc := s.nd) (cs := coK s.ds a s.nd k) (ask_sub hA0 hs) rfl hO
        have k3 := (h.ext he03).of hb A s.nd c (coK s.ds a s.nd k) (own_reads ho) (by omega)
        rw [e0.1, e0.2] at k3
        refine J.skip ?_
        refine J.seq ?_
        refine J.region ?_
        refine L.va rfl ((by first | exact X.loadAgg rfl (range_l hk1) Try.underlying26 rfl (by kernel_rfl) | exact X.loadAgg rfl (range_blk hk1) Try.underlying26 rfl (by kernel_rfl))) ?_
        refine L.va rfl (X.move (by conv => lhs; whnf)) ?_
        refine L.va rfl (X.move (by conv => lhs; whnf)) ?_
        -- callfn bushel/key.Of
        refine L.call rfl en_16 rfl (k3) ?_
        rintro e w4 ⟨rfl, he4⟩
        refine ⟨_, rfl, ?_⟩
        refine L.va rfl (X.extract rfl rfl) ?_
        refine L.va rfl (X.extract rfl rfl) ?_
        refine L.va rfl (X.assign (by conv => lhs; whnf)) ?_
        refine L.va rfl (X.assign (by conv => lhs; whnf)) ?_
        refine L.nil ?_
        -- ret
        refine J.ret ?_
        refine fin2 ?_
        exact ⟨rfl, he03.trans he4⟩
theorem Here.rcodes {s : Sch} {w : World} (h : s.Here w) (hc : s.code = 0) {m : Nat} (hm : m < 4294967296) (k : Int) (hk : 0 ≤ k ∧ k ≤ 18446744073709551615) :
    Calls Try.prog 26 #[s.val, .int .u32 (m : Int), .int .u64 k] w fun e w' => ∃ A c, e = .returned (.slice A s.nd c) ∧ w'.ownsRow w.heap.size 3 1 (.slice A s.nd c) s.nd (nums .i64 (coK s.ds m s.nd k)) ∧ Ext w w' := by
  have hle := h.hle
  obtain ⟨g0, g1⟩ := good hc
  have hl := h.len
  refine enter Try.func26 rfl (by kernel_rfl) ?_
  refine J.seq ?_
  refine J.region ?_
  -- box
  refine L.boxA (l := [_, _, _, _]) rfl rfl ?_
  intro b1 w1 hb1 hs1 hk1 he1
  refine L.va rfl (X.assign (by conv => lhs; whnf)) ?_
  refine L.nil ?_
  refine J.seq ?_
  refine J.region ?_
  refine L.va rfl (X.assign (by conv => lhs; whnf)) ?_
  refine L.nil ?_
  refine J.seq ?_
  refine J.seq ?_
  refine J.region ?_
  refine L.va rfl (X.assign (by conv => lhs; whnf)) ?_
  refine L.nil ?_
  refine J.block ?_
  -- loop
  refine J.loop (X := Nat × Option Addr × Nat) [7, 8, 9, 10, 11, 12, 13, 14, 15, 16, 17, 18, 19, 20, 21, 22, 23, 24, 25, 26, 27, 28, 29, 30, 31, 32, 33, 34, 35, 36, 37, 38, 39, 40, 41, 42, 43, 44, 45, 46, 47, 48, 49, 50, 51, 52, 53, 54, 55, 56, 57, 58, 59, 60] (fun x => [(8, .int .i64 (x.1 : Int)), (7, .slice x.2.1 x.1 x.2.2)]) (fun x w' => x.1 ≤ s.nd ∧ w'.ownsRow w.heap.size 3 1 (.slice x.2.1 x.1 x.2.2) x.1 (nums .i64 ((coK s.ds m s.nd k).take x.1)) ∧ Blk w' b1 26 #[.slice s.Ad s.nd s.cd, .slice s.A1 s.n1 s.c1, .slice s.A2 s.n2 s.c2, .slice s.Av s.nv s.cv] ∧ Ext w w') (fun x => s.nd - x.1) ((0, none, 0)) (At2 (by first | rfl | exact at_int rfl (by omega) | exact at_slice rfl (by omega) | exact at_int rfl (by simp)) (by first | rfl | exact at_int rfl (by omega) | exact at_slice rfl (by omega) | exact at_int rfl (by simp))) ?_ ?_
  · exact ⟨by dsimp only; omega, own_nilN _ _ _ _, hk1, he1⟩
  · rintro ⟨i, A, c⟩ g w2 ⟨hi, ho2, hk2, he2⟩
    dsimp only at hi ho2
    have q1 : ((i, A, c) : Nat × Option Addr × Nat).1 = i := rfl
    have hd2 := h.hd.ext he2
    have hz2 := he2.le
    refine J.seq ?_
    refine J.seq ?_
    refine J.region ?_
    refine L.va rfl (X.move (by conv => lhs; whnf)) ?_
    refine L.va rfl (X.fieldAddr rfl Try.underlying26 rfl sz_22 (by decide)) ?_
    refine L.va rfl (X.load rfl sc_22 (by first | exact Ld.blk hk2 rfl | exact Ld.rd hd2 (by omega))) ?_
    refine L.va rfl (X.len rfl Try.underlying22) ?_
    refine L.va rfl (X.lss rfl rfl) ?_
    refine L.nil ?_
    -- cond
    refine J.dec rfl (fun hlt => ?_) (fun hlt => ?_)
    · have hil : i < s.nd := by dsimp only at hlt; omega
      have hnb := own_blk_ne ho2 hk2 (by decide)
      have htk : (coK s.ds m s.nd k).take (i + 1) = (coK s.ds m s.nd k).take i ++ [cdK s.ds m s.nd k i] := by
        rw [List.take_add_one]
        congr 1
        have := coK_at (ds := s.ds) (m := m) (k := k) hil
        rw [List.getD] at this
        have hlt2 : i < (coK s.ds m s.nd k).length := by rw [coK_length]; exact hil
        rw [List.getElem?_eq_getElem hlt2] at this ⊢
        simpa using this
      refine J.skip ?_
      refine J.seq ?_
      refine J.block ?_
      refine J.seq ?_
      refine J.seq ?_
      refine J.region ?_
      refine L.va rfl (X.move (by conv => lhs; whnf)) ?_
      refine L.va rfl (X.move (by conv => lhs; whnf)) ?_
      -- callfn bushel/bushelref11.In
      refine L.call rfl en_20 rfl (rin_any m i _ hm (by omega)) ?_
      rintro e _ ⟨rfl, rfl⟩
      refine ⟨_, rfl, ?_⟩
      cases ht : m.testBit i
      · have hcd : cdK s.ds m s.nd k i = -1 := by rw [cdK, ht]; rfl
        rw [hcd] at htk
        refine L.va rfl (X.not rfl) ?_
        refine L.nil ?_
        -- cond
        refine J.iteT rfl ?_
        refine J.seq ?_
        refine J.region ?_
        refine L.va rfl (X.move (by conv => lhs; whnf)) ?_
        -- buildSlice
        refine L.bslice (vs := [_]) rfl (Evs.cons (by conv => lhs; whnf) Evs.nil) rfl rfl rfl rfl Try.underlying28 sz_3 zr_3 (by decide) ?_
        intro b3 w3 hb3 hs3 hk3 he3
        -- append
        have hz3 := he3.le
        refine L.appendQ (q := i + 1) (ys := ((coK s.ds m s.nd k).take i ++ [-1])) rfl rfl rfl Try.underlying28 el_3 (ho2.ext he3) ((blk_reads (q := 1) (l := nums .i64 [-1]) hk3 (by omega : b3 < w3.heap.size) rfl)) (by omega) (by simp) (by unfold maxLen; omega) (by omega) ?_
        intro A4 c4 w4 ho4 hg4 hb4 hor4
        rw [← htk] at ho4
        have he4 : Ext w w4 := (he2.trans he3).low hb4 (Nat.le_refl _)
        have hk4 := (hk2.ext he3).grown hg4 (fun e => hnb e.symm)
        refine L.va rfl (X.assign (by conv => lhs; whnf)) ?_
        refine L.nil ?_
        refine J.exit ?_
        refine J.region ?_
        refine L.va rfl (X.move (by conv => lhs; whnf)) ?_
        refine L.va rfl (X.add rfl rfl (by omega)) ?_
        refine L.va rfl (X.assign (by conv => lhs; whnf)) ?_
        refine L.nil ?_
        -- loopend
        refine ⟨(i + 1, A4, c4), At2 (by first | rfl | exact at_int rfl (by omega) | exact at_slice rfl (by omega) | exact at_int rfl (by simp)) (by first | rfl | exact at_int rfl (by omega) | exact at_slice rfl (by omega) | exact at_int rfl (by simp)), (by (iterate 16 refine Agr.lk rfl ?_); exact Agr.lk rfl (Agr.hav rfl Agr.rfl')), ?_⟩
        exact ⟨⟨by dsimp only; omega, ho4, hk4, he4⟩, by dsimp only; omega⟩
      · have hsD : (s.ds.getD i d0).2 = szD s.ds i := rfl
        have hbd : 1 ≤ szD s.ds i ∧ szD s.ds i ≤ 4096 := szD_bd g1 hil
        refine L.va rfl (X.not rfl) ?_
        refine L.nil ?_
        -- cond
        refine J.iteF rfl ?_
        refine J.skip ?_
        refine J.seq ?_
        refine J.region ?_
        refine L.va rfl (X.assign (by conv => lhs; whnf)) ?_
        refine L.nil ?_
        refine J.seq ?_
        refine J.seq ?_
        refine J.region ?_
        refine L.va rfl (X.move (by conv => lhs; whnf)) ?_
        refine L.va rfl (X.add rfl rfl (by omega)) ?_
        refine L.va rfl (X.assign (by conv => lhs; whnf)) ?_
        refine L.nil ?_
        refine J.block ?_
        -- loop
        -- loop
        refine J.loop (X := Nat × Int) [9, 10, 27, 28, 29, 30, 31, 32, 33, 34, 35, 36, 37, 38, 39, 40, 41, 42, 43, 44, 45] (fun x => [(10, .int .i64 ((i + 1 + x.1 : Nat) : Int)), (9, .int .u64 x.2)]) (fun x w' => w' = w2 ∧ i + 1 + x.1 ≤ s.nd ∧ x.2 = blw s.ds m (i + 1) x.1) (fun x => s.nd - x.1) ((0, 1)) (At2 (by first | rfl | exact at_int rfl (by omega) | exact at_slice rfl (by omega) | exact at_int rfl (by simp)) (by first | rfl | exact at_int rfl (by omega) | exact at_slice rfl (by omega) | exact at_int rfl (by simp))) ?_ ?_
        · exact ⟨rfl, by dsimp only; omega, rfl⟩
        · rintro ⟨d, z⟩ g3 w3 ⟨rfl, hd, hz⟩
          dsimp only at hd hz
          have q3 : ((d, z) : Nat × Int).1 = d := rfl
          have q4 : ((d, z) : Nat × Int).2 = z := rfl
          refine J.seq ?_
          refine J.seq ?_
          refine J.region ?_
          refine L.va rfl (X.move (by conv => lhs; whnf)) ?_
          refine L.va rfl (X.fieldAddr rfl Try.underlying26 rfl sz_22 (by decide)) ?_
          refine L.va rfl (X.load rfl sc_22 (by first | exact Ld.blk hk2 rfl | exact Ld.rd hd2 (by omega))) ?_
          refine L.va rfl (X.len rfl Try.underlying22) ?_
          refine L.va rfl (X.lss rfl rfl) ?_
          refine L.nil ?_
          -- cond
          refine J.dec rfl (fun hlt3 => ?_) (fun hlt3 => ?_)
          · have hdl : i + 1 + d < s.nd := by dsimp only at hlt3; omega
            have hbd3 : 1 ≤ szD s.ds (i + 1 + d) ∧ szD s.ds (i + 1 + d) ≤ 4096 := szD_bd g1 hdl
            have hp0 := blw_pos (m := m) g1 (i + 1) d (by omega)
            have hp1 := blw_pos (m := m) g1 (i + 1) (d + 1) (by omega)
            have hp2 := blw_le (m := m) g1 (i + 1) (d + 1) (by omega)
            have hnx : blw s.ds m (i + 1) (d + 1) = if m.testBit (i + 1 + d) then blw s.ds m (i + 1) d * szD s.ds (i + 1 + d) else blw s.ds m (i + 1) d := rfl
            rw [← hz] at hnx
            refine J.skip ?_
            refine J.seq ?_
            refine J.block ?_
            refine J.seq ?_
            refine J.region ?_
            refine L.va rfl (X.move (by conv => lhs; whnf)) ?_
            refine L.va rfl (X.move (by conv => lhs; whnf)) ?_
            -- callfn bushel/bushelref11.In
            refine L.call rfl en_20 rfl (rin_any m (i + 1 + d) _ hm (by omega)) ?_
            rintro e _ ⟨rfl, rfl⟩
            refine ⟨_, rfl, ?_⟩
            cases ht3 : m.testBit (i + 1 + d)
            · rw [ht3] at hnx
              refine L.nil ?_
              -- cond
              refine J.iteF rfl ?_
              refine J.skip ?_
              refine J.region ?_
              refine L.va rfl (X.move (by conv => lhs; whnf)) ?_
              refine L.va rfl (X.add rfl rfl (by omega)) ?_
              refine L.va rfl (X.assign (by conv => lhs; whnf)) ?_
              refine L.nil ?_
              -- loopend
              refine ⟨(d + 1, z), At2 (by first | rfl | exact at_int rfl (by omega) | exact at_slice rfl (by omega) | exact at_int rfl (by simp)) (by first | rfl | exact at_int rfl (by omega) | exact at_slice rfl (by omega) | exact at_int rfl (by simp)), (by (iterate 11 refine Agr.lk rfl ?_); exact Agr.lk rfl (Agr.hav rfl Agr.rfl')), ?_⟩
              exact ⟨⟨rfl, by dsimp only; omega, hnx.symm⟩, by dsimp only; omega⟩
            · rw [ht3, if_pos rfl] at hnx
              rw [hnx] at hp1 hp2
              refine L.nil ?_
              -- cond
              refine J.iteT rfl ?_
              have hld := Ld.dimN hd2 hdl
              have hsz : (s.ds.getD (i + 1 + d) d0).2 = szD s.ds (i + 1 + d) := rfl
              rw [hsz] at hld
              generalize szD s.ds (i + 1 + d) = dv at *
              have m1 : 1 ≤ ((d, z) : Nat × Int).2 * dv ∧ ((d, z) : Nat × Int).2 * dv ≤ 1099511627776 := ⟨hp1, hp2⟩
              -- t43
              refine J.region ?_
              refine L.va rfl (X.move (by conv => lhs; whnf)) ?_
              refine L.va rfl (X.fieldAddr rfl Try.underlying26 rfl sz_22 (by decide)) ?_
              refine L.va rfl (X.load rfl sc_22 (by first | exact Ld.blk hk2 rfl | exact Ld.rd hd2 (by omega))) ?_
              refine L.va rfl (X.move (by conv => lhs; whnf)) ?_
              refine L.va rfl ((by first | exact X.indexAddrn rfl rfl Try.underlying22 sz_40 (by first | exact Option.some_ne_none _ | exact hd2.some_ (by omega)) (by omega) | exact X.indexAddr rfl rfl Try.underlying22 sz_40 (by first | exact Option.some_ne_none _ | exact hd2.some_ (by omega)) (by omega))) ?_
              refine L.va rfl (X.fieldP rfl Try.underlying40 rfl sz_3 (by decide) (by first | exact Option.some_ne_none _ | exact hd2.some_ (by omega))) ?_
              refine L.va rfl (X.load rfl sc_3 hld) ?_
              refine L.va rfl ((by first | exact X.convU rfl is_3 Try.underlying31 (by omega) | exact X.convw rfl is_3 Try.underlying31)) ?_
              refine L.va rfl (X.mulU rfl rfl (by omega)) ?_
              refine L.va rfl (X.assign (by conv => lhs; whnf)) ?_
              refine L.nil ?_
              refine J.region ?_
              refine L.va rfl (X.move (by conv => lhs; whnf)) ?_
              refine L.va rfl (X.add rfl rfl (by omega)) ?_
              refine L.va rfl (X.assign (by conv => lhs; whnf)) ?_
              refine L.nil ?_
              -- loopend
              refine ⟨(d + 1, z * dv), At2 (by first | rfl | exact at_int rfl (by omega) | exact at_slice rfl (by omega) | exact at_int rfl (by simp)) (by first | rfl | exact at_int rfl (by omega) | exact at_slice rfl (by omega) | exact at_int rfl (by simp)), (by (iterate 21 refine Agr.lk rfl ?_); exact Agr.lk rfl (Agr.hav rfl Agr.rfl')), ?_⟩
              exact ⟨⟨rfl, by dsimp only; omega, hnx.symm⟩, by dsimp only; omega⟩
          · have hdn : d = s.nd - (i + 1) := by dsimp only at hlt3; omega
            have hp0 := blw_pos (m := m) g1 (i + 1) d (by omega)
            have hcd : cdK s.ds m s.nd k i = k / z % szD s.ds i := by rw [cdK, if_pos ht, hz, ← hdn]
            rw [← hz] at hp0
            have hdi := div_le' hk.1 (show 0 < z by omega)
            have hr0 : 0 ≤ k / z % szD s.ds i ∧ k / z % szD s.ds i < szD s.ds i := ⟨Int.emod_nonneg _ (by omega), Int.emod_lt_of_pos _ (by omega)⟩
            have hAn : s.Ad ≠ none := hd2.some_ (by omega)
            have hdi' : 0 ≤ k / ((d, z) : Nat × Int).2 ∧ k / ((d, z) : Nat × Int).2 ≤ k := hdi
            have hr0' : 0 ≤ k / ((d, z) : Nat × Int).2 % szD s.ds i ∧ k / ((d, z) : Nat × Int).2 % szD s.ds i < szD s.ds i := hr0
            have hwr' : k / ((d, z) : Nat × Int).2 % szD s.ds i = cdK s.ds m s.nd k i := hcd.symm
            have hnb' : some b1 ≠ Value.ownBlock (.slice A i c) := fun e => hnb e.symm
            refine J.exit ?_
            -- draw
            refine J.draw (S := (fun w' => Below w.heap.size w3 w' ∧ Blk w' b1 26 #[.slice s.Ad s.nd s.cd, .slice s.A1 s.n1 s.c1, .slice s.A2 s.n2 s.c2, .slice s.Av s.nv s.cv])) mixed (fun w4 hSE hS_h => ?_)
            have hS : ((fun w' => Below w.heap.size w3 w' ∧ Blk w' b1 26 #[.slice s.Ad s.nd s.cd, .slice s.A1 s.n1 s.c1, .slice s.A2 s.n2 s.c2, .slice s.Av s.nv s.cv])) w4 := ⟨hSE.mono hz2, hk2.ext hSE⟩
            -- t51
            -- t55
            refine D.va 0 rfl (by kernel_rfl) (fun _ _ _ h => h) rfl (fun w' hw => X.move (by conv => lhs; whnf)) hS ?_
            refine D.va 1 rfl (by kernel_rfl) (fun _ _ _ h => h) rfl (fun w' hw => X.move (by conv => lhs; whnf)) hS ?_
            refine D.va 2 rfl (by kernel_rfl) (fun _ _ _ h => h) rfl (fun w' hw => X.move (by conv => lhs; whnf)) hS ?_
            refine D.va 3 rfl (by kernel_rfl) (fun _ _ _ h => h) rfl (fun w' hw => X.quoU rfl rfl (by omega)) hS ?_
            refine D.va 4 rfl (by kernel_rfl) (fun _ _ _ h => h) rfl (fun w' hw => X.fieldAddr rfl Try.underlying26 rfl sz_22 (by decide)) hS ?_
            refine D.va 5 rfl (by kernel_rfl) (fun _ _ _ h => h) rfl (fun w' hw => X.load rfl sc_22 (Ld.blk hw.2 rfl)) hS ?_
            refine D.va 6 rfl (by kernel_rfl) (fun _ _ _ h => h) rfl (fun w' hw => X.move (by conv => lhs; whnf)) hS ?_
            refine D.va 7 rfl (by kernel_rfl) (fun _ _ _ h => h) rfl (fun w' hw => (by first | exact X.indexAddrn rfl rfl Try.underlying22 sz_40 (by first | exact Option.some_ne_none _ | exact hAn) (by omega) | exact X.indexAddr rfl rfl Try.underlying22 sz_40 (by first | exact Option.some_ne_none _ | exact hAn) (by omega))) hS ?_
            refine D.va 8 rfl (by kernel_rfl) (fun _ _ _ h => h) rfl (fun w' hw => X.fieldP rfl Try.underlying40 rfl sz_3 (by decide) (by first | exact Option.some_ne_none _ | exact hAn)) hS ?_
            refine D.va 9 rfl (by kernel_rfl) (fun _ _ _ h => h) rfl (fun w' hw => X.load rfl sc_3 (show Ld w' (pA s.Ad (i * 2 + 1)) (.int .i64 (szD s.ds i)) from Ld.dimN (hd2.low hw.1 (Nat.le_refl _)) hil)) hS ?_
            refine D.va 10 rfl (by kernel_rfl) (fun _ _ _ h => h) rfl (fun w' hw => (by first | exact X.convU rfl is_3 Try.underlying31 (by omega) | exact X.convw rfl is_3 Try.underlying31)) hS ?_
            refine D.va 11 rfl (by kernel_rfl) (fun _ _ _ h => h) rfl (fun w' hw => X.rem rfl rfl (by omega)) hS ?_
            refine D.va 12 rfl (by kernel_rfl) (fun _ _ _ h => h) rfl (fun w' hw => (by first | exact X.convI rfl is_31 Try.underlying3 (by omega) | exact X.convw rfl is_31 Try.underlying3)) hS ?_
            -- buildSlice
            rw [hwr']
            refine D.one 13 (by kernel_rfl) rfl ?_
            refine L.bslice (vs := [_]) rfl (Evs.cons (by conv => lhs; whnf) Evs.nil) rfl rfl rfl rfl Try.underlying28 sz_3 zr_3 (by decide) ?_
            intro b5 w5 hb5 hs5 hk5 he5
            have hS1 := And.intro (Below.trans hS.1 (he5.mono (Nat.le_trans hz2 (Below.size hS.1)))) (hS.2.ext he5)
            refine L.nil ?_
            refine ⟨hS1, ?_⟩
            have hz4 := Below.size hS1.1
            -- append
            refine D.one 14 (by kernel_rfl) rfl ?_
            refine L.appendQ (q := i + 1) (ys := ((coK s.ds m s.nd k).take i ++ [cdK s.ds m s.nd k i])) rfl rfl rfl Try.underlying28 el_3 ((ho2.ext hSE).ext he5) ((blk_reads (q := 1) (l := nums .i64 [cdK s.ds m s.nd k i]) hk5 (by omega : b5 < w5.heap.size) rfl)) (by omega) (by simp) (by unfold maxLen; omega) (by omega) ?_
            intro A6 c6 w6 ho6 hg6 hb6 hor6
            have hS2 := And.intro (Below.trans hS1.1 hb6) (hS1.2.grown hg6 hnb')
            refine L.nil ?_
            refine ⟨hS2, ?_⟩
            rw [← htk] at ho6
            have he6 : Ext w w6 := (he2.trans (hSE.trans he5)).low hb6 (Nat.le_refl _)
            refine D.va 15 rfl (by kernel_rfl) (fun _ _ _ h => h) rfl (fun w' hw => X.assign (by conv => lhs; whnf)) hS2 ?_
            refine D.done (by kernel_rfl) ?_
            refine J.region ?_
            refine L.va rfl (X.move (by conv => lhs; whnf)) ?_
            refine L.va rfl (X.add rfl rfl (by omega)) ?_
            refine L.va rfl (X.assign (by conv => lhs; whnf)) ?_
            refine L.nil ?_
            -- loopend
            refine ⟨(i + 1, A6, c6), At2 (by first | rfl | exact at_int rfl (by omega) | exact at_slice rfl (by omega) | exact at_int rfl (by simp)) (by first | rfl | exact at_int rfl (by omega) | exact at_slice rfl (by omega) | exact at_int rfl (by simp)), (by (iterate 24 refine Agr.lk rfl ?_); refine Agr.lk rfl ?_; refine Agr.hav rfl ?_; (iterate 13 refine Agr.lk rfl ?_); exact Agr.lk rfl (Agr.hav rfl Agr.rfl')), ?_⟩
            exact ⟨⟨by dsimp only; omega, ho6, hS2.2, he6⟩, by dsimp only; omega⟩
    · obtain rfl : i = s.nd := by dsimp only at hlt; omega
      rw [List.take_of_length_le (by rw [coK_length]; exact Nat.le_refl _)] at ho2
      refine J.exit ?_
      refine J.seq ?_
      refine J.region ?_
      refine L.va rfl (X.move (by conv => lhs; whnf)) ?_
      refine L.va rfl (X.assign (by conv => lhs; whnf)) ?_
      refine L.nil ?_
      -- ret
      refine J.ret ?_
      refine fin1 ?_
      exact ⟨A, c, rfl, ho2, he2⟩
end Sch
end Go.Proofs.Ytmiieppcoknmfaa
