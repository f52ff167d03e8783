/-
  Package buf: texts read and laid; the references' reader of texts.
-/
import Derived.Test.YtlohbkcedpkjaaaWBufP
import Derived.Test.YtlohbkcedpkjaaaWRdP
namespace Go.Proofs.Ytlohbkcedpkjaaa
set_option maxRecDepth 100000
open Go.RowKit H
open Byts Cod
set_option linter.unusedVariables false
namespace InB
variable {w w' : World} {b : Nat} {A : Option Addr} {n c : Nat} {zs : List Int} {s : RS}
theorem T1 {most : Int} {u : ByteArray} {mb : Nat} (hmb : Blk w mb 3 #[.int .i64 most]) : Calls Try.prog 127 #[.string u, .pointer (some ⟨mb, 0, none⟩)] w fun e w' => e = .returned (.int .i64 (if max most 0 < (u.size : Int) then 4 else 0)) ∧ w = w' := by
  refine enter Try.func127 rfl (by kernel_rfl) ?_
  -- t7
  refine J.seq ?_
  refine J.region ?_
  refine L.va rfl (X.assign (by conv => lhs; whnf)) ?_
  refine L.nil ?_
  refine J.seq ?_
  refine J.seq ?_
  refine J.region ?_
  refine L.va rfl (X.move (by conv => lhs; whnf)) ?_
  refine L.va rfl (X.lens rfl Try.underlying9) ?_
  refine L.va rfl (X.load rfl sc_3 (by first | exact Ld.blk hmb rfl)) ?_
  refine L.va rfl (X.max2 rfl rfl) ?_
  refine L.va rfl (X.gtr rfl rfl) ?_
  refine L.nil ?_
  -- cond
  refine J.dec rfl (fun h => ?_) (fun h => ?_)
  · refine J.seq ?_
    refine J.region ?_
    refine L.va rfl (X.assign (by conv => lhs; whnf)) ?_
    refine L.nil ?_
    -- ret
    refine J.ret ?_
    refine thn_ret <| ?_
    refine fin1 ?_
    exact ⟨by rw [if_pos h]; rfl, rfl⟩
  · refine J.skip ?_
    refine J.seq ?_
    refine J.region ?_
    refine L.va rfl (X.assign (by conv => lhs; whnf)) ?_
    refine L.nil ?_
    -- ret
    refine J.ret ?_
    refine fin1 ?_
    exact ⟨by rw [if_neg h]; rfl, rfl⟩
theorem readT (h : InB w b A n c zs s) {most : Int} {mb : Nat} (hmb : Blk w mb 3 #[.int .i64 most]) (h0 : 0 ≤ most) :
    Calls Try.prog 125 #[.pointer (some ⟨b, 0, none⟩), .func (.func 126) #[] #[], .func (.func 127) #[] #[.pointer (some ⟨mb, 0, none⟩)]] w fun e w' => e = .returned (.string (strOfNums (rdT zs most s).1)) ∧ InB w' b A n c zs (rdT zs most s).2 ∧ Chg (· = b) w w' := by
  have hl := h.hl
  have hf := h.hf
  refine enter Try.func125 rfl (by kernel_rfl) ?_
  refine J.seq ?_
  refine J.region ?_
  refine L.va rfl (X.assign (by conv => lhs; whnf)) ?_
  refine L.nil ?_
  refine J.seq ?_
  refine J.region ?_
  refine L.va rfl (X.assign (by conv => lhs; whnf)) ?_
  refine L.nil ?_
  refine J.seq ?_
  refine J.seq ?_
  refine J.region ?_
  refine L.va rfl (X.move (by conv => lhs; whnf)) ?_
  -- callfn (*bushel/buf.In).fine
  refine L.call rfl en_128 rfl (h.fine) ?_
  rintro e _ ⟨rfl, rfl⟩
  refine ⟨_, rfl, ?_⟩
  refine L.va rfl (X.not rfl) ?_
  refine L.nil ?_
  -- cond
  refine J.ite rfl (fun hs => ?_) (fun hs => ?_)
  · have hs : s.2 ≠ 0 := by simpa using hs
    have e : rdT zs most s = ([], s) := by unfold rdT; rw [if_pos hs]
    rw [e]
    refine J.seq ?_
    refine J.region ?_
    refine L.va rfl (X.move (by conv => lhs; whnf)) ?_
    refine L.va rfl (X.assign (by conv => lhs; whnf)) ?_
    refine L.nil ?_
    -- ret
    refine J.ret ?_
    refine thn_ret <| ?_
    refine fin1 ?_
    exact ⟨rfl, h, .of_ext (.refl _)⟩
  · have hs : s.2 = 0 := by simpa using hs
    have hm0 := h.hm
    have hf1 := hf.1
    have hzd : ∀ z ∈ zs.drop s.1, 0 ≤ z ∧ z < 256 := fun z hz => h.hz z (List.mem_of_mem_drop hz)
    have hgl := gt_le (zs.drop s.1)
    rw [List.length_drop, hl] at hgl
    obtain ⟨g, hg⟩ : ∃ g, gt (zs.drop s.1) = g := ⟨_, rfl⟩
    have e : rdT zs most s = if g.2.2 ≠ 0 then ([], (s.1, g.2.2)) else if most < (g.1.length : Int) then ([], (s.1, 4)) else (g.1, (s.1 + g.2.1, 0)) := by unfold rdT; rw [if_neg (fun hh => hh hs), hg]
    rw [hg] at hgl
    have hgz : ∀ z ∈ g.1, 0 ≤ z ∧ z < 256 := fun z hz => by
      rcases hgl.2.2.1 z hz with h1 | h1
      · exact hzd z h1
      · omega
    have hsz : (strOfNums g.1).size = g.1.length := by rw [← tz_length, tz_str hgz]
    refine J.skip ?_
    refine J.seq ?_
    refine J.region ?_
    refine L.va rfl (X.move (by conv => lhs; whnf)) ?_
    refine L.va rfl (X.move (by conv => lhs; whnf)) ?_
    -- callfn (*bushel/buf.In).rest
    refine L.call rfl en_149 rfl (h.rest) ?_
    rintro e w1 ⟨A1, c1, rfl, hr1, hc1, he1⟩
    refine ⟨_, rfl, ?_⟩
    have h1 := h.ext he1
    have kU := code_GetT A1 (n - s.1) c1 (zs.drop s.1) w1 ((hr1.ext he1).more he1.le) hzd (by have := h.hm; omega)
    rw [hg] at kU
    -- callval
    refine L.callV rfl en_126 rfl rfl (kU) ?_
    rintro e w2 ⟨rfl, he2⟩
    refine ⟨_, rfl, ?_⟩
    have he12 := he1.trans he2
    have h2 := h.ext he12
    have hmb2 := hmb.ext he12
    refine L.va rfl (X.move (by conv => lhs; whnf)) ?_
    refine L.va rfl (X.extract rfl rfl) ?_
    refine L.va rfl (X.extract rfl rfl) ?_
    refine L.va rfl (X.extract rfl rfl) ?_
    refine L.va rfl (X.assign (by conv => lhs; whnf)) ?_
    refine L.va rfl (X.assign (by conv => lhs; whnf)) ?_
    refine L.va rfl (X.assign (by conv => lhs; whnf)) ?_
    refine L.nil ?_
    refine J.seq ?_
    refine J.seq ?_
    refine J.region ?_
    refine L.va rfl (X.move (by conv => lhs; whnf)) ?_
    refine L.va rfl (X.eql rfl rfl) ?_
    refine L.nil ?_
    -- cond
    refine J.dec rfl (fun he => ?_) (fun he => ?_)
    · rw [if_neg (fun hh => hh he)] at e
      refine J.region ?_
      refine L.va rfl (X.move (by conv => lhs; whnf)) ?_
      refine L.va rfl (X.move (by conv => lhs; whnf)) ?_
      -- callval
      refine L.callC rfl en_127 rfl rfl (T1 hmb2) ?_
      rintro e _ ⟨rfl, rfl⟩
      refine ⟨_, rfl, ?_⟩
      by_cases hm : most < (g.1.length : Int)
      · rw [if_pos hm] at e
        rw [hsz, if_pos (by omega), e]
        refine L.va rfl (X.assign (by conv => lhs; whnf)) ?_
        refine L.nil ?_
        refine J.seq ?_
        refine J.seq ?_
        refine J.region ?_
        refine L.va rfl (X.move (by conv => lhs; whnf)) ?_
        refine L.va rfl (X.neq rfl rfl) ?_
        refine L.nil ?_
        -- cond
        refine J.ndecT rfl (by decide) ?_
        refine J.seq ?_
        refine J.region ?_
        refine L.va rfl (X.move (by conv => lhs; whnf)) ?_
        refine L.va rfl (X.move (by conv => lhs; whnf)) ?_
        -- callfn (*bushel/buf.In).fail
        refine L.call rfl en_150 rfl (h2.fail 4 (by decide)) ?_
        rintro e w3 ⟨rfl, h3, hc3⟩
        refine ⟨_, rfl, ?_⟩
        refine L.nil ?_
        refine J.seq ?_
        refine J.region ?_
        refine L.va rfl (X.move (by conv => lhs; whnf)) ?_
        refine L.va rfl (X.assign (by conv => lhs; whnf)) ?_
        refine L.nil ?_
        -- ret
        refine J.ret ?_
        refine thn_ret <| ?_
        refine fin1 ?_
        exact ⟨rfl, h3, (Chg.of_ext he12).trans hc3 (fun _ _ => id)⟩
      · rw [if_neg hm] at e
        rw [hsz, if_neg (by omega), e]
        have hb1 := h2.hk
        refine L.va rfl (X.assign (by conv => lhs; whnf)) ?_
        refine L.nil ?_
        refine J.seq ?_
        refine J.seq ?_
        refine J.region ?_
        refine L.va rfl (X.move (by conv => lhs; whnf)) ?_
        refine L.va rfl (X.neq rfl rfl) ?_
        refine L.nil ?_
        -- cond
        refine J.ndecF rfl (by decide) ?_
        refine J.skip ?_
        refine J.seq ?_
        refine J.region ?_
        refine L.va rfl (X.move (by conv => lhs; whnf)) ?_
        refine L.va rfl (X.nilCheck rfl) ?_
        refine L.va rfl (X.fieldAddr rfl Try.underlying163 rfl sz_3 (by decide)) ?_
        refine L.va rfl (X.load rfl sc_3 (by first | exact Ld.blk hb1 rfl)) ?_
        refine L.va rfl (X.move (by conv => lhs; whnf)) ?_
        refine L.va rfl (X.add rfl rfl (by omega)) ?_
        refine L.va rfl (X.nilCheck rfl) ?_
        refine L.va rfl (X.fieldAddr rfl Try.underlying163 rfl sz_3 (by decide)) ?_
        -- store
        refine L.store rfl rfl (by conv => lhs; whnf) rfl sz_3 (hb1) (by first | decide | exact Nat.le_of_ble_eq_true rfl) ?_
        intro w3 hb2 hg2 hs2
        refine L.nil ?_
        refine J.seq ?_
        refine J.region ?_
        refine L.va rfl (X.move (by conv => lhs; whnf)) ?_
        refine L.va rfl (X.assign (by conv => lhs; whnf)) ?_
        refine L.nil ?_
        -- ret
        refine J.ret ?_
        refine fin1 ?_
        have := h2.put (s' := (s.1 + g.2.1, s.2)) hg2 hb2 ⟨by dsimp only; omega, by rw [hs]; decide⟩
        rw [hs] at this
        exact ⟨rfl, this.1, (Chg.of_ext he12).trans this.2 (fun _ _ => id)⟩
    · rw [if_pos he] at e
      rw [e]
      refine J.skip ?_
      refine J.seq ?_
      refine J.seq ?_
      refine J.region ?_
      refine L.va rfl (X.move (by conv => lhs; whnf)) ?_
      refine L.va rfl (X.neq rfl rfl) ?_
      refine L.nil ?_
      -- cond
      refine J.ndecT rfl (by exact he) ?_
      refine J.seq ?_
      refine J.region ?_
      refine L.va rfl (X.move (by conv => lhs; whnf)) ?_
      refine L.va rfl (X.move (by conv => lhs; whnf)) ?_
      -- callfn (*bushel/buf.In).fail
      refine L.call rfl en_150 rfl (h2.fail g.2.2 (by omega)) ?_
      rintro e w3 ⟨rfl, h3, hc3⟩
      refine ⟨_, rfl, ?_⟩
      refine L.nil ?_
      refine J.seq ?_
      refine J.region ?_
      refine L.va rfl (X.move (by conv => lhs; whnf)) ?_
      refine L.va rfl (X.assign (by conv => lhs; whnf)) ?_
      refine L.nil ?_
      -- ret
      refine J.ret ?_
      refine thn_ret <| ?_
      refine fin1 ?_
      exact ⟨rfl, h3, (Chg.of_ext he12).trans hc3 (fun _ _ => id)⟩
theorem T (h : InB w b A n c zs s) (most : Int) (h0 : 0 ≤ most) : Calls Try.prog 79 #[.pointer (some ⟨b, 0, none⟩), .int .i64 most] w fun e w' => e = .returned (.string (strOfNums (rdT zs most s).1)) ∧ InB w' b A n c zs (rdT zs most s).2 ∧ Chg (· = b) w w' := by
  refine enter Try.func79 rfl (by kernel_rfl) ?_
  refine J.seq ?_
  refine J.region ?_
  -- box
  refine L.box rfl (by conv => lhs; whnf) ?_
  intro b1 w1 hb1 hs1 hk1 he1
  refine L.va rfl (X.assign (by conv => lhs; whnf)) ?_
  refine L.nil ?_
  refine J.seq ?_
  refine J.region ?_
  refine L.va rfl (X.move (by conv => lhs; whnf)) ?_
  refine L.va rfl (X.makeFn rfl) ?_
  -- callfn bushel/buf.read[string]
  refine L.call rfl en_125 rfl ((h.ext he1).readT hk1 h0) ?_
  rintro e w2 ⟨rfl, h2, hc2⟩
  refine ⟨_, rfl, ?_⟩
  refine L.va rfl (X.assign (by conv => lhs; whnf)) ?_
  refine L.nil ?_
  -- ret
  refine J.ret ?_
  refine fin1 ?_
  exact ⟨rfl, h2, (Chg.of_ext he1).trans hc2 (fun _ _ => id)⟩
end InB
namespace OutB
variable {B : Nat} {E0 : Nat → Prop} {w w' : World} {b : Nat} {A : Option Addr} {n c : Nat} {zs : List Int}
theorem T (h : OutB B E0 w b A n c zs) (u : ByteArray) (hu : u.size ≤ 1000000) (hm : n ≤ 10000000) :
    Calls Try.prog 92 #[.pointer (some ⟨b, 0, none⟩), .string u] w fun e w' => e = .returned (.tuple #[]) ∧ (∃ A' c', OutB B E0 w' b A' (n + (ct (tz u)).length) c' (zs ++ ct (tz u))) ∧ Chg (fun g => B ≤ g ∧ ¬ E0 g) w w' := by
  have hcl := ct_length (tz u)
  rw [tz_length] at hcl
  refine enter Try.func92 rfl (by kernel_rfl) ?_
  refine J.region ?_
  refine L.va rfl (X.move (by conv => lhs; whnf)) ?_
  refine L.va rfl (X.move (by conv => lhs; whnf)) ?_
  -- callfn bushel/code.T
  refine L.call rfl en_133 rfl (code_T u w hu) ?_
  rintro e w1 ⟨A1, c1, rfl, ho1, he1⟩
  refine ⟨_, rfl, ?_⟩
  -- callfn (*bushel/buf.Out).lay
  refine L.call rfl en_131 rfl ((h.ext he1).lay (own_reads ho1) (by omega)) ?_
  rintro e w2 ⟨rfl, h2, hc2⟩
  refine ⟨_, rfl, ?_⟩
  refine L.nil ?_
  -- end
  refine fin0 (.inr rfl) ?_
  exact ⟨rfl, h2, (Chg.of_ext he1).trans hc2 (fun _ _ => id)⟩
end OutB
namespace RdB
variable {w w' : World} {b : Nat} {A : Option Addr} {n c : Nat} {zs : List Int} {s : RS}
theorem rT (h : RdB w b A n c zs s) (most : Int) (h0 : 0 ≤ most) : Calls Try.prog 83 #[.pointer (some ⟨b, 0, none⟩), .int .i64 most] w fun e w' => e = .returned (.string (strOfNums (rdT zs most s).1)) ∧ RdB w' b A n c zs (rdT zs most s).2 ∧ Chg (· = b) w w' := by
  have e := rdT_a zs most h0 s
  refine enter Try.func83 rfl (by kernel_rfl) ?_
  -- t7
  refine J.seq ?_
  refine J.region ?_
  refine L.va rfl (X.assign (by conv => lhs; whnf)) ?_
  refine L.nil ?_
  refine J.seq ?_
  refine J.region ?_
  refine L.va rfl (X.move (by conv => lhs; whnf)) ?_
  refine L.va rfl (X.move (by conv => lhs; whnf)) ?_
  refine L.va rfl (X.build (l := [.int .i64 3, .int .u64 0, .int .i64 0, .float .f64 0, .string ⟨#[]⟩, .int .i64 most]) (Evs.cons rfl (Evs.cons rfl Evs.nil)) (bld_run Try.underlying175 (bp_175 Try.underlying175) zr_175 rfl)) ?_
  -- callfn (*bushel/bushelref11.Reader).Ask
  by_cases hs : s.2 = 0
  · rw [if_neg (fun hh => hh hs)] at e
    rw [e]
    refine L.call rfl en_130 rfl (h.ask_any hs _ _ _ _ _ _ _ _ _ _ (aT_fit h.hz h0 h.hf hs) rfl (fun w1 he => read08_T _ _ _ (zs.drop s.1) w1 most _ _ _ _ (by have := ((h.hr.more (Nat.le_of_lt h.hk.lt)).ext he).cut (k := s.1) (cap := c) (by have := h.hf.1; have := h.hl; omega) h.hnc; simpa [nums] using (this.more he.le)) (fun z hz => h.hz z (List.mem_of_mem_drop hz)) (by have := h.hm; omega) (by have := h.hnc; omega))) ?_
    rintro e w1 ⟨rfl, h1, hc1⟩
    refine ⟨_, rfl, ?_⟩
    refine L.va rfl (X.fieldV rfl Try.underlying172 rfl sc_9 rfl) ?_
    refine L.va rfl (X.assign (by conv => lhs; whnf)) ?_
    refine L.nil ?_
    -- ret
    refine J.ret ?_
    refine fin1 ?_
    exact ⟨rfl, h1, hc1⟩
  · rw [if_pos hs] at e
    rw [e]
    refine L.call rfl en_130 rfl (h.ask_bad hs _ _ _ _ _ _) ?_
    rintro e w1 ⟨rfl, he1⟩
    refine ⟨_, rfl, ?_⟩
    refine L.va rfl (X.fieldV rfl Try.underlying172 rfl sc_9 rfl) ?_
    refine L.va rfl (X.assign (by conv => lhs; whnf)) ?_
    refine L.nil ?_
    -- ret
    refine J.ret ?_
    refine fin1 ?_
    exact ⟨rfl, h.ext he1, .of_ext he1⟩
end RdB
end Go.Proofs.Ytlohbkcedpkjaaa
