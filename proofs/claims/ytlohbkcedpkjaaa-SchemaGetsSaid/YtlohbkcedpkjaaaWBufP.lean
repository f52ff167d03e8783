import Derived.Test.YtlohbkcedpkjaaaTextP
import Derived.Test.YtlohbkcedpkjaaaLogic
import Derived.Test.YtlohbkcedpkjaaaWCodeN
/-
  Package buf: a reader.
-/
namespace Go.Proofs.Ytlohbkcedpkjaaa
set_option maxRecDepth 100000
open Go.RowKit H
open Byts Cod
set_option linter.unusedVariables false
theorem own_blkne {w : World} {N e sz n g t : Nat} {x : Value} {xs : List Value} {cs : Array Value} (ho : w.ownsRow N e sz x n xs) (hb : Blk w g t cs) (hne : e ≠ t) : x.ownBlock ≠ some g := by
  intro h
  rcases ho.2 with ⟨rfl, _⟩ | ⟨b, cap, cur, rfl, _, hh, _⟩
  · cases h
  · have : b = g := by injection h
    subst this
    have e1 : some (Obj.cells cur e (0, 0)) = some (Obj.cells cs t (0, 0)) := hh.symm.trans hb
    injection e1 with e1
    injection e1 with _ e2 _
    exact hne e2
theorem Blk.chg {w w' : World} {g t b : Nat} {cs : Array Value} (h : Blk w g t cs) (hc : Chg (· = b) w w') (hne : g ≠ b) : Blk w' g t cs := hc.blk h hne
theorem Chg.new {S : Nat → Prop} {w1 w2 w3 : World} {r : Option Nat} (h : Chg S w1 w2) (hg : w2.grownBy w3 r) (hr : ∀ g, r = some g → w1.heap.size ≤ g) : Chg S w1 w3 :=
  h.trans (S' := fun g => w1.heap.size ≤ g) (.of_grown hg hr) (fun g h1 h2 => absurd h1 (by omega))
theorem own_apart {w : World} {b1 b2 e1 e2 s1 s2 n1 n2 g : Nat} {v1 v2 : Value} {x1 x2 : List Value} (h1 : w.ownsRow b1 e1 s1 v1 n1 x1) (h2 : w.ownsRow b2 e2 s2 v2 n2 x2) (hne : e1 ≠ e2) (hg : v1.ownBlock = some g) : v2.ownBlock ≠ some g := by
  intro hg2
  rcases h1.2 with ⟨rfl, _⟩ | ⟨b, cap, cur, rfl, _, hh, _⟩
  · cases hg
  · rcases h2.2 with ⟨rfl, _⟩ | ⟨b', cap', cur', rfl, _, hh', _⟩
    · cases hg2
    · have a1 : b = g := by injection hg
      have a2 : b' = g := by injection hg2
      subst a1
      subst a2
      have e := hh.symm.trans hh'
      injection e with e
      injection e with _ e _
      exact hne e
/-- a reader: its block; the bytes; the place and the fault -/
structure InB (w : World) (b : Nat) (A : Option Addr) (n c : Nat) (zs : List Int) (s : RS) : Prop where
  hk : Blk w b 163 #[.bool true, .slice A n c, .int .i64 (s.1 : Int), .int .i64 s.2]
  ho : w.ownsRow 0 5 1 (.slice A n c) n (nums .u8 zs)
  hz : ∀ z ∈ zs, 0 ≤ z ∧ z < 256
  hm : n ≤ 1000000
  hf : Fit zs s
namespace InB
variable {w w' : World} {b : Nat} {A : Option Addr} {n c : Nat} {zs : List Int} {s : RS}
theorem hl (h : InB w b A n c zs s) : zs.length = n := by have := h.ho.1; simpa [nums] using this
theorem hr (h : InB w b A n c zs s) : Reads w w.heap.size 1 A n (nums .u8 zs) := Reads.of_own h.ho
theorem hc (h : InB w b A n c zs s) : n ≤ c := own_le' h.ho
theorem chg {S : Nat → Prop} (h : InB w b A n c zs s) (hc : Chg S w w') (hb : ¬ S b) (hS : ∀ g, (Value.slice A n c).ownBlock = some g → ¬ S g) : InB w' b A n c zs s :=
  ⟨hc.blk h.hk hb, hc.own h.ho hS, h.hz, h.hm, h.hf⟩
theorem ext (h : InB w b A n c zs s) (he : Ext w w') : InB w' b A n c zs s := h.chg (S := fun _ => False) (.of_ext he) id (fun _ _ => id)
/-- the block is changed -/
theorem put {s' : RS} (h : InB w b A n c zs s) (hg : w.grownBy w' (some b)) (hk : Blk w' b 163 #[.bool true, .slice A n c, .int .i64 (s'.1 : Int), .int .i64 s'.2]) (hf : Fit zs s') : InB w' b A n c zs s' ∧ Chg (· = b) w w' := by
  have hc : Chg (· = b) w w' := .of_grown hg (fun g e => by injection e with e; exact e.symm)
  exact ⟨⟨hk, hc.own h.ho (fun g hg e => own_blkne h.ho h.hk (by decide) (e ▸ hg)), h.hz, h.hm, hf⟩, hc⟩
theorem fine (h : InB w b A n c zs s) : Calls Try.prog 128 #[.pointer (some ⟨b, 0, none⟩)] w fun e w' => e = .returned (.bool (decide (s.2 = 0))) ∧ w = w' := by
  have hb := h.hk
  refine enter Try.func128 rfl (by kernel_rfl) ?_
  refine J.seq ?_
  refine J.region ?_
  refine L.va rfl (X.assign (by conv => lhs; whnf)) ?_
  refine L.nil ?_
  refine J.seq ?_
  refine J.region ?_
  refine L.va rfl (X.move (by conv => lhs; whnf)) ?_
  refine L.va rfl (X.neqPn rfl rfl (by kernel_rfl)) ?_
  refine L.va rfl (X.move (by conv => lhs; whnf)) ?_
  -- case t5
  refine L.caseBT (k := 5) rfl (by rfl) ?_
  refine L.va rfl (X.move (by conv => lhs; whnf)) ?_
  refine L.va rfl (X.nilCheck rfl) ?_
  refine L.va rfl (X.fieldAddr rfl Try.underlying163 rfl sz_4 (by decide)) ?_
  refine L.va rfl (X.load rfl sc_4 (by first | exact Ld.blk hb rfl)) ?_
  refine L.va rfl (X.pickT rfl (by conv => lhs; whnf)) ?_
  refine L.va rfl (X.move (by conv => lhs; whnf)) ?_
  -- case t11
  refine L.caseBT (k := 11) rfl (by rfl) ?_
  refine L.va rfl (X.move (by conv => lhs; whnf)) ?_
  refine L.va rfl (X.nilCheck rfl) ?_
  refine L.va rfl (X.fieldAddr rfl Try.underlying163 rfl sz_43 (by decide)) ?_
  refine L.va rfl (X.load rfl sc_43 (by first | exact Ld.blk hb rfl)) ?_
  refine L.va rfl (X.eql rfl rfl) ?_
  refine L.va rfl (X.pickT rfl (by conv => lhs; whnf)) ?_
  refine L.va rfl (X.assign (by conv => lhs; whnf)) ?_
  refine L.nil ?_
  -- ret
  refine J.ret ?_
  refine fin1 ?_
  exact ⟨rfl, rfl⟩
theorem rest (h : InB w b A n c zs s) : Calls Try.prog 149 #[.pointer (some ⟨b, 0, none⟩)] w fun e w' => ∃ A' c', e = .returned (.slice A' (n - s.1) c') ∧ Reads w w.heap.size 1 A' (n - s.1) (nums .u8 (zs.drop s.1)) ∧ n - s.1 ≤ c' ∧ Ext w w' := by
  have hb := h.hk
  have hr := h.hr
  have hl := h.hl
  have hc := h.hc
  have hf := h.hf.1
  have hr1 := hr.cut (k := s.1) (cap := c) (by omega) hc
  have ez : List.drop (s.1 * 1) (nums .u8 zs) = nums .u8 (zs.drop s.1) := by simp [nums]
  rw [ez] at hr1
  refine enter Try.func149 rfl (by kernel_rfl) ?_
  refine J.seq ?_
  refine J.region ?_
  refine L.va rfl (X.assign (by conv => lhs; whnf)) ?_
  refine L.nil ?_
  refine J.seq ?_
  -- draw
  refine J.quiet mixed (by kernel_rfl) ?_
  refine Qt.va rfl (fun w' hw => X.move (by conv => lhs; whnf)) ?_
  refine Qt.va rfl (fun w' hw => X.nilCheck rfl) ?_
  refine Qt.va rfl (fun w' hw => X.fieldAddr rfl Try.underlying163 rfl sz_58 (by decide)) ?_
  refine Qt.va rfl (fun w' hw => X.load rfl sc_58 (by first | exact Ld.blk (hb.ext hw) rfl)) ?_
  refine Qt.va rfl (fun w' hw => X.move (by conv => lhs; whnf)) ?_
  refine Qt.va rfl (fun w' hw => X.nilCheck rfl) ?_
  refine Qt.va rfl (fun w' hw => X.fieldAddr rfl Try.underlying163 rfl sz_3 (by decide)) ?_
  refine Qt.va rfl (fun w' hw => X.load rfl sc_3 (by first | exact Ld.blk (hb.ext hw) rfl)) ?_
  refine Qt.va rfl (fun w' hw => (by first | exact X.sliceFromn rfl rfl Try.underlying58 sz_5 (by omega) | exact X.sliceFrom rfl rfl Try.underlying58 sz_5 (by omega))) ?_
  refine Qt.va rfl (fun w' hw => X.assign (by conv => lhs; whnf)) ?_
  refine Qt.nil (fun w1 hq => ?_)
  replace hb := hb.ext hq
  -- ret
  refine J.ret ?_
  refine fin1 ?_
  exact ⟨_, c - s.1, rfl, hr1, by omega, hq⟩
theorem fail (h : InB w b A n c zs s) (e : Int) (he : 0 ≤ e ∧ e ≤ 15) : Calls Try.prog 150 #[.pointer (some ⟨b, 0, none⟩), .int .i64 e] w fun r w' => r = .returned (.tuple #[]) ∧ InB w' b A n c zs (s.1, e) ∧ Chg (· = b) w w' := by
  have hb := h.hk
  refine enter Try.func150 rfl (by kernel_rfl) ?_
  refine J.region ?_
  refine L.va rfl (X.move (by conv => lhs; whnf)) ?_
  refine L.va rfl (X.move (by conv => lhs; whnf)) ?_
  refine L.va rfl (X.nilCheck rfl) ?_
  refine L.va rfl (X.fieldAddr rfl Try.underlying163 rfl sz_43 (by decide)) ?_
  -- store
  refine L.store rfl rfl (by conv => lhs; whnf) rfl sz_43 (hb) (by first | decide | exact Nat.le_of_ble_eq_true rfl) ?_
  intro w1 hb1 hg1 hs1
  refine L.nil ?_
  -- end
  refine fin0 (.inr rfl) ?_
  have := h.put (s' := (s.1, e)) hg1 hb1 ⟨h.hf.1, he⟩
  exact ⟨rfl, this.1, this.2⟩
theorem U1 {most x : Int} {mb : Nat} (hmb : Blk w mb 73 #[.int .u64 most]) : Calls Try.prog 124 #[.int .u64 x, .pointer (some ⟨mb, 0, none⟩)] w fun e w' => e = .returned (.int .i64 (if most < x then 2 else 0)) ∧ w = w' := by
  refine enter Try.func124 rfl (by kernel_rfl) ?_
  refine J.seq ?_
  refine J.region ?_
  refine L.va rfl (X.assign (by conv => lhs; whnf)) ?_
  refine L.nil ?_
  refine J.seq ?_
  refine J.seq ?_
  refine J.region ?_
  refine L.va rfl (X.move (by conv => lhs; whnf)) ?_
  refine L.va rfl (X.load rfl sc_73 (by first | exact Ld.blk hmb rfl)) ?_
  refine L.va rfl (X.gtr rfl rfl) ?_
  refine L.nil ?_
  -- cond
  refine J.dec rfl (fun h => ?_) (fun h => ?_)
  · refine J.seq ?_
    refine J.region ?_
    refine L.va rfl (X.assign (by conv => lhs; whnf)) ?_
    refine L.nil ?_
    -- ret
    refine J.ret ?_
    refine thn_ret <| ?_
    refine fin1 ?_
    exact ⟨by rw [if_pos h]; rfl, rfl⟩
  · refine J.skip ?_
    refine J.seq ?_
    refine J.region ?_
    refine L.va rfl (X.assign (by conv => lhs; whnf)) ?_
    refine L.nil ?_
    -- ret
    refine J.ret ?_
    refine fin1 ?_
    exact ⟨by rw [if_neg h]; rfl, rfl⟩
theorem read (h : InB w b A n c zs s) {most : Int} {mb : Nat} (hmb : Blk w mb 73 #[.int .u64 most]) (h0 : 0 ≤ most) :
    Calls Try.prog 122 #[.pointer (some ⟨b, 0, none⟩), .func (.func 123) #[] #[], .func (.func 124) #[] #[.pointer (some ⟨mb, 0, none⟩)]] w fun e w' => e = .returned (.int .u64 (rdU zs most s).1) ∧ InB w' b A n c zs (rdU zs most s).2 ∧ Chg (· = b) w w' := by
  have hl := h.hl
  have hf := h.hf
  refine enter Try.func122 rfl (by kernel_rfl) ?_
  refine J.seq ?_
  refine J.region ?_
  refine L.va rfl (X.assign (by conv => lhs; whnf)) ?_
  refine L.nil ?_
  refine J.seq ?_
  refine J.region ?_
  refine L.va rfl (X.assign (by conv => lhs; whnf)) ?_
  refine L.nil ?_
  refine J.seq ?_
  refine J.seq ?_
  refine J.region ?_
  refine L.va rfl (X.move (by conv => lhs; whnf)) ?_
  -- callfn (*bushel/buf.In).fine
  refine L.call rfl en_128 rfl (h.fine) ?_
  rintro e _ ⟨rfl, rfl⟩
  refine ⟨_, rfl, ?_⟩
  refine L.va rfl (X.not rfl) ?_
  refine L.nil ?_
  -- cond
  refine J.ite rfl (fun hs => ?_) (fun hs => ?_)
  · have hs : s.2 ≠ 0 := by simpa using hs
    have e : rdU zs most s = (0, s) := by unfold rdU; rw [if_pos hs]
    rw [e]
    refine J.seq ?_
    refine J.region ?_
    refine L.va rfl (X.move (by conv => lhs; whnf)) ?_
    refine L.va rfl (X.assign (by conv => lhs; whnf)) ?_
    refine L.nil ?_
    -- ret
    refine J.ret ?_
    refine thn_ret <| ?_
    refine fin1 ?_
    exact ⟨rfl, h, .of_ext (.refl _)⟩
  · have hs : s.2 = 0 := by simpa using hs
    have hm0 := h.hm
    have hf1 := hf.1
    have hgl := gu_le (zs.drop s.1) (fun z hz => h.hz z (List.mem_of_mem_drop hz))
    rw [List.length_drop, hl] at hgl
    obtain ⟨g, hg⟩ : ∃ g, gu (zs.drop s.1) = g := ⟨_, rfl⟩
    have e : rdU zs most s = if g.2.2 ≠ 0 then (0, (s.1, g.2.2)) else if most < g.1 then (0, (s.1, 2)) else (g.1, (s.1 + g.2.1, 0)) := by unfold rdU; rw [if_neg (fun hh => hh hs), hg]
    rw [hg] at hgl
    refine J.skip ?_
    refine J.seq ?_
    refine J.region ?_
    refine L.va rfl (X.move (by conv => lhs; whnf)) ?_
    refine L.va rfl (X.move (by conv => lhs; whnf)) ?_
    -- callfn (*bushel/buf.In).rest
    refine L.call rfl en_149 rfl (h.rest) ?_
    rintro e w1 ⟨A1, c1, rfl, hr1, hc1, he1⟩
    refine ⟨_, rfl, ?_⟩
    have h1 := h.ext he1
    have hmb1 := hmb.ext he1
    have kU := code_GetU A1 (n - s.1) c1 (zs.drop s.1) w1 ((hr1.ext he1).more he1.le) (fun z hz => h.hz z (List.mem_of_mem_drop hz)) (by have := h.hm; omega) hc1
    rw [hg] at kU
    -- callval
    refine L.callV rfl en_123 rfl rfl (kU) ?_
    rintro e _ ⟨rfl, rfl⟩
    refine ⟨_, rfl, ?_⟩
    refine L.va rfl (X.move (by conv => lhs; whnf)) ?_
    refine L.va rfl (X.extract rfl rfl) ?_
    refine L.va rfl (X.extract rfl rfl) ?_
    refine L.va rfl (X.extract rfl rfl) ?_
    refine L.va rfl (X.assign (by conv => lhs; whnf)) ?_
    refine L.va rfl (X.assign (by conv => lhs; whnf)) ?_
    refine L.va rfl (X.assign (by conv => lhs; whnf)) ?_
    refine L.nil ?_
    refine J.seq ?_
    refine J.seq ?_
    refine J.region ?_
    refine L.va rfl (X.move (by conv => lhs; whnf)) ?_
    refine L.va rfl (X.eql rfl rfl) ?_
    refine L.nil ?_
    -- cond
    refine J.dec rfl (fun he => ?_) (fun he => ?_)
    · rw [if_neg (fun hh => hh he)] at e
      refine J.region ?_
      refine L.va rfl (X.move (by conv => lhs; whnf)) ?_
      refine L.va rfl (X.move (by conv => lhs; whnf)) ?_
      -- callval
      refine L.callC rfl en_124 rfl rfl (U1 hmb1) ?_
      rintro e _ ⟨rfl, rfl⟩
      refine ⟨_, rfl, ?_⟩
      by_cases hm : most < g.1
      · rw [if_pos hm] at e
        rw [if_pos hm, e]
        refine L.va rfl (X.assign (by conv => lhs; whnf)) ?_
        refine L.nil ?_
        refine J.seq ?_
        refine J.seq ?_
        refine J.region ?_
        refine L.va rfl (X.move (by conv => lhs; whnf)) ?_
        refine L.va rfl (X.neq rfl rfl) ?_
        refine L.nil ?_
        -- cond
        refine J.ndecT rfl (by decide) ?_
        refine J.seq ?_
        refine J.region ?_
        refine L.va rfl (X.move (by conv => lhs; whnf)) ?_
        refine L.va rfl (X.move (by conv => lhs; whnf)) ?_
        -- callfn (*bushel/buf.In).fail
        refine L.call rfl en_150 rfl (h1.fail 2 (by decide)) ?_
        rintro e w2 ⟨rfl, h2, hc2⟩
        refine ⟨_, rfl, ?_⟩
        refine L.nil ?_
        refine J.seq ?_
        refine J.region ?_
        refine L.va rfl (X.move (by conv => lhs; whnf)) ?_
        refine L.va rfl (X.assign (by conv => lhs; whnf)) ?_
        refine L.nil ?_
        -- ret
        refine J.ret ?_
        refine thn_ret <| ?_
        refine fin1 ?_
        exact ⟨rfl, h2, (Chg.of_ext he1).trans hc2 (fun _ _ => id)⟩
      · rw [if_neg hm] at e
        rw [if_neg hm, e]
        have hb1 := h1.hk
        refine L.va rfl (X.assign (by conv => lhs; whnf)) ?_
        refine L.nil ?_
        refine J.seq ?_
        refine J.seq ?_
        refine J.region ?_
        refine L.va rfl (X.move (by conv => lhs; whnf)) ?_
        refine L.va rfl (X.neq rfl rfl) ?_
        refine L.nil ?_
        -- cond
        refine J.ndecF rfl (by decide) ?_
        refine J.skip ?_
        refine J.seq ?_
        refine J.region ?_
        refine L.va rfl (X.move (by conv => lhs; whnf)) ?_
        refine L.va rfl (X.nilCheck rfl) ?_
        refine L.va rfl (X.fieldAddr rfl Try.underlying163 rfl sz_3 (by decide)) ?_
        refine L.va rfl (X.load rfl sc_3 (by first | exact Ld.blk hb1 rfl)) ?_
        refine L.va rfl (X.move (by conv => lhs; whnf)) ?_
        refine L.va rfl (X.add rfl rfl (by omega)) ?_
        refine L.va rfl (X.nilCheck rfl) ?_
        refine L.va rfl (X.fieldAddr rfl Try.underlying163 rfl sz_3 (by decide)) ?_
        -- store
        refine L.store rfl rfl (by conv => lhs; whnf) rfl sz_3 (hb1) (by first | decide | exact Nat.le_of_ble_eq_true rfl) ?_
        intro w2 hb2 hg2 hs2
        refine L.nil ?_
        refine J.seq ?_
        refine J.region ?_
        refine L.va rfl (X.move (by conv => lhs; whnf)) ?_
        refine L.va rfl (X.assign (by conv => lhs; whnf)) ?_
        refine L.nil ?_
        -- ret
        refine J.ret ?_
        refine fin1 ?_
        have := h1.put (s' := (s.1 + g.2.1, s.2)) hg2 hb2 ⟨by dsimp only; omega, by rw [hs]; decide⟩
        rw [hs] at this
        exact ⟨rfl, this.1, (Chg.of_ext he1).trans this.2 (fun _ _ => id)⟩
    · rw [if_pos he] at e
      rw [e]
      refine J.skip ?_
      refine J.seq ?_
      refine J.seq ?_
      refine J.region ?_
      refine L.va rfl (X.move (by conv => lhs; whnf)) ?_
      refine L.va rfl (X.neq rfl rfl) ?_
      refine L.nil ?_
      -- cond
      refine J.ndecT rfl (by exact he) ?_
      refine J.seq ?_
      refine J.region ?_
      refine L.va rfl (X.move (by conv => lhs; whnf)) ?_
      refine L.va rfl (X.move (by conv => lhs; whnf)) ?_
      -- callfn (*bushel/buf.In).fail
      refine L.call rfl en_150 rfl (h1.fail g.2.2 (by omega)) ?_
      rintro e w2 ⟨rfl, h2, hc2⟩
      refine ⟨_, rfl, ?_⟩
      refine L.nil ?_
      refine J.seq ?_
      refine J.region ?_
      refine L.va rfl (X.move (by conv => lhs; whnf)) ?_
      refine L.va rfl (X.assign (by conv => lhs; whnf)) ?_
      refine L.nil ?_
      -- ret
      refine J.ret ?_
      refine thn_ret <| ?_
      refine fin1 ?_
      exact ⟨rfl, h2, (Chg.of_ext he1).trans hc2 (fun _ _ => id)⟩
theorem U (h : InB w b A n c zs s) (most : Int) (h0 : 0 ≤ most) : Calls Try.prog 78 #[.pointer (some ⟨b, 0, none⟩), .int .u64 most] w fun e w' => e = .returned (.int .u64 (rdU zs most s).1) ∧ InB w' b A n c zs (rdU zs most s).2 ∧ Chg (· = b) w w' := by
  refine enter Try.func78 rfl (by kernel_rfl) ?_
  refine J.seq ?_
  refine J.region ?_
  -- box
  refine L.box rfl (by conv => lhs; whnf) ?_
  intro b1 w1 hb1 hs1 hk1 he1
  refine L.va rfl (X.assign (by conv => lhs; whnf)) ?_
  refine L.nil ?_
  refine J.seq ?_
  refine J.region ?_
  refine L.va rfl (X.move (by conv => lhs; whnf)) ?_
  refine L.va rfl (X.makeFn rfl) ?_
  -- callfn bushel/buf.read[uint64]
  refine L.call rfl en_122 rfl ((h.ext he1).read hk1 h0) ?_
  rintro e w2 ⟨rfl, h2, hc2⟩
  refine ⟨_, rfl, ?_⟩
  refine L.va rfl (X.assign (by conv => lhs; whnf)) ?_
  refine L.nil ?_
  -- ret
  refine J.ret ?_
  refine fin1 ?_
  exact ⟨rfl, h2, (Chg.of_ext he1).trans hc2 (fun _ _ => id)⟩
theorem new (hr : Reads w w.heap.size 1 A n (nums .u8 zs)) (hz : ∀ z ∈ zs, 0 ≤ z ∧ z < 256) (hm : n ≤ 1000000) : Calls Try.prog 77 #[.slice A n c] w fun e w' => ∃ b A' c', e = .returned (.pointer (some ⟨b, 0, none⟩)) ∧ InB w' b A' n c' zs (0, 0) ∧ w.heap.size ≤ b ∧ Ext w w' := by
  have hl : zs.length = n := by have := hr.1; simpa [nums] using this
  refine enter Try.func77 rfl (by kernel_rfl) ?_
  refine J.seq ?_
  refine J.region ?_
  refine L.va rfl (X.assign (by conv => lhs; whnf)) ?_
  refine L.nil ?_
  refine J.seq ?_
  refine J.region ?_
  refine L.va rfl (X.move (by conv => lhs; whnf)) ?_
  -- append
  refine L.appendQ (q := n) (ys := zs) rfl rfl rfl Try.underlying58 el_5 ((show w.ownsRow 0 5 1 (.slice none 0 0) 0 (nums .u8 []) from own_nil _ _ _ _)) (hr) (by omega) (by simp) (by unfold maxLen; omega) (by omega) ?_
  intro A4 c4 w4 ho4 hg4 hb4 hor4
  have he4 : Ext w w4 := (Ext.refl w).grw (r := none) hg4 (fun g h => by cases h)
  refine L.va rfl (X.build (l := [_, _, _, _]) (Evs.cons (by conv => lhs; whnf) (Evs.cons (by conv => lhs; whnf) Evs.nil)) (bld_run Try.underlying163 (bp_163 Try.underlying163) zr_163 rfl)) ?_
  -- box
  refine L.boxA (l := [_, _, _, _]) rfl rfl ?_
  intro b5 w5 hb5 hs5 hk5 he5
  refine L.va rfl (X.assign (by conv => lhs; whnf)) ?_
  refine L.nil ?_
  -- ret
  refine J.ret ?_
  refine fin1 ?_
  exact ⟨b5, A4, c4, rfl, ⟨hk5, ho4.ext he5, hz, hm, Nat.zero_le _, Int.le_refl _, by decide⟩, by have := he4.le; omega, he4.trans he5⟩
theorem Fault (h : InB w b A n c zs s) : Calls Try.prog 129 #[.pointer (some ⟨b, 0, none⟩)] w fun e w' => e = .returned (.tuple #[.int .i64 (if s.2 = 0 then 0 else (s.1 : Int)), .int .i64 s.2]) ∧ Ext w w' := by
  have hb := h.hk
  refine enter Try.func129 rfl (by kernel_rfl) ?_
  refine J.seq ?_
  refine J.region ?_
  refine L.va rfl (X.assign (by conv => lhs; whnf)) ?_
  refine L.va rfl (X.assign (by conv => lhs; whnf)) ?_
  refine L.nil ?_
  refine J.seq ?_
  refine J.seq ?_
  refine J.region ?_
  refine L.va rfl (X.move (by conv => lhs; whnf)) ?_
  refine L.va rfl (X.eqlPn rfl rfl (by kernel_rfl)) ?_
  refine L.va rfl (X.move (by conv => lhs; whnf)) ?_
  -- case t6
  refine L.caseBF (k := 6) rfl (by rfl) ?_
  refine L.va rfl (X.move (by conv => lhs; whnf)) ?_
  refine L.va rfl (X.nilCheck rfl) ?_
  refine L.va rfl (X.fieldAddr rfl Try.underlying163 rfl sz_4 (by decide)) ?_
  refine L.va rfl (X.load rfl sc_4 (by first | exact Ld.blk hb rfl)) ?_
  refine L.va rfl (X.not rfl) ?_
  refine L.va rfl (X.pickF rfl (by conv => lhs; whnf)) ?_
  refine L.nil ?_
  -- cond
  refine J.iteF rfl ?_
  refine J.skip ?_
  refine J.seq ?_
  refine J.seq ?_
  refine J.region ?_
  refine L.va rfl (X.move (by conv => lhs; whnf)) ?_
  refine L.va rfl (X.nilCheck rfl) ?_
  refine L.va rfl (X.fieldAddr rfl Try.underlying163 rfl sz_43 (by decide)) ?_
  refine L.va rfl (X.load rfl sc_43 (by first | exact Ld.blk hb rfl)) ?_
  refine L.va rfl (X.eql rfl rfl) ?_
  refine L.nil ?_
  -- cond
  refine J.dec rfl (fun hs => ?_) (fun hs => ?_)
  · refine J.seq ?_
    refine J.region ?_
    refine L.va rfl (X.assign (by conv => lhs; whnf)) ?_
    refine L.va rfl (X.assign (by conv => lhs; whnf)) ?_
    refine L.nil ?_
    -- ret
    refine J.ret ?_
    refine thn_ret <| ?_
    refine fin2 ?_
    exact ⟨by rw [if_pos hs, hs]; rfl, .refl _⟩
  · refine J.skip ?_
    refine J.seq ?_
    -- draw
    refine J.quiet mixed (by kernel_rfl) ?_
    refine Qt.va rfl (fun w' hw => X.move (by conv => lhs; whnf)) ?_
    refine Qt.va rfl (fun w' hw => X.nilCheck rfl) ?_
    refine Qt.va rfl (fun w' hw => X.fieldAddr rfl Try.underlying163 rfl sz_3 (by decide)) ?_
    refine Qt.va rfl (fun w' hw => X.load rfl sc_3 (by first | exact Ld.blk (hb.ext hw) rfl)) ?_
    refine Qt.va rfl (fun w' hw => X.move (by conv => lhs; whnf)) ?_
    refine Qt.va rfl (fun w' hw => X.nilCheck rfl) ?_
    refine Qt.va rfl (fun w' hw => X.fieldAddr rfl Try.underlying163 rfl sz_43 (by decide)) ?_
    refine Qt.va rfl (fun w' hw => X.load rfl sc_43 (by first | exact Ld.blk (hb.ext hw) rfl)) ?_
    refine Qt.va rfl (fun w' hw => X.assign (by conv => lhs; whnf)) ?_
    refine Qt.va rfl (fun w' hw => X.assign (by conv => lhs; whnf)) ?_
    refine Qt.nil (fun w1 hq => ?_)
    replace hb := hb.ext hq
    -- ret
    refine J.ret ?_
    refine fin2 ?_
    exact ⟨by rw [if_neg hs]; rfl, hq⟩
theorem End (h : InB w b A n c zs s) : Calls Try.prog 81 #[.pointer (some ⟨b, 0, none⟩)] w fun e w' => e = .returned (.int .i64 (rdE zs s)) ∧ InB w' b A n c zs (s.1, rdE zs s) ∧ Chg (· = b) w w' := by
  have hb := h.hk
  have hl := h.hl
  have hf := h.hf
  refine enter Try.func81 rfl (by kernel_rfl) ?_
  refine J.seq ?_
  refine J.region ?_
  refine L.va rfl (X.assign (by conv => lhs; whnf)) ?_
  refine L.nil ?_
  refine J.seq ?_
  refine J.seq ?_
  -- draw
  refine J.quiet mixed (by kernel_rfl) ?_
  refine Qt.va rfl (fun w' hw => X.move (by conv => lhs; whnf)) ?_
  -- callfn (*bushel/buf.In).fine
  refine Qt.call rfl en_128 rfl (fun w' hw => calls_same hw (h.ext hw).fine) ?_
  refine Qt.va rfl (fun w' hw => X.move (by conv => lhs; whnf)) ?_
  -- case t7
  refine Qt.caseB (k := 7) rfl (fun hs => ?_) (fun hs => ?_)
  · have hs : s.2 = 0 := by simpa using hs
    refine Qt.va rfl (fun w' hw => X.move (by conv => lhs; whnf)) ?_
    refine Qt.va rfl (fun w' hw => X.nilCheck rfl) ?_
    refine Qt.va rfl (fun w' hw => X.fieldAddr rfl Try.underlying163 rfl sz_3 (by decide)) ?_
    refine Qt.va rfl (fun w' hw => X.load rfl sc_3 (by first | exact Ld.blk (hb.ext hw) rfl)) ?_
    refine Qt.va rfl (fun w' hw => X.move (by conv => lhs; whnf)) ?_
    refine Qt.va rfl (fun w' hw => X.nilCheck rfl) ?_
    refine Qt.va rfl (fun w' hw => X.fieldAddr rfl Try.underlying163 rfl sz_58 (by decide)) ?_
    refine Qt.va rfl (fun w' hw => X.load rfl sc_58 (by first | exact Ld.blk (hb.ext hw) rfl)) ?_
    refine Qt.va rfl (fun w' hw => X.len rfl Try.underlying58) ?_
    refine Qt.va rfl (fun w' hw => X.lss rfl rfl) ?_
    refine Qt.va rfl (fun w' hw => X.pickT rfl (by conv => lhs; whnf)) ?_
    refine Qt.nil (fun w1 hq => ?_)
    replace hb := hb.ext hq
    -- cond
    refine J.dec rfl (fun hlt => ?_) (fun hlt => ?_)
    · have e : rdE zs s = 7 := by unfold rdE; rw [if_pos ⟨hs, by omega⟩]
      rw [e]
      have h1 := h.ext hq
      have hb1 := h1.hk
      refine J.region ?_
      refine L.va rfl (X.move (by conv => lhs; whnf)) ?_
      refine L.va rfl (X.nilCheck rfl) ?_
      refine L.va rfl (X.fieldAddr rfl Try.underlying163 rfl sz_43 (by decide)) ?_
      -- store
      refine L.store rfl rfl (by conv => lhs; whnf) rfl sz_43 (hb1) (by first | decide | exact Nat.le_of_ble_eq_true rfl) ?_
      intro w2 hb2 hg2 hs2
      have k := h1.put (s' := (s.1, 7)) hg2 hb2 ⟨hf.1, (by decide : (0 : Int) ≤ 7), (by decide : (7 : Int) ≤ 15)⟩
      refine L.nil ?_
      refine J.seq ?_
      refine J.region ?_
      refine L.va rfl (X.move (by conv => lhs; whnf)) ?_
      -- callfn (*bushel/buf.In).Fault
      refine L.call rfl en_129 rfl (k.1.Fault) ?_
      rintro e w3 ⟨rfl, he3⟩
      refine ⟨_, rfl, ?_⟩
      refine L.va rfl (X.move (by conv => lhs; whnf)) ?_
      refine L.va rfl (X.extract rfl rfl) ?_
      refine L.va rfl (X.extract rfl rfl) ?_
      refine L.va rfl (X.assign (by conv => lhs; whnf)) ?_
      refine L.va rfl (X.assign (by conv => lhs; whnf)) ?_
      refine L.nil ?_
      refine J.seq ?_
      refine J.region ?_
      refine L.va rfl (X.move (by conv => lhs; whnf)) ?_
      refine L.va rfl (X.assign (by conv => lhs; whnf)) ?_
      refine L.nil ?_
      -- ret
      refine J.ret ?_
      refine fin1 ?_
      exact ⟨rfl, k.1.ext he3, ((Chg.of_ext hq).trans k.2 (fun _ _ => id)).trans (.of_ext he3) (fun _ _ => id)⟩
    · have e : rdE zs s = 0 := by unfold rdE; rw [if_neg (fun hh => by omega), hs]
      rw [e]
      have h1 := h.ext hq
      refine J.skip ?_
      refine J.seq ?_
      refine J.region ?_
      refine L.va rfl (X.move (by conv => lhs; whnf)) ?_
      -- callfn (*bushel/buf.In).Fault
      refine L.call rfl en_129 rfl (h1.Fault) ?_
      rintro e w3 ⟨rfl, he3⟩
      refine ⟨_, rfl, ?_⟩
      rw [hs]
      refine L.va rfl (X.move (by conv => lhs; whnf)) ?_
      refine L.va rfl (X.extract rfl rfl) ?_
      refine L.va rfl (X.extract rfl rfl) ?_
      refine L.va rfl (X.assign (by conv => lhs; whnf)) ?_
      refine L.va rfl (X.assign (by conv => lhs; whnf)) ?_
      refine L.nil ?_
      refine J.seq ?_
      refine J.region ?_
      refine L.va rfl (X.move (by conv => lhs; whnf)) ?_
      refine L.va rfl (X.assign (by conv => lhs; whnf)) ?_
      refine L.nil ?_
      -- ret
      refine J.ret ?_
      refine fin1 ?_
      have h3 := h1.ext he3
      rw [show s = (s.1, 0) from Prod.ext rfl hs] at h3
      exact ⟨rfl, h3, (Chg.of_ext hq).trans (.of_ext he3) (fun _ _ => id)⟩
  · have hs : s.2 ≠ 0 := by simpa using hs
    have e : rdE zs s = s.2 := by unfold rdE; rw [if_neg (fun hh => hs hh.1)]
    rw [e]
    refine Qt.no rfl ?_
    refine Qt.no rfl ?_
    refine Qt.no rfl ?_
    refine Qt.no rfl ?_
    refine Qt.no rfl ?_
    refine Qt.no rfl ?_
    refine Qt.no rfl ?_
    refine Qt.no rfl ?_
    refine Qt.no rfl ?_
    refine Qt.no rfl ?_
    refine Qt.va rfl (fun w' hw => X.pickF rfl (by conv => lhs; whnf)) ?_
    refine Qt.nil (fun w1 hq => ?_)
    replace hb := hb.ext hq
    -- cond
    refine J.iteF rfl ?_
    have h1 := h.ext hq
    refine J.skip ?_
    refine J.seq ?_
    refine J.region ?_
    refine L.va rfl (X.move (by conv => lhs; whnf)) ?_
    -- callfn (*bushel/buf.In).Fault
    refine L.call rfl en_129 rfl (h1.Fault) ?_
    rintro e w3 ⟨rfl, he3⟩
    refine ⟨_, rfl, ?_⟩
    refine L.va rfl (X.move (by conv => lhs; whnf)) ?_
    refine L.va rfl (X.extract rfl rfl) ?_
    refine L.va rfl (X.extract rfl rfl) ?_
    refine L.va rfl (X.assign (by conv => lhs; whnf)) ?_
    refine L.va rfl (X.assign (by conv => lhs; whnf)) ?_
    refine L.nil ?_
    refine J.seq ?_
    refine J.region ?_
    refine L.va rfl (X.move (by conv => lhs; whnf)) ?_
    refine L.va rfl (X.assign (by conv => lhs; whnf)) ?_
    refine L.nil ?_
    -- ret
    refine J.ret ?_
    refine fin1 ?_
    exact ⟨rfl, h1.ext he3, (Chg.of_ext hq).trans (.of_ext he3) (fun _ _ => id)⟩
end InB
end Go.Proofs.Ytlohbkcedpkjaaa
/-
  Package buf: a writer.
-/
namespace Go.Proofs.Ytlohbkcedpkjaaa
set_option maxRecDepth 100000
open Go.RowKit H
open Byts Cod
set_option linter.unusedVariables false
/-- a writer: its block, its bytes in a row of the call's own; E0: blocks that are others' -/
structure OutB (B : Nat) (E0 : Nat → Prop) (w : World) (b : Nat) (A : Option Addr) (n c : Nat) (zs : List Int) : Prop where
  hk : Blk w b 177 #[.bool true, .slice A n c]
  ho : w.ownsRow B 5 1 (.slice A n c) n (nums .u8 zs)
  hb : B ≤ b
  hx : ¬ E0 b
  hX : ∀ g, E0 g → g < w.heap.size
  hox : ∀ g, (Value.slice A n c).ownBlock = some g → ¬ E0 g
namespace OutB
variable {w w' : World} {B b : Nat} {E0 : Nat → Prop} {A : Option Addr} {n c : Nat} {zs : List Int}
theorem hl (h : OutB B E0 w b A n c zs) : zs.length = n := by have := h.ho.1; simpa [nums] using this
theorem hr (h : OutB B E0 w b A n c zs) : Reads w w.heap.size 1 A n (nums .u8 zs) := Reads.of_own h.ho
theorem ext (h : OutB B E0 w b A n c zs) (he : Ext w w') : OutB B E0 w' b A n c zs :=
  ⟨h.hk.ext he, h.ho.ext he, h.hb, h.hx, fun g hg => Nat.lt_of_lt_of_le (h.hX g hg) he.le, h.hox⟩
/-- one more block that is another's -/
theorem more {Y : Nat → Prop} (h : OutB B E0 w b A n c zs) (hY : ∀ g, Y g → E0 g ∨ (w.heap.size ≤ g ∧ g < w'.heap.size)) (he : Ext w w') : OutB B Y w' b A n c zs := by
  have h1 := h.ext he
  refine ⟨h1.hk, h1.ho, h1.hb, fun hy => ?_, fun g hg => ?_, fun g hg hy => ?_⟩
  · rcases hY b hy with h2 | h2
    · exact h.hx h2
    · have := h.hk.lt; omega
  · rcases hY g hg with h2 | h2
    · exact h1.hX g h2
    · exact h2.2
  · rcases hY g hy with h2 | h2
    · exact h.hox g hg h2
    · have := (h.ho.lt g hg).2; omega
theorem lay {A2 : Option Addr} {m c2 : Nat} {ys : List Int} (h : OutB B E0 w b A n c zs) (hr : Reads w w.heap.size 1 A2 m (nums .u8 ys)) (hm : n + m ≤ 100000000) :
    Calls Try.prog 131 #[.pointer (some ⟨b, 0, none⟩), .slice A2 m c2] w fun e w' => e = .returned (.tuple #[]) ∧ (∃ A' c', OutB B E0 w' b A' (n + m) c' (zs ++ ys)) ∧ Chg (fun g => B ≤ g ∧ ¬ E0 g) w w' := by
  have hb := h.hk
  refine enter Try.func131 rfl (by kernel_rfl) ?_
  refine J.seq ?_
  refine J.region ?_
  refine L.va rfl (X.move (by conv => lhs; whnf)) ?_
  refine L.va rfl (X.neqPn rfl rfl (by kernel_rfl)) ?_
  refine L.va rfl (X.move (by conv => lhs; whnf)) ?_
  -- case t6
  refine L.caseBT (k := 6) rfl (by rfl) ?_
  refine L.va rfl (X.move (by conv => lhs; whnf)) ?_
  refine L.va rfl (X.nilCheck rfl) ?_
  refine L.va rfl (X.fieldAddr rfl Try.underlying177 rfl sz_4 (by decide)) ?_
  refine L.va rfl (X.load rfl sc_4 (by first | exact Ld.blk hb rfl)) ?_
  refine L.va rfl (X.pickT rfl (by conv => lhs; whnf)) ?_
  refine L.nil ?_
  -- cond
  refine J.iteT rfl ?_
  refine J.region ?_
  refine L.va rfl (X.move (by conv => lhs; whnf)) ?_
  refine L.va rfl (X.move (by conv => lhs; whnf)) ?_
  refine L.va rfl (X.nilCheck rfl) ?_
  refine L.va rfl (X.fieldAddr rfl Try.underlying177 rfl sz_58 (by decide)) ?_
  refine L.va rfl (X.load rfl sc_58 (by first | exact Ld.blk hb rfl)) ?_
  refine L.va rfl (X.move (by conv => lhs; whnf)) ?_
  -- append
  have hbb := h.hb
  have hbl := hb.lt
  refine L.appendQ (q := n + m) (ys := zs ++ ys) rfl rfl rfl Try.underlying58 el_5 (h.ho) (hr) (by omega) (by simp) (by unfold maxLen; omega) (by omega) ?_
  intro A3 c3 w3 ho3 hg3 hb3 hor3
  have hne : ∀ g, (Value.slice A n c).ownBlock = some g → B ≤ g ∧ ¬ E0 g := fun g hg => ⟨(h.ho.lt g hg).1, h.hox g hg⟩
  have hc3 : Chg (fun g => B ≤ g ∧ ¬ E0 g) w w3 := .of_grown hg3 hne
  have hk3 := hb.grown hg3 (fun e => own_blkne h.ho hb (by decide) e.symm)
  refine L.va rfl (X.nilCheck rfl) ?_
  refine L.va rfl (X.fieldAddr rfl Try.underlying177 rfl sz_58 (by decide)) ?_
  -- store
  refine L.store rfl rfl (by conv => lhs; whnf) rfl sz_58 (hk3) (by first | decide | exact Nat.le_of_ble_eq_true rfl) ?_
  intro w4 hk4 hg4 hs4
  refine L.nil ?_
  -- end
  refine fin0 (.inr rfl) ?_
  have hc4 : Chg (fun g => B ≤ g ∧ ¬ E0 g) w3 w4 := .of_grown hg4 (fun g e => by injection e with e; subst e; exact ⟨h.hb, h.hx⟩)
  refine ⟨rfl, ⟨A3, c3, hk4, ho3.kept hg4 (.inr (own_blkne ho3 hk3 (by decide))), h.hb, h.hx, fun g hg => ?_, fun g hg hy => ?_⟩, hc3.trans hc4 (fun _ _ => id)⟩
  · have := h.hX g hg; have := hc3.size; have := hc4.size; omega
  · rcases hor3 with e | e
    · rw [e] at hg; exact h.hox g hg hy
    · rw [e] at hg; injection hg with hg; have := h.hX g hy; omega
theorem U (h : OutB B E0 w b A n c zs) (x : Int) (h0 : 0 ≤ x) (h1 : x ≤ 18446744073709551615) (hm : n ≤ 10000000) :
    Calls Try.prog 91 #[.pointer (some ⟨b, 0, none⟩), .int .u64 x] w fun e w' => e = .returned (.tuple #[]) ∧ (∃ A' c', OutB B E0 w' b A' (n + (wd x + 1)) c' (zs ++ cu x)) ∧ Chg (fun g => B ≤ g ∧ ¬ E0 g) w w' := by
  have h8 := wd_le8 h0 h1
  refine enter Try.func91 rfl (by kernel_rfl) ?_
  refine J.region ?_
  refine L.va rfl (X.move (by conv => lhs; whnf)) ?_
  refine L.va rfl (X.move (by conv => lhs; whnf)) ?_
  -- callfn bushel/code.U
  refine L.call rfl en_132 rfl (code_U x w h0 h1) ?_
  rintro e w1 ⟨A1, c1, rfl, ho1, he1⟩
  refine ⟨_, rfl, ?_⟩
  -- callfn (*bushel/buf.Out).lay
  refine L.call rfl en_131 rfl ((h.ext he1).lay (own_reads ho1) (by omega)) ?_
  rintro e w2 ⟨rfl, h2, hc2⟩
  refine ⟨_, rfl, ?_⟩
  refine L.nil ?_
  -- end
  refine fin0 (.inr rfl) ?_
  exact ⟨rfl, h2, (Chg.of_ext he1).trans hc2 (fun _ _ => id)⟩
theorem new (w : World) : Calls Try.prog 90 #[] w fun e w' => ∃ b, e = .returned (.pointer (some ⟨b, 0, none⟩)) ∧ OutB w.heap.size (fun _ => False) w' b none 0 0 [] ∧ w.heap.size ≤ b ∧ Ext w w' := by
  refine enter Try.func90 rfl (by kernel_rfl) ?_
  refine J.seq ?_
  refine J.region ?_
  refine L.va rfl (X.assign (by conv => lhs; whnf)) ?_
  refine L.nil ?_
  refine J.seq ?_
  refine J.region ?_
  refine L.va rfl (X.build (l := [_, _]) (Evs.cons (by conv => lhs; whnf) Evs.nil) (bld_run Try.underlying177 (bp_177 Try.underlying177) zr_177 rfl)) ?_
  -- box
  refine L.boxA (l := [_, _]) rfl rfl ?_
  intro b5 w5 hb5 hs5 hk5 he5
  refine L.va rfl (X.assign (by conv => lhs; whnf)) ?_
  refine L.nil ?_
  -- ret
  refine J.ret ?_
  refine fin1 ?_
  exact ⟨b5, rfl, ⟨hk5, own_nil _ _ _ _, by omega, id, fun _ h => h.elim, fun _ _ => id⟩, by omega, he5⟩
theorem Bytes (h : OutB B E0 w b A n c zs) (hm : n ≤ 100000000) : Calls Try.prog 93 #[.pointer (some ⟨b, 0, none⟩)] w fun e w' => ∃ A' c', e = .returned (.slice A' n c') ∧ w'.ownsRow w.heap.size 5 1 (.slice A' n c') n (nums .u8 zs) ∧ Ext w w' := by
  have hb := h.hk
  refine enter Try.func93 rfl (by kernel_rfl) ?_
  refine J.seq ?_
  refine J.region ?_
  refine L.va rfl (X.assign (by conv => lhs; whnf)) ?_
  refine L.nil ?_
  refine J.seq ?_
  refine J.seq ?_
  refine J.region ?_
  refine L.va rfl (X.move (by conv => lhs; whnf)) ?_
  refine L.va rfl (X.eqlPn rfl rfl (by kernel_rfl)) ?_
  refine L.nil ?_
  -- cond
  refine J.iteF rfl ?_
  refine J.skip ?_
  refine J.seq ?_
  refine J.region ?_
  refine L.va rfl (X.move (by conv => lhs; whnf)) ?_
  refine L.va rfl (X.nilCheck rfl) ?_
  refine L.va rfl (X.fieldAddr rfl Try.underlying177 rfl sz_58 (by decide)) ?_
  refine L.va rfl (X.load rfl sc_58 (by first | exact Ld.blk hb rfl)) ?_
  -- append
  refine L.appendQ (q := n) (ys := zs) rfl rfl rfl Try.underlying58 el_5 ((show w.ownsRow w.heap.size 5 1 (.slice none 0 0) 0 (nums .u8 []) from own_nil _ _ _ _)) (h.hr) (by omega) (by simp) (by unfold maxLen; omega) (by omega) ?_
  intro A4 c4 w4 ho4 hg4 hb4 hor4
  refine L.va rfl (X.assign (by conv => lhs; whnf)) ?_
  refine L.nil ?_
  -- ret
  refine J.ret ?_
  refine fin1 ?_
  exact ⟨A4, c4, rfl, ho4, (Ext.refl w).grw (r := none) hg4 (fun g h => by cases h)⟩
end OutB
end Go.Proofs.Ytlohbkcedpkjaaa
