import Derived.Lib.Strings
import Derived.Test.YtlipeplfjkgamaaZQueryGets1
/-
  What the law leans on, part 2: WBufP, TypChg, WNames, WNamesB, WNamesC, WNamesD, WNamesE, SchemaData, WSchA, WMasks, WSchB, WSchC, WSchD, SchPlain, WSchE, WSchF, WSchG.
-/
namespace Go.Proofs.Ytlipeplfjkgamaa
set_option maxRecDepth 100000
open Go.RowKit H
open Byts Cod
set_option linter.unusedVariables false
theorem own_blkne {w : World} {N e sz n g t : Nat} {x : Value} {xs : List Value} {cs : Array Value} (ho : w.ownsRow N e sz x n xs) (hb : Blk w g t cs) (hne : e ≠ t) : x.ownBlock ≠ some g := by
  intro h
  rcases ho.2 with ⟨rfl, _⟩ | ⟨b, cap, cur, rfl, _, hh, _⟩
  · cases h
  · have : b = g := by injection h
    subst this
    have e1 : some (Obj.cells cur e (0, 0)) = some (Obj.cells cs t (0, 0)) := hh.symm.trans hb
    injection e1 with e1
    injection e1 with _ e2 _
    exact hne e2
theorem Blk.chg {w w' : World} {g t b : Nat} {cs : Array Value} (h : Blk w g t cs) (hc : Chg (· = b) w w') (hne : g ≠ b) : Blk w' g t cs := hc.blk h hne
theorem Chg.new {S : Nat → Prop} {w1 w2 w3 : World} {r : Option Nat} (h : Chg S w1 w2) (hg : w2.grownBy w3 r) (hr : ∀ g, r = some g → w1.heap.size ≤ g) : Chg S w1 w3 :=
  h.trans (S' := fun g => w1.heap.size ≤ g) (.of_grown hg hr) (fun g h1 h2 => absurd h1 (by omega))
structure InB (w : World) (b : Nat) (A : Option Addr) (n c : Nat) (zs : List Int) (s : RS) : Prop where
  hk : Blk w b 239 #[.bool true, .slice A n c, .int .i64 (s.1 : Int), .int .i64 s.2]
  ho : w.ownsRow 0 5 1 (.slice A n c) n (nums .u8 zs)
  hz : ∀ z ∈ zs, 0 ≤ z ∧ z < 256
  hm : n ≤ 1000000
  hf : Fit zs s
namespace InB
variable {w w' : World} {b : Nat} {A : Option Addr} {n c : Nat} {zs : List Int} {s : RS}
theorem hl (h : InB w b A n c zs s) : zs.length = n := by have := h.ho.1; simpa [nums] using this
theorem hr (h : InB w b A n c zs s) : Reads w w.heap.size 1 A n (nums .u8 zs) := Reads.of_own h.ho
theorem hc (h : InB w b A n c zs s) : n ≤ c := own_le' h.ho
theorem chg {S : Nat → Prop} (h : InB w b A n c zs s) (hc : Chg S w w') (hb : ¬ S b) (hS : ∀ g, (Value.slice A n c).ownBlock = some g → ¬ S g) : InB w' b A n c zs s :=
  ⟨hc.blk h.hk hb, hc.own h.ho hS, h.hz, h.hm, h.hf⟩
theorem ext (h : InB w b A n c zs s) (he : Ext w w') : InB w' b A n c zs s := h.chg (S := fun _ => False) (.of_ext he) id (fun _ _ => id)
theorem put {s' : RS} (h : InB w b A n c zs s) (hg : w.grownBy w' (some b)) (hk : Blk w' b 239 #[.bool true, .slice A n c, .int .i64 (s'.1 : Int), .int .i64 s'.2]) (hf : Fit zs s') : InB w' b A n c zs s' ∧ Chg (· = b) w w' := by
  have hc : Chg (· = b) w w' := .of_grown hg (fun g e => by injection e with e; exact e.symm)
  exact ⟨⟨hk, hc.own h.ho (fun g hg e => own_blkne h.ho h.hk (by decide) (e ▸ hg)), h.hz, h.hm, hf⟩, hc⟩
theorem fine (h : InB w b A n c zs s) : Calls Try.prog 186 #[.pointer (some ⟨b, 0, none⟩)] w fun e w' => e = .returned (.bool (decide (s.2 = 0))) ∧ w = w' := by
  have hb := h.hk
  refine enter Try.func186 rfl (by kernel_rfl) ?_
  refine J.seq ?_
  refine J.region ?_
  refine L.va rfl (X.assign (by conv => lhs; whnf)) ?_
  refine L.nil ?_
  refine J.seq ?_
  refine J.region ?_
  refine L.va rfl (X.move (by conv => lhs; whnf)) ?_
  refine L.va rfl (X.neqPn rfl rfl (by kernel_rfl)) ?_
  refine L.va rfl (X.move (by conv => lhs; whnf)) ?_
  refine L.caseBT (k := 5) rfl (by rfl) ?_
  refine L.va rfl (X.move (by conv => lhs; whnf)) ?_
  refine L.va rfl (X.nilCheck rfl) ?_
  refine L.va rfl (X.fieldAddr rfl Try.underlying239 rfl sz_4 (by decide)) ?_
  refine L.va rfl (X.load rfl sc_4 (by first | exact Ld.blk hb rfl)) ?_
  refine L.va rfl (X.pickT rfl (by conv => lhs; whnf)) ?_
  refine L.va rfl (X.move (by conv => lhs; whnf)) ?_
  refine L.caseBT (k := 11) rfl (by rfl) ?_
  refine L.va rfl (X.move (by conv => lhs; whnf)) ?_
  refine L.va rfl (X.nilCheck rfl) ?_
  refine L.va rfl (X.fieldAddr rfl Try.underlying239 rfl sz_38 (by decide)) ?_
  refine L.va rfl (X.load rfl sc_38 (by first | exact Ld.blk hb rfl)) ?_
  refine L.va rfl (X.eql rfl rfl) ?_
  refine L.va rfl (X.pickT rfl (by conv => lhs; whnf)) ?_
  refine L.va rfl (X.assign (by conv => lhs; whnf)) ?_
  refine L.nil ?_
  refine J.ret ?_
  refine fin1 ?_
  exact ⟨rfl, rfl⟩
theorem rest (h : InB w b A n c zs s) : Calls Try.prog 264 #[.pointer (some ⟨b, 0, none⟩)] w fun e w' => ∃ A' c', e = .returned (.slice A' (n - s.1) c') ∧ Reads w w.heap.size 1 A' (n - s.1) (nums .u8 (zs.drop s.1)) ∧ n - s.1 ≤ c' ∧ Ext w w' := by
  have hb := h.hk
  have hr := h.hr
  have hl := h.hl
  have hc := h.hc
  have hf := h.hf.1
  have hr1 := hr.cut (k := s.1) (cap := c) (by omega) hc
  have ez : List.drop (s.1 * 1) (nums .u8 zs) = nums .u8 (zs.drop s.1) := by simp [nums]
  rw [ez] at hr1
  refine enter Try.func264 rfl (by kernel_rfl) ?_
  refine J.seq ?_
  refine J.region ?_
  refine L.va rfl (X.assign (by conv => lhs; whnf)) ?_
  refine L.nil ?_
  refine J.seq ?_
  refine J.quiet mixed (by kernel_rfl) ?_
  refine Qt.va rfl (fun w' hw => X.move (by conv => lhs; whnf)) ?_
  refine Qt.va rfl (fun w' hw => X.nilCheck rfl) ?_
  refine Qt.va rfl (fun w' hw => X.fieldAddr rfl Try.underlying239 rfl sz_30 (by decide)) ?_
  refine Qt.va rfl (fun w' hw => X.load rfl sc_30 (by first | exact Ld.blk (hb.ext hw) rfl)) ?_
  refine Qt.va rfl (fun w' hw => X.move (by conv => lhs; whnf)) ?_
  refine Qt.va rfl (fun w' hw => X.nilCheck rfl) ?_
  refine Qt.va rfl (fun w' hw => X.fieldAddr rfl Try.underlying239 rfl sz_3 (by decide)) ?_
  refine Qt.va rfl (fun w' hw => X.load rfl sc_3 (by first | exact Ld.blk (hb.ext hw) rfl)) ?_
  refine Qt.va rfl (fun w' hw => (by first | exact X.sliceFromn rfl rfl Try.underlying30 sz_5 (by omega) | exact X.sliceFrom rfl rfl Try.underlying30 sz_5 (by omega))) ?_
  refine Qt.va rfl (fun w' hw => X.assign (by conv => lhs; whnf)) ?_
  refine Qt.nil (fun w1 hq => ?_)
  replace hb := hb.ext hq
  refine J.ret ?_
  refine fin1 ?_
  exact ⟨_, c - s.1, rfl, hr1, by omega, hq⟩
theorem fail (h : InB w b A n c zs s) (e : Int) (he : 0 ≤ e ∧ e ≤ 15) : Calls Try.prog 265 #[.pointer (some ⟨b, 0, none⟩), .int .i64 e] w fun r w' => r = .returned (.tuple #[]) ∧ InB w' b A n c zs (s.1, e) ∧ Chg (· = b) w w' := by
  have hb := h.hk
  refine enter Try.func265 rfl (by kernel_rfl) ?_
  refine J.region ?_
  refine L.va rfl (X.move (by conv => lhs; whnf)) ?_
  refine L.va rfl (X.move (by conv => lhs; whnf)) ?_
  refine L.va rfl (X.nilCheck rfl) ?_
  refine L.va rfl (X.fieldAddr rfl Try.underlying239 rfl sz_38 (by decide)) ?_
  refine L.store rfl rfl (by conv => lhs; whnf) rfl sz_38 (hb) (by first | decide | exact Nat.le_of_ble_eq_true rfl) ?_
  intro w1 hb1 hg1 hs1
  refine L.nil ?_
  refine fin0 (.inr rfl) ?_
  have := h.put (s' := (s.1, e)) hg1 hb1 ⟨h.hf.1, he⟩
  exact ⟨rfl, this.1, this.2⟩
theorem U1 {most x : Int} {mb : Nat} (hmb : Blk w mb 90 #[.int .u64 most]) : Calls Try.prog 237 #[.int .u64 x, .pointer (some ⟨mb, 0, none⟩)] w fun e w' => e = .returned (.int .i64 (if most < x then 2 else 0)) ∧ w = w' := by
  refine enter Try.func237 rfl (by kernel_rfl) ?_
  refine J.seq ?_
  refine J.region ?_
  refine L.va rfl (X.assign (by conv => lhs; whnf)) ?_
  refine L.nil ?_
  refine J.seq ?_
  refine J.seq ?_
  refine J.region ?_
  refine L.va rfl (X.move (by conv => lhs; whnf)) ?_
  refine L.va rfl (X.load rfl sc_90 (by first | exact Ld.blk hmb rfl)) ?_
  refine L.va rfl (X.gtr rfl rfl) ?_
  refine L.nil ?_
  refine J.dec rfl (fun h => ?_) (fun h => ?_)
  · refine J.seq ?_
    refine J.region ?_
    refine L.va rfl (X.assign (by conv => lhs; whnf)) ?_
    refine L.nil ?_
    refine J.ret ?_
    refine thn_ret <| ?_
    refine fin1 ?_
    exact ⟨by rw [if_pos h]; rfl, rfl⟩
  · refine J.skip ?_
    refine J.seq ?_
    refine J.region ?_
    refine L.va rfl (X.assign (by conv => lhs; whnf)) ?_
    refine L.nil ?_
    refine J.ret ?_
    refine fin1 ?_
    exact ⟨by rw [if_neg h]; rfl, rfl⟩
theorem read (h : InB w b A n c zs s) {most : Int} {mb : Nat} (hmb : Blk w mb 90 #[.int .u64 most]) (h0 : 0 ≤ most) :
    Calls Try.prog 235 #[.pointer (some ⟨b, 0, none⟩), .func (.func 236) #[] #[], .func (.func 237) #[] #[.pointer (some ⟨mb, 0, none⟩)]] w fun e w' => e = .returned (.int .u64 (rdU zs most s).1) ∧ InB w' b A n c zs (rdU zs most s).2 ∧ Chg (· = b) w w' := by
  have hl := h.hl
  have hf := h.hf
  refine enter Try.func235 rfl (by kernel_rfl) ?_
  refine J.seq ?_
  refine J.region ?_
  refine L.va rfl (X.assign (by conv => lhs; whnf)) ?_
  refine L.nil ?_
  refine J.seq ?_
  refine J.region ?_
  refine L.va rfl (X.assign (by conv => lhs; whnf)) ?_
  refine L.nil ?_
  refine J.seq ?_
  refine J.seq ?_
  refine J.region ?_
  refine L.va rfl (X.move (by conv => lhs; whnf)) ?_
  refine L.call rfl en_186 rfl (h.fine) ?_
  rintro e _ ⟨rfl, rfl⟩
  refine ⟨_, rfl, ?_⟩
  refine L.va rfl (X.not rfl) ?_
  refine L.nil ?_
  refine J.ite rfl (fun hs => ?_) (fun hs => ?_)
  · have hs : s.2 ≠ 0 := by simpa using hs
    have e : rdU zs most s = (0, s) := by unfold rdU; rw [if_pos hs]
    rw [e]
    refine J.seq ?_
    refine J.region ?_
    refine L.va rfl (X.move (by conv => lhs; whnf)) ?_
    refine L.va rfl (X.assign (by conv => lhs; whnf)) ?_
    refine L.nil ?_
    refine J.ret ?_
    refine thn_ret <| ?_
    refine fin1 ?_
    exact ⟨rfl, h, .of_ext (.refl _)⟩
  · have hs : s.2 = 0 := by simpa using hs
    have hm0 := h.hm
    have hf1 := hf.1
    have hgl := gu_le (zs.drop s.1) (fun z hz => h.hz z (List.mem_of_mem_drop hz))
    rw [List.length_drop, hl] at hgl
    obtain ⟨g, hg⟩ : ∃ g, gu (zs.drop s.1) = g := ⟨_, rfl⟩
    have e : rdU zs most s = if g.2.2 ≠ 0 then (0, (s.1, g.2.2)) else if most < g.1 then (0, (s.1, 2)) else (g.1, (s.1 + g.2.1, 0)) := by unfold rdU; rw [if_neg (fun hh => hh hs), hg]
    rw [hg] at hgl
    refine J.skip ?_
    refine J.seq ?_
    refine J.region ?_
    refine L.va rfl (X.move (by conv => lhs; whnf)) ?_
    refine L.va rfl (X.move (by conv => lhs; whnf)) ?_
    refine L.call rfl en_264 rfl (h.rest) ?_
    rintro e w1 ⟨A1, c1, rfl, hr1, hc1, he1⟩
    refine ⟨_, rfl, ?_⟩
    have h1 := h.ext he1
    have hmb1 := hmb.ext he1
    have kU := code_GetU A1 (n - s.1) c1 (zs.drop s.1) w1 ((hr1.ext he1).more he1.le) (fun z hz => h.hz z (List.mem_of_mem_drop hz)) (by have := h.hm; omega) hc1
    rw [hg] at kU
    refine L.callV rfl en_236 rfl rfl (kU) ?_
    rintro e _ ⟨rfl, rfl⟩
    refine ⟨_, rfl, ?_⟩
    refine L.va rfl (X.move (by conv => lhs; whnf)) ?_
    refine L.va rfl (X.extract rfl rfl) ?_
    refine L.va rfl (X.extract rfl rfl) ?_
    refine L.va rfl (X.extract rfl rfl) ?_
    refine L.va rfl (X.assign (by conv => lhs; whnf)) ?_
    refine L.va rfl (X.assign (by conv => lhs; whnf)) ?_
    refine L.va rfl (X.assign (by conv => lhs; whnf)) ?_
    refine L.nil ?_
    refine J.seq ?_
    refine J.seq ?_
    refine J.region ?_
    refine L.va rfl (X.move (by conv => lhs; whnf)) ?_
    refine L.va rfl (X.eql rfl rfl) ?_
    refine L.nil ?_
    refine J.dec rfl (fun he => ?_) (fun he => ?_)
    · rw [if_neg (fun hh => hh he)] at e
      refine J.region ?_
      refine L.va rfl (X.move (by conv => lhs; whnf)) ?_
      refine L.va rfl (X.move (by conv => lhs; whnf)) ?_
      refine L.callC rfl en_237 rfl rfl (U1 hmb1) ?_
      rintro e _ ⟨rfl, rfl⟩
      refine ⟨_, rfl, ?_⟩
      by_cases hm : most < g.1
      · rw [if_pos hm] at e
        rw [if_pos hm, e]
        refine L.va rfl (X.assign (by conv => lhs; whnf)) ?_
        refine L.nil ?_
        refine J.seq ?_
        refine J.seq ?_
        refine J.region ?_
        refine L.va rfl (X.move (by conv => lhs; whnf)) ?_
        refine L.va rfl (X.neq rfl rfl) ?_
        refine L.nil ?_
        refine J.ndecT rfl (by decide) ?_
        refine J.seq ?_
        refine J.region ?_
        refine L.va rfl (X.move (by conv => lhs; whnf)) ?_
        refine L.va rfl (X.move (by conv => lhs; whnf)) ?_
        refine L.call rfl en_265 rfl (h1.fail 2 (by decide)) ?_
        rintro e w2 ⟨rfl, h2, hc2⟩
        refine ⟨_, rfl, ?_⟩
        refine L.nil ?_
        refine J.seq ?_
        refine J.region ?_
        refine L.va rfl (X.move (by conv => lhs; whnf)) ?_
        refine L.va rfl (X.assign (by conv => lhs; whnf)) ?_
        refine L.nil ?_
        refine J.ret ?_
        refine thn_ret <| ?_
        refine fin1 ?_
        exact ⟨rfl, h2, (Chg.of_ext he1).trans hc2 (fun _ _ => id)⟩
      · rw [if_neg hm] at e
        rw [if_neg hm, e]
        have hb1 := h1.hk
        refine L.va rfl (X.assign (by conv => lhs; whnf)) ?_
        refine L.nil ?_
        refine J.seq ?_
        refine J.seq ?_
        refine J.region ?_
        refine L.va rfl (X.move (by conv => lhs; whnf)) ?_
        refine L.va rfl (X.neq rfl rfl) ?_
        refine L.nil ?_
        refine J.ndecF rfl (by decide) ?_
        refine J.skip ?_
        refine J.seq ?_
        refine J.region ?_
        refine L.va rfl (X.move (by conv => lhs; whnf)) ?_
        refine L.va rfl (X.nilCheck rfl) ?_
        refine L.va rfl (X.fieldAddr rfl Try.underlying239 rfl sz_3 (by decide)) ?_
        refine L.va rfl (X.load rfl sc_3 (by first | exact Ld.blk hb1 rfl)) ?_
        refine L.va rfl (X.move (by conv => lhs; whnf)) ?_
        refine L.va rfl (X.add rfl rfl (by omega)) ?_
        refine L.va rfl (X.nilCheck rfl) ?_
        refine L.va rfl (X.fieldAddr rfl Try.underlying239 rfl sz_3 (by decide)) ?_
        refine L.store rfl rfl (by conv => lhs; whnf) rfl sz_3 (hb1) (by first | decide | exact Nat.le_of_ble_eq_true rfl) ?_
        intro w2 hb2 hg2 hs2
        refine L.nil ?_
        refine J.seq ?_
        refine J.region ?_
        refine L.va rfl (X.move (by conv => lhs; whnf)) ?_
        refine L.va rfl (X.assign (by conv => lhs; whnf)) ?_
        refine L.nil ?_
        refine J.ret ?_
        refine fin1 ?_
        have := h1.put (s' := (s.1 + g.2.1, s.2)) hg2 hb2 ⟨by dsimp only; omega, by rw [hs]; decide⟩
        rw [hs] at this
        exact ⟨rfl, this.1, (Chg.of_ext he1).trans this.2 (fun _ _ => id)⟩
    · rw [if_pos he] at e
      rw [e]
      refine J.skip ?_
      refine J.seq ?_
      refine J.seq ?_
      refine J.region ?_
      refine L.va rfl (X.move (by conv => lhs; whnf)) ?_
      refine L.va rfl (X.neq rfl rfl) ?_
      refine L.nil ?_
      refine J.ndecT rfl (by exact he) ?_
      refine J.seq ?_
      refine J.region ?_
      refine L.va rfl (X.move (by conv => lhs; whnf)) ?_
      refine L.va rfl (X.move (by conv => lhs; whnf)) ?_
      refine L.call rfl en_265 rfl (h1.fail g.2.2 (by omega)) ?_
      rintro e w2 ⟨rfl, h2, hc2⟩
      refine ⟨_, rfl, ?_⟩
      refine L.nil ?_
      refine J.seq ?_
      refine J.region ?_
      refine L.va rfl (X.move (by conv => lhs; whnf)) ?_
      refine L.va rfl (X.assign (by conv => lhs; whnf)) ?_
      refine L.nil ?_
      refine J.ret ?_
      refine thn_ret <| ?_
      refine fin1 ?_
      exact ⟨rfl, h2, (Chg.of_ext he1).trans hc2 (fun _ _ => id)⟩
theorem U (h : InB w b A n c zs s) (most : Int) (h0 : 0 ≤ most) : Calls Try.prog 184 #[.pointer (some ⟨b, 0, none⟩), .int .u64 most] w fun e w' => e = .returned (.int .u64 (rdU zs most s).1) ∧ InB w' b A n c zs (rdU zs most s).2 ∧ Chg (· = b) w w' := by
  refine enter Try.func184 rfl (by kernel_rfl) ?_
  refine J.seq ?_
  refine J.region ?_
  refine L.box rfl (by conv => lhs; whnf) ?_
  intro b1 w1 hb1 hs1 hk1 he1
  refine L.va rfl (X.assign (by conv => lhs; whnf)) ?_
  refine L.nil ?_
  refine J.seq ?_
  refine J.region ?_
  refine L.va rfl (X.move (by conv => lhs; whnf)) ?_
  refine L.va rfl (X.makeFn rfl) ?_
  refine L.call rfl en_235 rfl ((h.ext he1).read hk1 h0) ?_
  rintro e w2 ⟨rfl, h2, hc2⟩
  refine ⟨_, rfl, ?_⟩
  refine L.va rfl (X.assign (by conv => lhs; whnf)) ?_
  refine L.nil ?_
  refine J.ret ?_
  refine fin1 ?_
  exact ⟨rfl, h2, (Chg.of_ext he1).trans hc2 (fun _ _ => id)⟩
theorem new (hr : Reads w w.heap.size 1 A n (nums .u8 zs)) (hz : ∀ z ∈ zs, 0 ≤ z ∧ z < 256) (hm : n ≤ 1000000) : Calls Try.prog 108 #[.slice A n c] w fun e w' => ∃ b A' c', e = .returned (.pointer (some ⟨b, 0, none⟩)) ∧ InB w' b A' n c' zs (0, 0) ∧ w.heap.size ≤ b ∧ Ext w w' := by
  have hl : zs.length = n := by have := hr.1; simpa [nums] using this
  refine enter Try.func108 rfl (by kernel_rfl) ?_
  refine J.seq ?_
  refine J.region ?_
  refine L.va rfl (X.assign (by conv => lhs; whnf)) ?_
  refine L.nil ?_
  refine J.seq ?_
  refine J.region ?_
  refine L.va rfl (X.move (by conv => lhs; whnf)) ?_
  refine L.appendQ (q := n) (ys := zs) rfl rfl rfl Try.underlying30 el_5 ((show w.ownsRow 0 5 1 (.slice none 0 0) 0 (nums .u8 []) from own_nil _ _ _ _)) (hr) (by omega) (by simp) (by unfold maxLen; omega) (by omega) ?_
  intro A4 c4 w4 ho4 hg4 hb4 hor4
  have he4 : Ext w w4 := (Ext.refl w).grw (r := none) hg4 (fun g h => by cases h)
  refine L.va rfl (X.build (l := [_, _, _, _]) (Evs.cons (by conv => lhs; whnf) (Evs.cons (by conv => lhs; whnf) Evs.nil)) (bld_run Try.underlying239 (bp_239 Try.underlying239) zr_239 rfl)) ?_
  refine L.boxA (l := [_, _, _, _]) rfl rfl ?_
  intro b5 w5 hb5 hs5 hk5 he5
  refine L.va rfl (X.assign (by conv => lhs; whnf)) ?_
  refine L.nil ?_
  refine J.ret ?_
  refine fin1 ?_
  exact ⟨b5, A4, c4, rfl, ⟨hk5, ho4.ext he5, hz, hm, Nat.zero_le _, Int.le_refl _, by decide⟩, by have := he4.le; omega, he4.trans he5⟩
theorem Fault (h : InB w b A n c zs s) : Calls Try.prog 185 #[.pointer (some ⟨b, 0, none⟩)] w fun e w' => e = .returned (.tuple #[.int .i64 (if s.2 = 0 then 0 else (s.1 : Int)), .int .i64 s.2]) ∧ Ext w w' := by
  have hb := h.hk
  refine enter Try.func185 rfl (by kernel_rfl) ?_
  refine J.seq ?_
  refine J.region ?_
  refine L.va rfl (X.assign (by conv => lhs; whnf)) ?_
  refine L.va rfl (X.assign (by conv => lhs; whnf)) ?_
  refine L.nil ?_
  refine J.seq ?_
  refine J.seq ?_
  refine J.region ?_
  refine L.va rfl (X.move (by conv => lhs; whnf)) ?_
  refine L.va rfl (X.eqlPn rfl rfl (by kernel_rfl)) ?_
  refine L.va rfl (X.move (by conv => lhs; whnf)) ?_
  refine L.caseBF (k := 6) rfl (by rfl) ?_
  refine L.va rfl (X.move (by conv => lhs; whnf)) ?_
  refine L.va rfl (X.nilCheck rfl) ?_
  refine L.va rfl (X.fieldAddr rfl Try.underlying239 rfl sz_4 (by decide)) ?_
  refine L.va rfl (X.load rfl sc_4 (by first | exact Ld.blk hb rfl)) ?_
  refine L.va rfl (X.not rfl) ?_
  refine L.va rfl (X.pickF rfl (by conv => lhs; whnf)) ?_
  refine L.nil ?_
  refine J.iteF rfl ?_
  refine J.skip ?_
  refine J.seq ?_
  refine J.seq ?_
  refine J.region ?_
  refine L.va rfl (X.move (by conv => lhs; whnf)) ?_
  refine L.va rfl (X.nilCheck rfl) ?_
  refine L.va rfl (X.fieldAddr rfl Try.underlying239 rfl sz_38 (by decide)) ?_
  refine L.va rfl (X.load rfl sc_38 (by first | exact Ld.blk hb rfl)) ?_
  refine L.va rfl (X.eql rfl rfl) ?_
  refine L.nil ?_
  refine J.dec rfl (fun hs => ?_) (fun hs => ?_)
  · refine J.seq ?_
    refine J.region ?_
    refine L.va rfl (X.assign (by conv => lhs; whnf)) ?_
    refine L.va rfl (X.assign (by conv => lhs; whnf)) ?_
    refine L.nil ?_
    refine J.ret ?_
    refine thn_ret <| ?_
    refine fin2 ?_
    exact ⟨by rw [if_pos hs, hs]; rfl, .refl _⟩
  · refine J.skip ?_
    refine J.seq ?_
    refine J.quiet mixed (by kernel_rfl) ?_
    refine Qt.va rfl (fun w' hw => X.move (by conv => lhs; whnf)) ?_
    refine Qt.va rfl (fun w' hw => X.nilCheck rfl) ?_
    refine Qt.va rfl (fun w' hw => X.fieldAddr rfl Try.underlying239 rfl sz_3 (by decide)) ?_
    refine Qt.va rfl (fun w' hw => X.load rfl sc_3 (by first | exact Ld.blk (hb.ext hw) rfl)) ?_
    refine Qt.va rfl (fun w' hw => X.move (by conv => lhs; whnf)) ?_
    refine Qt.va rfl (fun w' hw => X.nilCheck rfl) ?_
    refine Qt.va rfl (fun w' hw => X.fieldAddr rfl Try.underlying239 rfl sz_38 (by decide)) ?_
    refine Qt.va rfl (fun w' hw => X.load rfl sc_38 (by first | exact Ld.blk (hb.ext hw) rfl)) ?_
    refine Qt.va rfl (fun w' hw => X.assign (by conv => lhs; whnf)) ?_
    refine Qt.va rfl (fun w' hw => X.assign (by conv => lhs; whnf)) ?_
    refine Qt.nil (fun w1 hq => ?_)
    replace hb := hb.ext hq
    refine J.ret ?_
    refine fin2 ?_
    exact ⟨by rw [if_neg hs]; rfl, hq⟩
theorem End (h : InB w b A n c zs s) : Calls Try.prog 110 #[.pointer (some ⟨b, 0, none⟩)] w fun e w' => e = .returned (.int .i64 (rdE zs s)) ∧ InB w' b A n c zs (s.1, rdE zs s) ∧ Chg (· = b) w w' := by
  have hb := h.hk
  have hl := h.hl
  have hf := h.hf
  refine enter Try.func110 rfl (by kernel_rfl) ?_
  refine J.seq ?_
  refine J.region ?_
  refine L.va rfl (X.assign (by conv => lhs; whnf)) ?_
  refine L.nil ?_
  refine J.seq ?_
  refine J.seq ?_
  refine J.quiet mixed (by kernel_rfl) ?_
  refine Qt.va rfl (fun w' hw => X.move (by conv => lhs; whnf)) ?_
  refine Qt.call rfl en_186 rfl (fun w' hw => calls_same hw (h.ext hw).fine) ?_
  refine Qt.va rfl (fun w' hw => X.move (by conv => lhs; whnf)) ?_
  refine Qt.caseB (k := 7) rfl (fun hs => ?_) (fun hs => ?_)
  · have hs : s.2 = 0 := by simpa using hs
    refine Qt.va rfl (fun w' hw => X.move (by conv => lhs; whnf)) ?_
    refine Qt.va rfl (fun w' hw => X.nilCheck rfl) ?_
    refine Qt.va rfl (fun w' hw => X.fieldAddr rfl Try.underlying239 rfl sz_3 (by decide)) ?_
    refine Qt.va rfl (fun w' hw => X.load rfl sc_3 (by first | exact Ld.blk (hb.ext hw) rfl)) ?_
    refine Qt.va rfl (fun w' hw => X.move (by conv => lhs; whnf)) ?_
    refine Qt.va rfl (fun w' hw => X.nilCheck rfl) ?_
    refine Qt.va rfl (fun w' hw => X.fieldAddr rfl Try.underlying239 rfl sz_30 (by decide)) ?_
    refine Qt.va rfl (fun w' hw => X.load rfl sc_30 (by first | exact Ld.blk (hb.ext hw) rfl)) ?_
    refine Qt.va rfl (fun w' hw => X.len rfl Try.underlying30) ?_
    refine Qt.va rfl (fun w' hw => X.lss rfl rfl) ?_
    refine Qt.va rfl (fun w' hw => X.pickT rfl (by conv => lhs; whnf)) ?_
    refine Qt.nil (fun w1 hq => ?_)
    replace hb := hb.ext hq
    refine J.dec rfl (fun hlt => ?_) (fun hlt => ?_)
    · have e : rdE zs s = 7 := by unfold rdE; rw [if_pos ⟨hs, by omega⟩]
      rw [e]
      have h1 := h.ext hq
      have hb1 := h1.hk
      refine J.region ?_
      refine L.va rfl (X.move (by conv => lhs; whnf)) ?_
      refine L.va rfl (X.nilCheck rfl) ?_
      refine L.va rfl (X.fieldAddr rfl Try.underlying239 rfl sz_38 (by decide)) ?_
      refine L.store rfl rfl (by conv => lhs; whnf) rfl sz_38 (hb1) (by first | decide | exact Nat.le_of_ble_eq_true rfl) ?_
      intro w2 hb2 hg2 hs2
      have k := h1.put (s' := (s.1, 7)) hg2 hb2 ⟨hf.1, (by decide : (0 : Int) ≤ 7), (by decide : (7 : Int) ≤ 15)⟩
      refine L.nil ?_
      refine J.seq ?_
      refine J.region ?_
      refine L.va rfl (X.move (by conv => lhs; whnf)) ?_
      refine L.call rfl en_185 rfl (k.1.Fault) ?_
      rintro e w3 ⟨rfl, he3⟩
      refine ⟨_, rfl, ?_⟩
      refine L.va rfl (X.move (by conv => lhs; whnf)) ?_
      refine L.va rfl (X.extract rfl rfl) ?_
      refine L.va rfl (X.extract rfl rfl) ?_
      refine L.va rfl (X.assign (by conv => lhs; whnf)) ?_
      refine L.va rfl (X.assign (by conv => lhs; whnf)) ?_
      refine L.nil ?_
      refine J.seq ?_
      refine J.region ?_
      refine L.va rfl (X.move (by conv => lhs; whnf)) ?_
      refine L.va rfl (X.assign (by conv => lhs; whnf)) ?_
      refine L.nil ?_
      refine J.ret ?_
      refine fin1 ?_
      exact ⟨rfl, k.1.ext he3, ((Chg.of_ext hq).trans k.2 (fun _ _ => id)).trans (.of_ext he3) (fun _ _ => id)⟩
    · have e : rdE zs s = 0 := by unfold rdE; rw [if_neg (fun hh => by omega), hs]
      rw [e]
      have h1 := h.ext hq
      refine J.skip ?_
      refine J.seq ?_
      refine J.region ?_
      refine L.va rfl (X.move (by conv => lhs; whnf)) ?_
      refine L.call rfl en_185 rfl (h1.Fault) ?_
      rintro e w3 ⟨rfl, he3⟩
      refine ⟨_, rfl, ?_⟩
      rw [hs]
      refine L.va rfl (X.move (by conv => lhs; whnf)) ?_
      refine L.va rfl (X.extract rfl rfl) ?_
      refine L.va rfl (X.extract rfl rfl) ?_
      refine L.va rfl (X.assign (by conv => lhs; whnf)) ?_
      refine L.va rfl (X.assign (by conv => lhs; whnf)) ?_
      refine L.nil ?_
      refine J.seq ?_
      refine J.region ?_
      refine L.va rfl (X.move (by conv => lhs; whnf)) ?_
      refine L.va rfl (X.assign (by conv => lhs; whnf)) ?_
      refine L.nil ?_
      refine J.ret ?_
      refine fin1 ?_
      have h3 := h1.ext he3
      rw [show s = (s.1, 0) from Prod.ext rfl hs] at h3
      exact ⟨rfl, h3, (Chg.of_ext hq).trans (.of_ext he3) (fun _ _ => id)⟩
  · have hs : s.2 ≠ 0 := by simpa using hs
    have e : rdE zs s = s.2 := by unfold rdE; rw [if_neg (fun hh => hs hh.1)]
    rw [e]
    refine Qt.no rfl ?_
    refine Qt.no rfl ?_
    refine Qt.no rfl ?_
    refine Qt.no rfl ?_
    refine Qt.no rfl ?_
    refine Qt.no rfl ?_
    refine Qt.no rfl ?_
    refine Qt.no rfl ?_
    refine Qt.no rfl ?_
    refine Qt.no rfl ?_
    refine Qt.va rfl (fun w' hw => X.pickF rfl (by conv => lhs; whnf)) ?_
    refine Qt.nil (fun w1 hq => ?_)
    replace hb := hb.ext hq
    refine J.iteF rfl ?_
    have h1 := h.ext hq
    refine J.skip ?_
    refine J.seq ?_
    refine J.region ?_
    refine L.va rfl (X.move (by conv => lhs; whnf)) ?_
    refine L.call rfl en_185 rfl (h1.Fault) ?_
    rintro e w3 ⟨rfl, he3⟩
    refine ⟨_, rfl, ?_⟩
    refine L.va rfl (X.move (by conv => lhs; whnf)) ?_
    refine L.va rfl (X.extract rfl rfl) ?_
    refine L.va rfl (X.extract rfl rfl) ?_
    refine L.va rfl (X.assign (by conv => lhs; whnf)) ?_
    refine L.va rfl (X.assign (by conv => lhs; whnf)) ?_
    refine L.nil ?_
    refine J.seq ?_
    refine J.region ?_
    refine L.va rfl (X.move (by conv => lhs; whnf)) ?_
    refine L.va rfl (X.assign (by conv => lhs; whnf)) ?_
    refine L.nil ?_
    refine J.ret ?_
    refine fin1 ?_
    exact ⟨rfl, h1.ext he3, (Chg.of_ext hq).trans (.of_ext he3) (fun _ _ => id)⟩
end InB
end Go.Proofs.Ytlipeplfjkgamaa
namespace Go.Proofs.Ytlipeplfjkgamaa
set_option maxRecDepth 100000
open Go.RowKit H
open Byts Cod
set_option linter.unusedVariables false
structure OutB (B : Nat) (E0 : Nat → Prop) (w : World) (b : Nat) (A : Option Addr) (n c : Nat) (zs : List Int) : Prop where
  hk : Blk w b 248 #[.bool true, .slice A n c]
  ho : w.ownsRow B 5 1 (.slice A n c) n (nums .u8 zs)
  hb : B ≤ b
  hx : ¬ E0 b
  hX : ∀ g, E0 g → g < w.heap.size
  hox : ∀ g, (Value.slice A n c).ownBlock = some g → ¬ E0 g
namespace OutB
variable {w w' : World} {B b : Nat} {E0 : Nat → Prop} {A : Option Addr} {n c : Nat} {zs : List Int}
theorem hl (h : OutB B E0 w b A n c zs) : zs.length = n := by have := h.ho.1; simpa [nums] using this
theorem hr (h : OutB B E0 w b A n c zs) : Reads w w.heap.size 1 A n (nums .u8 zs) := Reads.of_own h.ho
theorem ext (h : OutB B E0 w b A n c zs) (he : Ext w w') : OutB B E0 w' b A n c zs :=
  ⟨h.hk.ext he, h.ho.ext he, h.hb, h.hx, fun g hg => Nat.lt_of_lt_of_le (h.hX g hg) he.le, h.hox⟩
theorem more {Y : Nat → Prop} (h : OutB B E0 w b A n c zs) (hY : ∀ g, Y g → E0 g ∨ (w.heap.size ≤ g ∧ g < w'.heap.size)) (he : Ext w w') : OutB B Y w' b A n c zs := by
  have h1 := h.ext he
  refine ⟨h1.hk, h1.ho, h1.hb, fun hy => ?_, fun g hg => ?_, fun g hg hy => ?_⟩
  · rcases hY b hy with h2 | h2
    · exact h.hx h2
    · have := h.hk.lt; omega
  · rcases hY g hg with h2 | h2
    · exact h1.hX g h2
    · exact h2.2
  · rcases hY g hy with h2 | h2
    · exact h.hox g hg h2
    · have := (h.ho.lt g hg).2; omega
theorem lay {A2 : Option Addr} {m c2 : Nat} {ys : List Int} (h : OutB B E0 w b A n c zs) (hr : Reads w w.heap.size 1 A2 m (nums .u8 ys)) (hm : n + m ≤ 100000000) :
    Calls Try.prog 188 #[.pointer (some ⟨b, 0, none⟩), .slice A2 m c2] w fun e w' => e = .returned (.tuple #[]) ∧ (∃ A' c', OutB B E0 w' b A' (n + m) c' (zs ++ ys)) ∧ Chg (fun g => B ≤ g ∧ ¬ E0 g) w w' := by
  have hb := h.hk
  refine enter Try.func188 rfl (by kernel_rfl) ?_
  refine J.seq ?_
  refine J.region ?_
  refine L.va rfl (X.move (by conv => lhs; whnf)) ?_
  refine L.va rfl (X.neqPn rfl rfl (by kernel_rfl)) ?_
  refine L.va rfl (X.move (by conv => lhs; whnf)) ?_
  refine L.caseBT (k := 6) rfl (by rfl) ?_
  refine L.va rfl (X.move (by conv => lhs; whnf)) ?_
  refine L.va rfl (X.nilCheck rfl) ?_
  refine L.va rfl (X.fieldAddr rfl Try.underlying248 rfl sz_4 (by decide)) ?_
  refine L.va rfl (X.load rfl sc_4 (by first | exact Ld.blk hb rfl)) ?_
  refine L.va rfl (X.pickT rfl (by conv => lhs; whnf)) ?_
  refine L.nil ?_
  refine J.iteT rfl ?_
  refine J.region ?_
  refine L.va rfl (X.move (by conv => lhs; whnf)) ?_
  refine L.va rfl (X.move (by conv => lhs; whnf)) ?_
  refine L.va rfl (X.nilCheck rfl) ?_
  refine L.va rfl (X.fieldAddr rfl Try.underlying248 rfl sz_30 (by decide)) ?_
  refine L.va rfl (X.load rfl sc_30 (by first | exact Ld.blk hb rfl)) ?_
  refine L.va rfl (X.move (by conv => lhs; whnf)) ?_
  have hbb := h.hb
  have hbl := hb.lt
  refine L.appendQ (q := n + m) (ys := zs ++ ys) rfl rfl rfl Try.underlying30 el_5 (h.ho) (hr) (by omega) (by simp) (by unfold maxLen; omega) (by omega) ?_
  intro A3 c3 w3 ho3 hg3 hb3 hor3
  have hne : ∀ g, (Value.slice A n c).ownBlock = some g → B ≤ g ∧ ¬ E0 g := fun g hg => ⟨(h.ho.lt g hg).1, h.hox g hg⟩
  have hc3 : Chg (fun g => B ≤ g ∧ ¬ E0 g) w w3 := .of_grown hg3 hne
  have hk3 := hb.grown hg3 (fun e => own_blkne h.ho hb (by decide) e.symm)
  refine L.va rfl (X.nilCheck rfl) ?_
  refine L.va rfl (X.fieldAddr rfl Try.underlying248 rfl sz_30 (by decide)) ?_
  refine L.store rfl rfl (by conv => lhs; whnf) rfl sz_30 (hk3) (by first | decide | exact Nat.le_of_ble_eq_true rfl) ?_
  intro w4 hk4 hg4 hs4
  refine L.nil ?_
  refine fin0 (.inr rfl) ?_
  have hc4 : Chg (fun g => B ≤ g ∧ ¬ E0 g) w3 w4 := .of_grown hg4 (fun g e => by injection e with e; subst e; exact ⟨h.hb, h.hx⟩)
  refine ⟨rfl, ⟨A3, c3, hk4, ho3.kept hg4 (.inr (own_blkne ho3 hk3 (by decide))), h.hb, h.hx, fun g hg => ?_, fun g hg hy => ?_⟩, hc3.trans hc4 (fun _ _ => id)⟩
  · have := h.hX g hg; have := hc3.size; have := hc4.size; omega
  · rcases hor3 with e | e
    · rw [e] at hg; exact h.hox g hg hy
    · rw [e] at hg; injection hg with hg; have := h.hX g hy; omega
theorem U (h : OutB B E0 w b A n c zs) (x : Int) (h0 : 0 ≤ x) (h1 : x ≤ 18446744073709551615) (hm : n ≤ 10000000) :
    Calls Try.prog 117 #[.pointer (some ⟨b, 0, none⟩), .int .u64 x] w fun e w' => e = .returned (.tuple #[]) ∧ (∃ A' c', OutB B E0 w' b A' (n + (wd x + 1)) c' (zs ++ cu x)) ∧ Chg (fun g => B ≤ g ∧ ¬ E0 g) w w' := by
  have h8 := wd_le8 h0 h1
  refine enter Try.func117 rfl (by kernel_rfl) ?_
  refine J.region ?_
  refine L.va rfl (X.move (by conv => lhs; whnf)) ?_
  refine L.va rfl (X.move (by conv => lhs; whnf)) ?_
  refine L.call rfl en_189 rfl (code_U x w h0 h1) ?_
  rintro e w1 ⟨A1, c1, rfl, ho1, he1⟩
  refine ⟨_, rfl, ?_⟩
  refine L.call rfl en_188 rfl ((h.ext he1).lay (own_reads ho1) (by omega)) ?_
  rintro e w2 ⟨rfl, h2, hc2⟩
  refine ⟨_, rfl, ?_⟩
  refine L.nil ?_
  refine fin0 (.inr rfl) ?_
  exact ⟨rfl, h2, (Chg.of_ext he1).trans hc2 (fun _ _ => id)⟩
theorem new (w : World) : Calls Try.prog 115 #[] w fun e w' => ∃ b, e = .returned (.pointer (some ⟨b, 0, none⟩)) ∧ OutB w.heap.size (fun _ => False) w' b none 0 0 [] ∧ w.heap.size ≤ b ∧ Ext w w' := by
  refine enter Try.func115 rfl (by kernel_rfl) ?_
  refine J.seq ?_
  refine J.region ?_
  refine L.va rfl (X.assign (by conv => lhs; whnf)) ?_
  refine L.nil ?_
  refine J.seq ?_
  refine J.region ?_
  refine L.va rfl (X.build (l := [_, _]) (Evs.cons (by conv => lhs; whnf) Evs.nil) (bld_run Try.underlying248 (bp_248 Try.underlying248) zr_248 rfl)) ?_
  refine L.boxA (l := [_, _]) rfl rfl ?_
  intro b5 w5 hb5 hs5 hk5 he5
  refine L.va rfl (X.assign (by conv => lhs; whnf)) ?_
  refine L.nil ?_
  refine J.ret ?_
  refine fin1 ?_
  exact ⟨b5, rfl, ⟨hk5, own_nil _ _ _ _, by omega, id, fun _ h => h.elim, fun _ _ => id⟩, by omega, he5⟩
end OutB
end Go.Proofs.Ytlipeplfjkgamaa
namespace Go.Proofs.Ytlipeplfjkgamaa
open Go.RowKit H
set_option linter.unusedVariables false
def OfT (w : World) (t g : Nat) : Prop := ∃ cs, Blk w g t cs
theorem Blk.ofT {w : World} {g t : Nat} {cs : Array Value} (h : Blk w g t cs) : OfT w t g := ⟨cs, h⟩
theorem OfT.one {w : World} {g t t' : Nat} (h : OfT w t g) (h' : OfT w t' g) : t = t' := by
  obtain ⟨cs, h⟩ := h
  obtain ⟨cs', h'⟩ := h'
  unfold Blk at h h'
  rw [h] at h'
  injection h' with h'
  injection h'
theorem own_ofT {w : World} {base e size n : Nat} {v : Value} {xs : List Value} (h : w.ownsRow base e size v n xs) {g : Nat} (hg : v.ownBlock = some g) : OfT w e g ∧ base ≤ g := by
  rcases h.2 with ⟨rfl, _⟩ | ⟨b, cap, cur, rfl, hb, hh, _⟩
  · cases hg
  · obtain rfl : b = g := by injection hg
    exact ⟨⟨cur, hh⟩, hb⟩
def TCh (t : Nat) (w w' : World) : Prop := Chg (OfT w t) w w'
namespace TCh
variable {w w' : World} {t : Nat} {rw0 : Option Nat}
theorem grown (hg : w.grownBy w' rw0) (h : ∀ g, rw0 = some g → OfT w t g) : TCh t w w' := Chg.of_grown hg h
theorem row {base size n : Nat} {v : Value} {xs : List Value} (ho : w.ownsRow base t size v n xs) (hg : w.grownBy w' v.ownBlock) : TCh t w w' := grown hg fun g e => (own_ofT ho e).1
theorem put {b : Nat} {cs : Array Value} (hk : Blk w b t cs) (hg : w.grownBy w' (some b)) : TCh t w w' := grown hg fun g e => by injection e with e; subst e; exact hk.ofT
theorem ext (he : Ext w w') : TCh t w w' := Chg.of_ext he
theorem own {base e size n : Nat} {v : Value} {xs : List Value} (hC : TCh t w w') (ho : w.ownsRow base e size v n xs) (hne : e ≠ t) : w'.ownsRow base e size v n xs :=
  Chg.own hC ho fun g hg hS => hne ((own_ofT ho hg).1.one hS)
theorem blk {g e : Nat} {cs : Array Value} (hC : TCh t w w') (hb : Blk w g e cs) (hne : e ≠ t) : Blk w' g e cs := Chg.blk hC hb fun hS => hne (hb.ofT.one hS)
theorem size (hC : TCh t w w') : w.heap.size ≤ w'.heap.size := Chg.size hC
end TCh
end Go.Proofs.Ytlipeplfjkgamaa
namespace Go.Proofs.Ytlipeplfjkgamaa
open Go.RowKit H
set_option linter.unusedVariables false
def strs (l : List ByteArray) : List Value := l.map Value.string
theorem strs_length (l : List ByteArray) : (strs l).length = l.length := by simp [strs]
def be0 : ByteArray := ⟨#[]⟩
namespace H
theorem Ld.str {w : World} {B n : Nat} {A : Option Addr} {l : List ByteArray} (h : Reads w B 1 A n (strs l)) {j : Nat} (hj : j < n) : Ld w (pA A j) (.string (l.getD j be0)) := by
  have h1 := Ld.rd h (j := j) (by omega)
  have hl : j < l.length := by have := h.1; rw [strs_length] at this; omega
  have : (strs l).getD j undef = .string (l.getD j be0) := by simp [strs, List.getD, hl]
  rwa [this] at h1
theorem Ld.ostr {w : World} {base n c : Nat} {e : TypeId} {A : Option Addr} {l : List ByteArray} (h : w.ownsRow base e 1 (.slice A n c) n (strs l)) {j : Nat} (hj : j < n) : Ld w (pA A j) (.string (l.getD j be0)) := Ld.str (Reads.of_own h) hj
theorem X.lssS {P : Program} {w : World} {f : Operand → Value} {x y : Operand} {d : Option Tmp} {tx tz ty : TypeId} {pos : String} {aft : Array Edge} {g : Option (Nat × Bool)} {a b : ByteArray} (hx : f x = .string a) (hy : f y = .string b) : (execOp f ⟨d, .binOp .lss tx x y tz, ty, pos, aft, g⟩).run P w = .ok (.value (.bool (decide (Op.bytesLess a.toList b.toList = true)))) w :=
  X.bin hx hy (by simp [go_sem]) (by simp [binOp, Op.stringOp])
end H
def Ws : List ByteArray := [⟨#[97, 110, 100]⟩, ⟨#[97, 115, 99]⟩, ⟨#[98, 121]⟩, ⟨#[99, 111, 117, 110, 116]⟩, ⟨#[100, 101, 115, 99]⟩, ⟨#[100, 101, 118]⟩, ⟨#[105, 110]⟩, ⟨#[108, 105, 109, 105, 116]⟩, ⟨#[109, 97, 120]⟩, ⟨#[109, 101, 97, 110]⟩, ⟨#[109, 105, 110]⟩, ⟨#[111, 114, 100, 101, 114]⟩, ⟨#[115, 101, 108, 101, 99, 116]⟩, ⟨#[115, 104, 97, 114, 101]⟩, ⟨#[115, 117, 109]⟩, ⟨#[119, 104, 101, 114, 101]⟩]
theorem words_any (w : World) : Calls Try.prog 263 #[] w fun e w' => ∃ b, e = .returned (.slice (some ⟨b, 0, none⟩) 16 16) ∧ Reads w' w'.heap.size 1 (some ⟨b, 0, none⟩) 16 (strs Ws) ∧ Ext w w' := by
  refine enter Try.func263 rfl (by kernel_rfl) ?_
  refine J.seq ?_
  refine J.region ?_
  refine L.va rfl (X.assign (by conv => lhs; whnf)) ?_
  refine L.nil ?_
  refine J.seq ?_
  refine J.region ?_
  refine L.bslice (vs := [_, _, _, _, _, _, _, _, _, _, _, _, _, _, _, _]) rfl (Evs.cons (by conv => lhs; whnf) (Evs.cons (by conv => lhs; whnf) (Evs.cons (by conv => lhs; whnf) (Evs.cons (by conv => lhs; whnf) (Evs.cons (by conv => lhs; whnf) (Evs.cons (by conv => lhs; whnf) (Evs.cons (by conv => lhs; whnf) (Evs.cons (by conv => lhs; whnf) (Evs.cons (by conv => lhs; whnf) (Evs.cons (by conv => lhs; whnf) (Evs.cons (by conv => lhs; whnf) (Evs.cons (by conv => lhs; whnf) (Evs.cons (by conv => lhs; whnf) (Evs.cons (by conv => lhs; whnf) (Evs.cons (by conv => lhs; whnf) (Evs.cons (by conv => lhs; whnf) Evs.nil)))))))))))))))) rfl rfl rfl rfl Try.underlying46 sz_9 zr_9 (by decide) ?_
  intro b w1 hb hs hk he
  refine L.va rfl (X.assign (by conv => lhs; whnf)) ?_
  refine L.nil ?_
  refine J.ret ?_
  refine fin1 ?_
  exact ⟨b, rfl, blk_reads (l := strs Ws) hk (by omega) rfl, he⟩
theorem rwords_any (w : World) : Calls Try.prog 233 #[] w fun e w' => ∃ b, e = .returned (.slice (some ⟨b, 0, none⟩) 16 16) ∧ Reads w' w'.heap.size 1 (some ⟨b, 0, none⟩) 16 (strs Ws) ∧ Ext w w' := by
  refine enter Try.func233 rfl (by kernel_rfl) ?_
  refine J.seq ?_
  refine J.region ?_
  refine L.va rfl (X.assign (by conv => lhs; whnf)) ?_
  refine L.nil ?_
  refine J.seq ?_
  refine J.region ?_
  refine L.bslice (vs := [_, _, _, _, _, _, _, _, _, _, _, _, _, _, _, _]) rfl (Evs.cons (by conv => lhs; whnf) (Evs.cons (by conv => lhs; whnf) (Evs.cons (by conv => lhs; whnf) (Evs.cons (by conv => lhs; whnf) (Evs.cons (by conv => lhs; whnf) (Evs.cons (by conv => lhs; whnf) (Evs.cons (by conv => lhs; whnf) (Evs.cons (by conv => lhs; whnf) (Evs.cons (by conv => lhs; whnf) (Evs.cons (by conv => lhs; whnf) (Evs.cons (by conv => lhs; whnf) (Evs.cons (by conv => lhs; whnf) (Evs.cons (by conv => lhs; whnf) (Evs.cons (by conv => lhs; whnf) (Evs.cons (by conv => lhs; whnf) (Evs.cons (by conv => lhs; whnf) Evs.nil)))))))))))))))) rfl rfl rfl rfl Try.underlying46 sz_9 zr_9 (by decide) ?_
  intro b w1 hb hs hk he
  refine L.va rfl (X.assign (by conv => lhs; whnf)) ?_
  refine L.nil ?_
  refine J.ret ?_
  refine fin1 ?_
  exact ⟨b, rfl, blk_reads (l := strs Ws) hk (by omega) rfl, he⟩
theorem ws_less : ∀ m : Fin 16, ∀ j : Fin 16, Op.bytesLess (Ws.getD m.1 be0).data.toList (Ws.getD j.1 be0).data.toList = decide (m.1 < j.1) := by decide
theorem ba_toList (a : ByteArray) : a.toList = a.data.toList := Lib.toList_data a
def among (l : List ByteArray) (s : ByteArray) : Bool := l.any fun x => decide (x = s)
theorem among_iff {l : List ByteArray} {s : ByteArray} : among l s = true ↔ s ∈ l := by
  unfold among
  rw [List.any_eq_true]
  constructor
  · rintro ⟨x, hx, h⟩; rw [← of_decide_eq_true h]; exact hx
  · exact fun h => ⟨s, h, decide_eq_true rfl⟩
theorem ws_lt (m j : Nat) (hm : m < 16) (hj : j < 16) : Op.bytesLess (Ws.getD m be0).toList (Ws.getD j be0).toList = decide (m < j) := by
  rw [ba_toList, ba_toList]; exact ws_less ⟨m, hm⟩ ⟨j, hj⟩
theorem ws_mem {s : ByteArray} (h : s ∈ Ws) : ∃ j, j < 16 ∧ Ws.getD j be0 = s := by
  obtain ⟨i, hi, rfl⟩ := List.mem_iff_getElem.1 h
  exact ⟨i, hi, by simp only [List.getD, List.getElem?_eq_getElem hi, Option.getD_some]⟩
theorem ws_at {j : Nat} (h : j < 16) : Ws.getD j be0 ∈ Ws := by
  have hl : j < Ws.length := h
  simp only [List.getD, List.getElem?_eq_getElem hl, Option.getD_some]
  exact List.getElem_mem hl
theorem word_any (s : ByteArray) (w : World) : Calls Try.prog 234 #[.string s] w fun e w' => e = .returned (.bool (among Ws s)) ∧ Ext w w' := by
  refine enter Try.func234 rfl (by kernel_rfl) ?_
  refine J.seq ?_
  refine J.region ?_
  refine L.va rfl (X.assign (by conv => lhs; whnf)) ?_
  refine L.nil ?_
  refine J.seq ?_
  refine J.region ?_
  refine L.call rfl en_263 rfl (words_any _) ?_
  rintro e w1 ⟨b, rfl, hr, he⟩
  refine ⟨_, rfl, ?_⟩
  have he : Ext w w1 := he
  refine L.va rfl (X.assign (by conv => lhs; whnf)) ?_
  refine L.nil ?_
  refine J.seq ?_
  refine J.region ?_
  refine L.va rfl (X.move (by conv => lhs; whnf)) ?_
  refine L.va rfl (X.len rfl Try.underlying46) ?_
  refine L.va rfl (X.assign (by conv => lhs; whnf)) ?_
  refine L.va rfl (X.assign (by conv => lhs; whnf)) ?_
  refine L.nil ?_
  refine J.seq ?_
  refine J.block ?_
  refine J.loop (X := Nat × Nat) [2, 4, 5, 6, 10, 11, 12, 13, 14, 15, 16, 17, 18, 19, 20, 21, 22, 23, 24, 25, 26, 27, 28, 29, 30, 31, 32, 33] (fun x => [(4, .int .i64 (x.1 : Int)), (5, .int .i64 (x.2 : Int))]) (fun x w' => w' = w1 ∧ x.1 ≤ x.2 ∧ x.2 ≤ 16 ∧ (∀ j, j < 16 → j < x.1 → Ws.getD j be0 ≠ s) ∧ (∀ j, j < 16 → x.2 ≤ j → Ws.getD j be0 ≠ s)) (fun x => x.2 - x.1) ((0, 16)) (At2 (by first | rfl | exact at_int rfl (by omega) | exact at_slice rfl (by omega) | exact at_int rfl (by simp)) (by first | rfl | exact at_int rfl (by omega) | exact at_slice rfl (by omega) | exact at_int rfl (by simp))) ?_ ?_
  · exact ⟨rfl, by decide, by decide, fun j _ h => absurd h (Nat.not_lt_zero _), fun j h1 h2 => absurd h1 (Nat.not_lt.2 h2)⟩
  · rintro ⟨lo, hi⟩ g w2 ⟨rfl, h1, h2, h3, h4⟩
    dsimp only at h1 h2 h3 h4
    have q1 : ((lo, hi) : Nat × Nat).1 = lo := rfl
    have q2 : ((lo, hi) : Nat × Nat).2 = hi := rfl
    refine J.seq ?_
    refine J.seq ?_
    refine J.region ?_
    refine L.va rfl (X.move (by conv => lhs; whnf)) ?_
    refine L.va rfl (X.move (by conv => lhs; whnf)) ?_
    refine L.va rfl (X.lss rfl rfl) ?_
    refine L.nil ?_
    refine J.dec rfl (fun hlt => ?_) (fun hlt => ?_)
    · refine J.skip ?_
      refine J.block ?_
      refine J.seq ?_
      refine J.region ?_
      refine L.va rfl (X.move (by conv => lhs; whnf)) ?_
      refine L.va rfl (X.move (by conv => lhs; whnf)) ?_
      refine L.va rfl (X.add rfl rfl (by omega)) ?_
      refine L.va rfl (X.quo rfl rfl (by omega)) ?_
      refine L.va rfl (X.assign (by conv => lhs; whnf)) ?_
      refine L.nil ?_
      refine J.block ?_
      have e : (((lo, hi) : Nat × Nat).1 + (((lo, hi) : Nat × Nat).2 : Int) : Int) / 2 = (((lo + hi) / 2 : Nat) : Int) := by dsimp only; omega
      rw [e]
      have hmid : lo ≤ (lo + hi) / 2 ∧ (lo + hi) / 2 < hi := by dsimp only at hlt; omega
      generalize (lo + hi) / 2 = m at hmid
      refine J.seq ?_
      refine J.region ?_
      refine L.va rfl (X.move (by conv => lhs; whnf)) ?_
      refine L.va rfl (X.move (by conv => lhs; whnf)) ?_
      refine L.va rfl ((by first | exact X.index1n rfl rfl Try.underlying46 sz_9 (by first | exact Option.some_ne_none _ | exact hr.some_ (by omega)) (by omega) | exact X.index1 rfl rfl Try.underlying46 sz_9 (by first | exact Option.some_ne_none _ | exact hr.some_ (by omega)) (by omega))) ?_
      refine L.va rfl (X.load rfl sc_9 (by first | exact Ld.str hr (by omega))) ?_
      refine L.va rfl (X.move (by conv => lhs; whnf)) ?_
      refine L.va rfl (X.eqlS rfl rfl) ?_
      refine L.va rfl (X.assign (by conv => lhs; whnf)) ?_
      refine L.nil ?_
      refine J.dec rfl (fun heq => ?_) (fun heq => ?_)
      · have hE : among Ws s = true := by rw [← heq]; exact among_iff.2 (ws_at (by omega))
        rw [hE]
        refine J.seq ?_
        refine J.region ?_
        refine L.va rfl (X.assign (by conv => lhs; whnf)) ?_
        refine L.nil ?_
        refine J.ret ?_
        refine inB_ret <|  inB_ret <|  thn_ret <|  inB_ret <|  thn_ret <| ?_
        refine fin1 ?_
        exact ⟨rfl, he⟩
      · refine J.seq ?_
        refine J.region ?_
        refine L.va rfl (X.move (by conv => lhs; whnf)) ?_
        refine L.va rfl (X.move (by conv => lhs; whnf)) ?_
        refine L.va rfl ((by first | exact X.index1n rfl rfl Try.underlying46 sz_9 (by first | exact Option.some_ne_none _ | exact hr.some_ (by omega)) (by omega) | exact X.index1 rfl rfl Try.underlying46 sz_9 (by first | exact Option.some_ne_none _ | exact hr.some_ (by omega)) (by omega))) ?_
        refine L.va rfl (X.load rfl sc_9 (by first | exact Ld.str hr (by omega))) ?_
        refine L.va rfl (X.move (by conv => lhs; whnf)) ?_
        refine L.va rfl (X.lssS rfl rfl) ?_
        refine L.va rfl (X.assign (by conv => lhs; whnf)) ?_
        refine L.nil ?_
        refine J.dec rfl (fun hless => ?_) (fun hless => ?_)
        · refine J.region ?_
          refine L.va rfl (X.move (by conv => lhs; whnf)) ?_
          refine L.va rfl (X.add rfl rfl (by omega)) ?_
          refine L.va rfl (X.assign (by conv => lhs; whnf)) ?_
          refine L.nil ?_
          refine ⟨(m + 1, hi), At2 (by first | rfl | exact at_int rfl (by omega) | exact at_slice rfl (by omega) | exact at_int rfl (by simp)) (by first | rfl | exact at_int rfl (by omega) | exact at_slice rfl (by omega) | exact at_int rfl (by simp)), (by (iterate 25 refine Agr.lk rfl ?_); exact Agr.lk rfl (Agr.hav rfl Agr.rfl')), ?_⟩
          refine ⟨⟨rfl, by dsimp only; omega, h2, fun j hj hjm hjs => ?_, h4⟩, by dsimp only; omega⟩
          dsimp only at hjm
          rw [← hjs, ws_lt m j (by omega) hj] at hless
          have := of_decide_eq_true hless
          omega
        · refine J.region ?_
          refine L.va rfl (X.move (by conv => lhs; whnf)) ?_
          refine L.va rfl (X.assign (by conv => lhs; whnf)) ?_
          refine L.nil ?_
          refine ⟨(lo, m), At2 (by first | rfl | exact at_int rfl (by omega) | exact at_slice rfl (by omega) | exact at_int rfl (by simp)) (by first | rfl | exact at_int rfl (by omega) | exact at_slice rfl (by omega) | exact at_int rfl (by simp)), (by (iterate 24 refine Agr.lk rfl ?_); exact Agr.lk rfl (Agr.hav rfl Agr.rfl')), ?_⟩
          refine ⟨⟨rfl, by dsimp only; omega, by dsimp only; omega, h3, fun j hj hjm hjs => ?_⟩, by dsimp only; omega⟩
          dsimp only at hjm
          by_cases hjm' : j = m
          · subst hjm'; exact heq hjs
          · rw [← hjs, ws_lt m j (by omega) hj] at hless
            exact hless (decide_eq_true (by omega))
    · have hE : among Ws s = false := by
        rw [← Bool.not_eq_true]
        intro hm
        replace hm := among_iff.1 hm
        obtain ⟨j, hj, hjs⟩ := ws_mem hm
        dsimp only at hlt
        rcases Nat.lt_or_ge j lo with h | h
        · exact h3 j hj h hjs
        · exact h4 j hj (by omega) hjs
      rw [hE]
      refine J.exit ?_
      refine J.seq ?_
      refine J.region ?_
      refine L.va rfl (X.assign (by conv => lhs; whnf)) ?_
      refine L.nil ?_
      refine J.ret ?_
      refine fin1 ?_
      exact ⟨rfl, he⟩
end Go.Proofs.Ytlipeplfjkgamaa
namespace Go.Proofs.Ytlipeplfjkgamaa
open Go.RowKit H
set_option linter.unusedVariables false
def ch (s : ByteArray) (i : Nat) : Int := ((s.data.toList.getD i 0).toNat : Int)
theorem ch_bd (s : ByteArray) (i : Nat) : 0 ≤ ch s i ∧ ch s i ≤ 255 := by
  unfold ch
  have := (s.data.toList.getD i 0).toNat_lt
  omega
abbrev letC (c : Int) : Prop := 97 ≤ c ∧ c ≤ 122
abbrev digC (c : Int) : Prop := (48 ≤ c ∧ c ≤ 57) ∨ c = 95
def isS (s : ByteArray) : Bool := decide (1 ≤ s.size ∧ s.size ≤ 16 ∧ letC (ch s 0) ∧ (∀ j, j < s.size → letC (ch s j) ∨ digC (ch s j)) ∧ among Ws s = false)
theorem size_ne {s : ByteArray} (h : ¬ s = ⟨#[]⟩) : 1 ≤ s.size := by
  rcases Nat.eq_zero_or_pos s.size with h0 | h0
  · exfalso
    apply h
    cases s with
    | mk a => exact congrArg ByteArray.mk (Array.eq_empty_of_size_eq_zero h0)
  · exact h0
theorem isS_no {s : ByteArray} (h : ¬ (1 ≤ s.size ∧ s.size ≤ 16 ∧ letC (ch s 0) ∧ (∀ j, j < s.size → letC (ch s j) ∨ digC (ch s j)) ∧ among Ws s = false)) : isS s = false := decide_eq_false h
theorem is_any (s : ByteArray) (w : World) : Calls Try.prog 181 #[.string s] w fun e w' => e = .returned (.bool (isS s)) ∧ Ext w w' := by
  refine enter Try.func181 rfl (by kernel_rfl) ?_
  refine J.seq ?_
  refine J.region ?_
  refine L.va rfl (X.assign (by conv => lhs; whnf)) ?_
  refine L.nil ?_
  refine J.seq ?_
  refine J.seq ?_
  refine J.region ?_
  refine L.va rfl (X.move (by conv => lhs; whnf)) ?_
  refine L.va rfl (X.eqlS rfl rfl) ?_
  refine L.va rfl (X.move (by conv => lhs; whnf)) ?_
  refine L.caseDec (k := 7) rfl (fun h1 => ?_) (fun h1 => ?_)
  · have hE : isS s = false := isS_no (by rw [h1]; rintro ⟨h, _⟩; exact absurd h (by decide))
    rw [hE]
    refine L.no rfl ?_
    refine L.no rfl ?_
    refine L.no rfl ?_
    refine L.va rfl (X.pickT rfl (by conv => lhs; whnf)) ?_
    refine L.va rfl (X.move (by conv => lhs; whnf)) ?_
    refine L.no rfl ?_
    refine L.no rfl ?_
    refine L.no rfl ?_
    refine L.va rfl (X.pickT rfl (by conv => lhs; whnf)) ?_
    refine L.va rfl (X.move (by conv => lhs; whnf)) ?_
    refine L.no rfl ?_
    refine L.no rfl ?_
    refine L.no rfl ?_
    refine L.va rfl (X.pickT rfl (by conv => lhs; whnf)) ?_
    refine L.nil ?_
    refine J.iteT rfl ?_
    refine J.seq ?_
    refine J.region ?_
    refine L.va rfl (X.assign (by conv => lhs; whnf)) ?_
    refine L.nil ?_
    refine J.ret ?_
    refine thn_ret <| ?_
    refine fin1 ?_
    exact ⟨rfl, Ext.refl _⟩
  · have hsz := size_ne h1
    refine L.va rfl (X.move (by conv => lhs; whnf)) ?_
    refine L.va rfl (X.lens rfl Try.underlying9) ?_
    refine L.va rfl (X.gtr rfl rfl) ?_
    refine L.va rfl (X.pickF rfl (by conv => lhs; whnf)) ?_
    refine L.va rfl (X.move (by conv => lhs; whnf)) ?_
    refine L.caseDec (k := 12) rfl (fun h2 => ?_) (fun h2 => ?_)
    · have hE : isS s = false := isS_no (by rintro ⟨_, h, _⟩; omega)
      rw [hE]
      refine L.no rfl ?_
      refine L.no rfl ?_
      refine L.no rfl ?_
      refine L.va rfl (X.pickT rfl (by conv => lhs; whnf)) ?_
      refine L.va rfl (X.move (by conv => lhs; whnf)) ?_
      refine L.no rfl ?_
      refine L.no rfl ?_
      refine L.no rfl ?_
      refine L.va rfl (X.pickT rfl (by conv => lhs; whnf)) ?_
      refine L.nil ?_
      refine J.iteT rfl ?_
      refine J.seq ?_
      refine J.region ?_
      refine L.va rfl (X.assign (by conv => lhs; whnf)) ?_
      refine L.nil ?_
      refine J.ret ?_
      refine thn_ret <| ?_
      refine fin1 ?_
      exact ⟨rfl, Ext.refl _⟩
    · refine L.va rfl (X.move (by conv => lhs; whnf)) ?_
      refine L.va rfl (X.indexStr rfl rfl Try.underlying9 (by omega)) ?_
      refine L.va rfl (X.lss rfl rfl) ?_
      refine L.va rfl (X.pickF rfl (by conv => lhs; whnf)) ?_
      refine L.va rfl (X.move (by conv => lhs; whnf)) ?_
      refine L.caseDec (k := 17) rfl (fun h3 => ?_) (fun h3 => ?_)
      · have h3' : ch s 0 < 97 := h3
        have hE : isS s = false := isS_no (by rintro ⟨_, _, h, _⟩; omega)
        rw [hE]
        refine L.no rfl ?_
        refine L.no rfl ?_
        refine L.no rfl ?_
        refine L.va rfl (X.pickT rfl (by conv => lhs; whnf)) ?_
        refine L.nil ?_
        refine J.iteT rfl ?_
        refine J.seq ?_
        refine J.region ?_
        refine L.va rfl (X.assign (by conv => lhs; whnf)) ?_
        refine L.nil ?_
        refine J.ret ?_
        refine thn_ret <| ?_
        refine fin1 ?_
        exact ⟨rfl, Ext.refl _⟩
      · have h3' : ¬ ch s 0 < 97 := h3
        refine L.va rfl (X.move (by conv => lhs; whnf)) ?_
        refine L.va rfl (X.indexStr rfl rfl Try.underlying9 (by omega)) ?_
        refine L.va rfl (X.gtr rfl rfl) ?_
        refine L.va rfl (X.pickF rfl (by conv => lhs; whnf)) ?_
        refine L.nil ?_
        refine J.dec rfl (fun h4 => ?_) (fun h4 => ?_)
        · have h4' : 122 < ch s 0 := h4
          have hE : isS s = false := isS_no (by rintro ⟨_, _, h, _⟩; omega)
          rw [hE]
          refine J.seq ?_
          refine J.region ?_
          refine L.va rfl (X.assign (by conv => lhs; whnf)) ?_
          refine L.nil ?_
          refine J.ret ?_
          refine thn_ret <| ?_
          refine fin1 ?_
          exact ⟨rfl, Ext.refl _⟩
        · have h4' : ¬ 122 < ch s 0 := h4
          refine J.skip ?_
          refine J.seq ?_
          refine J.seq ?_
          refine J.region ?_
          refine L.va rfl (X.move (by conv => lhs; whnf)) ?_
          refine L.va rfl (X.lens rfl Try.underlying9) ?_
          refine L.va rfl (X.move (by conv => lhs; whnf)) ?_
          refine L.nil ?_
          refine J.block ?_
          refine J.loop (X := Nat) [2, 3, 4, 24, 25, 26, 27, 28, 29, 30, 31, 32, 33, 34, 35, 36, 37, 38, 39, 40, 41, 42, 43, 44, 45, 46, 47, 48] (fun i => [(24, .int .i64 (i : Int))]) (fun i w' => w' = w ∧ i ≤ s.size ∧ ∀ j, j < i → letC (ch s j) ∨ digC (ch s j)) (fun i => s.size - i) (0) (At1 (by first | rfl | exact at_int rfl (by omega) | exact at_slice rfl (by omega) | exact at_int rfl (by simp))) ?_ ?_
          · exact ⟨rfl, by omega, fun j hj => absurd hj (by omega)⟩
          · rintro i g w2 ⟨rfl, hi, hP⟩
            have hc := ch_bd s i
            have hnext : letC (ch s i) ∨ digC (ch s i) → ∀ j, j < i + 1 → letC (ch s j) ∨ digC (ch s j) := by
              intro h j hj
              rcases Nat.lt_or_ge j i with h' | h'
              · exact hP j h'
              · obtain rfl : j = i := by omega
                exact h
            have hbad : i < s.size → ¬ (letC (ch s i) ∨ digC (ch s i)) → isS s = false := fun hl h => isS_no (by rintro ⟨_, _, _, h', _⟩; exact h (h' i hl))
            refine J.seq ?_
            refine J.region ?_
            refine L.va rfl (X.lss rfl rfl) ?_
            refine L.nil ?_
            refine J.seq ?_
            refine J.dec rfl (fun hlt => ?_) (fun hlt => ?_)
            · have hl : i < s.size := by omega
              replace hbad := hbad hl
              refine J.skip ?_
              refine J.seq ?_
              refine J.block ?_
              refine J.seq ?_
              refine J.region ?_
              refine L.va rfl (X.move (by conv => lhs; whnf)) ?_
              refine L.va rfl (X.assign (by conv => lhs; whnf)) ?_
              refine L.nil ?_
              refine J.seq ?_
              refine J.region ?_
              refine L.va rfl (X.move (by conv => lhs; whnf)) ?_
              refine L.va rfl (X.move (by conv => lhs; whnf)) ?_
              refine L.va rfl (X.indexStr rfl rfl Try.underlying9 (by omega)) ?_
              refine L.va rfl (X.assign (by conv => lhs; whnf)) ?_
              refine L.nil ?_
              rw [show ((s.data.toList.getD ((i : Int)).toNat 0).toNat : Int) = ch s i from rfl]
              generalize ch s i = c at hc hnext hbad
              refine J.seq ?_
              refine J.region ?_
              refine L.va rfl (X.move (by conv => lhs; whnf)) ?_
              refine L.va rfl (X.lss rfl rfl) ?_
              refine L.va rfl (X.move (by conv => lhs; whnf)) ?_
              refine L.caseDec (k := 32) rfl (fun a1 => ?_) (fun a1 => ?_)
              · refine L.no rfl ?_
                refine L.no rfl ?_
                refine L.va rfl (X.pickT rfl (by conv => lhs; whnf)) ?_
                refine L.va rfl (X.move (by conv => lhs; whnf)) ?_
                refine L.va rfl (X.move (by conv => lhs; whnf)) ?_
                refine L.va rfl (X.lss rfl rfl) ?_
                refine L.va rfl (X.move (by conv => lhs; whnf)) ?_
                refine L.caseDec (k := 39) rfl (fun a2 => ?_) (fun a2 => ?_)
                · refine L.no rfl ?_
                  refine L.no rfl ?_
                  refine L.va rfl (X.pickT rfl (by conv => lhs; whnf)) ?_
                  refine L.va rfl (X.pickT rfl (by conv => lhs; whnf)) ?_
                  refine L.va rfl (X.move (by conv => lhs; whnf)) ?_
                  refine L.va rfl (X.move (by conv => lhs; whnf)) ?_
                  refine L.va rfl (X.neq rfl rfl) ?_
                  refine L.va rfl (X.pickT rfl (by conv => lhs; whnf)) ?_
                  refine L.nil ?_
                  refine J.ndecT rfl (by omega) ?_
                  have hE := hbad (by omega)
                  rw [hE]
                  refine J.seq ?_
                  refine J.region ?_
                  refine L.va rfl (X.assign (by conv => lhs; whnf)) ?_
                  refine L.nil ?_
                  refine J.ret ?_
                  refine inB_ret <|  thn_ret <|  thn_ret <|  inB_ret <|  thn_ret <| ?_
                  refine fin1 ?_
                  exact ⟨rfl, Ext.refl _⟩
                · refine L.va rfl (X.move (by conv => lhs; whnf)) ?_
                  refine L.va rfl (X.gtr rfl rfl) ?_
                  refine L.va rfl (X.pickF rfl (by conv => lhs; whnf)) ?_
                  refine L.va rfl (X.pickT rfl (by conv => lhs; whnf)) ?_
                  refine L.va rfl (X.move (by conv => lhs; whnf)) ?_
                  refine L.caseDec (k := 44) rfl (fun a3 => ?_) (fun a3 => ?_)
                  · refine L.va rfl (X.move (by conv => lhs; whnf)) ?_
                    refine L.va rfl (X.neq rfl rfl) ?_
                    refine L.va rfl (X.pickT rfl (by conv => lhs; whnf)) ?_
                    refine L.nil ?_
                    refine J.ndec rfl (fun a4 => ?_) (fun a4 => ?_)
                    · have hE := hbad (by omega)
                      rw [hE]
                      refine J.seq ?_
                      refine J.region ?_
                      refine L.va rfl (X.assign (by conv => lhs; whnf)) ?_
                      refine L.nil ?_
                      refine J.ret ?_
                      refine inB_ret <|  thn_ret <|  thn_ret <|  inB_ret <|  thn_ret <| ?_
                      refine fin1 ?_
                      exact ⟨rfl, Ext.refl _⟩
                    · refine J.skip ?_
                      refine J.region ?_
                      refine L.va rfl (X.add rfl rfl (by omega)) ?_
                      refine L.va rfl (X.move (by conv => lhs; whnf)) ?_
                      refine L.nil ?_
                      refine ⟨i + 1, At1 (by first | rfl | exact at_int rfl (by omega) | exact at_slice rfl (by omega) | exact at_int rfl (by simp)), (by (iterate 30 refine Agr.lk rfl ?_); exact Agr.lk rfl (Agr.hav rfl Agr.rfl')), ?_⟩
                      exact ⟨⟨rfl, by omega, hnext (by omega)⟩, by omega⟩
                  · refine L.no rfl ?_
                    refine L.no rfl ?_
                    refine L.va rfl (X.pickF rfl (by conv => lhs; whnf)) ?_
                    refine L.nil ?_
                    refine J.iteF rfl ?_
                    refine J.skip ?_
                    refine J.region ?_
                    refine L.va rfl (X.add rfl rfl (by omega)) ?_
                    refine L.va rfl (X.move (by conv => lhs; whnf)) ?_
                    refine L.nil ?_
                    refine ⟨i + 1, At1 (by first | rfl | exact at_int rfl (by omega) | exact at_slice rfl (by omega) | exact at_int rfl (by simp)), (by (iterate 30 refine Agr.lk rfl ?_); exact Agr.lk rfl (Agr.hav rfl Agr.rfl')), ?_⟩
                    exact ⟨⟨rfl, by omega, hnext (by omega)⟩, by omega⟩
              · refine L.va rfl (X.move (by conv => lhs; whnf)) ?_
                refine L.va rfl (X.gtr rfl rfl) ?_
                refine L.va rfl (X.pickF rfl (by conv => lhs; whnf)) ?_
                refine L.va rfl (X.move (by conv => lhs; whnf)) ?_
                refine L.caseDec (k := 36) rfl (fun a5 => ?_) (fun a5 => ?_)
                · refine L.va rfl (X.move (by conv => lhs; whnf)) ?_
                  refine L.va rfl (X.lss rfl rfl) ?_
                  refine L.va rfl (X.move (by conv => lhs; whnf)) ?_
                  refine L.caseDecF (k := 39) rfl (by omega) ?_
                  refine L.va rfl (X.move (by conv => lhs; whnf)) ?_
                  refine L.va rfl (X.gtr rfl rfl) ?_
                  refine L.va rfl (X.pickF rfl (by conv => lhs; whnf)) ?_
                  refine L.va rfl (X.pickT rfl (by conv => lhs; whnf)) ?_
                  refine L.va rfl (X.move (by conv => lhs; whnf)) ?_
                  refine L.caseDecT (k := 44) rfl (by omega) ?_
                  refine L.va rfl (X.move (by conv => lhs; whnf)) ?_
                  refine L.va rfl (X.neq rfl rfl) ?_
                  refine L.va rfl (X.pickT rfl (by conv => lhs; whnf)) ?_
                  refine L.nil ?_
                  refine J.ndecT rfl (by omega) ?_
                  have hE := hbad (by omega)
                  rw [hE]
                  refine J.seq ?_
                  refine J.region ?_
                  refine L.va rfl (X.assign (by conv => lhs; whnf)) ?_
                  refine L.nil ?_
                  refine J.ret ?_
                  refine inB_ret <|  thn_ret <|  thn_ret <|  inB_ret <|  thn_ret <| ?_
                  refine fin1 ?_
                  exact ⟨rfl, Ext.refl _⟩
                · refine L.no rfl ?_
                  refine L.no rfl ?_
                  refine L.no rfl ?_
                  refine L.no rfl ?_
                  refine L.no rfl ?_
                  refine L.no rfl ?_
                  refine L.va rfl (X.pickF rfl (by conv => lhs; whnf)) ?_
                  refine L.va rfl (X.move (by conv => lhs; whnf)) ?_
                  refine L.no rfl ?_
                  refine L.no rfl ?_
                  refine L.va rfl (X.pickF rfl (by conv => lhs; whnf)) ?_
                  refine L.nil ?_
                  refine J.iteF rfl ?_
                  refine J.skip ?_
                  refine J.region ?_
                  refine L.va rfl (X.add rfl rfl (by omega)) ?_
                  refine L.va rfl (X.move (by conv => lhs; whnf)) ?_
                  refine L.nil ?_
                  refine ⟨i + 1, At1 (by first | rfl | exact at_int rfl (by omega) | exact at_slice rfl (by omega) | exact at_int rfl (by simp)), (by (iterate 29 refine Agr.lk rfl ?_); exact Agr.lk rfl (Agr.hav rfl Agr.rfl')), ?_⟩
                  exact ⟨⟨rfl, by omega, hnext (by omega)⟩, by omega⟩
            · obtain rfl : i = s.size := by omega
              have hE : isS s = !among Ws s := by
                cases hw : among Ws s with
                | true => exact isS_no (by rintro ⟨_, _, _, _, h⟩; rw [hw] at h; cases h)
                | false => exact decide_eq_true ⟨hsz, by omega, by omega, hP, hw⟩
              rw [hE]
              refine J.exit ?_
              refine J.seq ?_
              refine J.region ?_
              refine L.va rfl (X.move (by conv => lhs; whnf)) ?_
              refine L.call rfl en_234 rfl (word_any s _) ?_
              rintro e w3 ⟨rfl, he⟩
              refine ⟨_, rfl, ?_⟩
              refine L.va rfl (X.not rfl) ?_
              refine L.va rfl (X.assign (by conv => lhs; whnf)) ?_
              refine L.nil ?_
              refine J.ret ?_
              refine fin1 ?_
              exact ⟨rfl, he⟩
def plc (l : List ByteArray) (s : ByteArray) : Int := match l.findIdx? (fun x => decide (x = s)) with
  | some i => (i : Int)
  | none => -1
theorem plc_none {l : List ByteArray} {s : ByteArray} (h : ∀ j, j < l.length → l.getD j be0 ≠ s) : plc l s = -1 := by
  have : l.findIdx? (fun x => decide (x = s)) = none := by
    rw [List.findIdx?_eq_none_iff]
    intro x hx
    obtain ⟨i, hi, rfl⟩ := List.mem_iff_getElem.1 hx
    have := h i hi
    simp only [List.getD, List.getElem?_eq_getElem hi, Option.getD_some] at this
    exact decide_eq_false this
  unfold plc
  rw [this]
theorem plc_some {l : List ByteArray} {s : ByteArray} {i : Nat} (hi : i < l.length) (he : l.getD i be0 = s) (h : ∀ j, j < i → l.getD j be0 ≠ s) : plc l s = (i : Int) := by
  have : l.findIdx? (fun x => decide (x = s)) = some i := by
    rw [List.findIdx?_eq_some_iff_getElem]
    refine ⟨hi, ?_, fun j hj => ?_⟩
    · simp only [List.getD, List.getElem?_eq_getElem hi, Option.getD_some] at he
      exact decide_eq_true he
    · have := h j hj
      have hj' : j < l.length := by omega
      simp only [List.getD, List.getElem?_eq_getElem hj', Option.getD_some] at this
      simpa using this
  unfold plc
  rw [this]
theorem plc_iff {l : List ByteArray} {s : ByteArray} : 0 ≤ plc l s ↔ s ∈ l := by
  unfold plc
  cases h : l.findIdx? (fun x => decide (x = s)) with
  | none =>
    rw [List.findIdx?_eq_none_iff] at h
    constructor
    · intro h'; simp at h'
    · intro hm
      have := h s hm
      simp at this
  | some i =>
    rw [List.findIdx?_eq_some_iff_getElem] at h
    obtain ⟨hi, he, _⟩ := h
    constructor
    · intro _
      rw [← of_decide_eq_true he]
      exact List.getElem_mem hi
    · intro _; simp
theorem place_any (A : Option Addr) (n c : Nat) (l : List ByteArray) (s : ByteArray) (w : World) (hr : Reads w w.heap.size 1 A n (strs l)) (hn : n ≤ 9223372036854775807) :
    Calls Try.prog 232 #[.slice A n c, .string s] w fun e w' => e = .returned (.int .i64 (plc l s)) ∧ w = w' := by
  have hl : l.length = n := by have := hr.1; simpa [strs] using this
  refine enter Try.func232 rfl (by kernel_rfl) ?_
  refine J.seq ?_
  refine J.region ?_
  refine L.va rfl (X.assign (by conv => lhs; whnf)) ?_
  refine L.nil ?_
  refine J.seq ?_
  refine J.seq ?_
  refine J.region ?_
  refine L.va rfl (X.assign (by conv => lhs; whnf)) ?_
  refine L.nil ?_
  refine J.block ?_
  refine J.loop (X := Nat) [4, 5, 6, 7, 8, 9, 10, 11, 12, 13, 14, 15, 16, 17, 18] (fun i => [(5, .int .i64 (i : Int))]) (fun i w' => w' = w ∧ i ≤ n ∧ ∀ j, j < i → l.getD j be0 ≠ s) (fun i => n - i) (0) (At1 (by first | rfl | exact at_int rfl (by omega) | exact at_slice rfl (by omega) | exact at_int rfl (by simp))) ?_ ?_
  · exact ⟨rfl, by omega, fun j hj => absurd hj (by omega)⟩
  · rintro i g w2 ⟨rfl, hi, hP⟩
    refine J.seq ?_
    refine J.seq ?_
    refine J.region ?_
    refine L.va rfl (X.move (by conv => lhs; whnf)) ?_
    refine L.va rfl (X.move (by conv => lhs; whnf)) ?_
    refine L.va rfl (X.len rfl Try.underlying46) ?_
    refine L.va rfl (X.lss rfl rfl) ?_
    refine L.nil ?_
    refine J.dec rfl (fun hlt => ?_) (fun hlt => ?_)
    · refine J.skip ?_
      refine J.seq ?_
      refine J.block ?_
      refine J.seq ?_
      refine J.region ?_
      refine L.va rfl (X.move (by conv => lhs; whnf)) ?_
      refine L.va rfl (X.move (by conv => lhs; whnf)) ?_
      refine L.va rfl ((by first | exact X.index1n rfl rfl Try.underlying46 sz_9 (by first | exact Option.some_ne_none _ | exact hr.some_ (by omega)) (by omega) | exact X.index1 rfl rfl Try.underlying46 sz_9 (by first | exact Option.some_ne_none _ | exact hr.some_ (by omega)) (by omega))) ?_
      refine L.va rfl (X.load rfl sc_9 (by first | exact Ld.str hr (by omega))) ?_
      refine L.va rfl (X.move (by conv => lhs; whnf)) ?_
      refine L.va rfl (X.eqlS rfl rfl) ?_
      refine L.nil ?_
      refine J.dec rfl (fun heq => ?_) (fun heq => ?_)
      · have hE : plc l s = (i : Int) := plc_some (by omega) heq hP
        rw [hE]
        refine J.seq ?_
        refine J.region ?_
        refine L.va rfl (X.move (by conv => lhs; whnf)) ?_
        refine L.va rfl (X.assign (by conv => lhs; whnf)) ?_
        refine L.nil ?_
        refine J.ret ?_
        refine inB_ret <|  thn_ret <|  thn_ret <|  inB_ret <|  thn_ret <| ?_
        refine fin1 ?_
        exact ⟨rfl, rfl⟩
      · refine J.skip ?_
        refine J.region ?_
        refine L.va rfl (X.move (by conv => lhs; whnf)) ?_
        refine L.va rfl (X.add rfl rfl (by omega)) ?_
        refine L.va rfl (X.assign (by conv => lhs; whnf)) ?_
        refine L.nil ?_
        refine ⟨i + 1, At1 (by first | rfl | exact at_int rfl (by omega) | exact at_slice rfl (by omega) | exact at_int rfl (by simp)), (by (iterate 13 refine Agr.lk rfl ?_); exact Agr.lk rfl (Agr.hav rfl Agr.rfl')), ?_⟩
        refine ⟨⟨rfl, by omega, fun j hj => ?_⟩, by omega⟩
        rcases Nat.lt_or_ge j i with h' | h'
        · exact hP j h'
        · obtain rfl : j = i := by omega
          exact heq
    · obtain rfl : i = n := by omega
      have hE : plc l s = -1 := plc_none (by rw [hl]; exact hP)
      rw [hE]
      refine J.exit ?_
      refine J.seq ?_
      refine J.region ?_
      refine L.va rfl (X.assign (by conv => lhs; whnf)) ?_
      refine L.nil ?_
      refine J.ret ?_
      refine fin1 ?_
      exact ⟨rfl, rfl⟩
end Go.Proofs.Ytlipeplfjkgamaa
namespace Go.Proofs.Ytlipeplfjkgamaa
open Go.RowKit H
set_option linter.unusedVariables false
theorem nd_t {p : Prop} [Decidable p] (h : (!decide p) = true) : ¬ p := by simpa using h
theorem nd_f {p : Prop} [Decidable p] (h : (!decide p) = false) : p := by simpa using h
theorem nd_mk {p : Prop} [Decidable p] (h : ¬ p) : (!decide p) = true := by simpa using h
theorem ris_any (s : ByteArray) (w : World) : Calls Try.prog 177 #[.string s] w fun e w' => e = .returned (.bool (isS s)) ∧ Ext w w' := by
  refine enter Try.func177 rfl (by kernel_rfl) ?_
  refine J.seq ?_
  refine J.region ?_
  refine L.va rfl (X.assign (by conv => lhs; whnf)) ?_
  refine L.nil ?_
  refine J.seq ?_
  refine J.seq ?_
  refine J.region ?_
  refine L.va rfl (X.move (by conv => lhs; whnf)) ?_
  refine L.va rfl (X.lens rfl Try.underlying9) ?_
  refine L.va rfl (X.lss rfl rfl) ?_
  refine L.va rfl (X.move (by conv => lhs; whnf)) ?_
  refine L.caseDec (k := 9) rfl (fun h1 => ?_) (fun h1 => ?_)
  · have hE : isS s = false := isS_no (by rintro ⟨h, _⟩; omega)
    rw [hE]
    refine L.no rfl ?_
    refine L.no rfl ?_
    refine L.no rfl ?_
    refine L.va rfl (X.pickT rfl (by conv => lhs; whnf)) ?_
    refine L.va rfl (X.move (by conv => lhs; whnf)) ?_
    refine L.no rfl ?_
    refine L.no rfl ?_
    refine L.no rfl ?_
    refine L.no rfl ?_
    refine L.va rfl (X.pickT rfl (by conv => lhs; whnf)) ?_
    refine L.nil ?_
    refine J.iteT rfl ?_
    refine J.seq ?_
    refine J.region ?_
    refine L.va rfl (X.assign (by conv => lhs; whnf)) ?_
    refine L.nil ?_
    refine J.ret ?_
    refine thn_ret <| ?_
    refine fin1 ?_
    exact ⟨rfl, Ext.refl _⟩
  · refine L.va rfl (X.move (by conv => lhs; whnf)) ?_
    refine L.va rfl (X.lens rfl Try.underlying9) ?_
    refine L.va rfl (X.gtr rfl rfl) ?_
    refine L.va rfl (X.pickF rfl (by conv => lhs; whnf)) ?_
    refine L.va rfl (X.move (by conv => lhs; whnf)) ?_
    refine L.caseDec (k := 14) rfl (fun h2 => ?_) (fun h2 => ?_)
    · have hE : isS s = false := isS_no (by rintro ⟨_, h, _⟩; omega)
      rw [hE]
      refine L.no rfl ?_
      refine L.no rfl ?_
      refine L.no rfl ?_
      refine L.no rfl ?_
      refine L.va rfl (X.pickT rfl (by conv => lhs; whnf)) ?_
      refine L.nil ?_
      refine J.iteT rfl ?_
      refine J.seq ?_
      refine J.region ?_
      refine L.va rfl (X.assign (by conv => lhs; whnf)) ?_
      refine L.nil ?_
      refine J.ret ?_
      refine thn_ret <| ?_
      refine fin1 ?_
      exact ⟨rfl, Ext.refl _⟩
    ·
      refine L.call rfl en_233 rfl (rwords_any _) ?_
      rintro e w1 ⟨b, rfl, hr, he⟩
      refine ⟨_, rfl, ?_⟩
      have he : Ext w w1 := he
      refine L.va rfl (X.move (by conv => lhs; whnf)) ?_
      refine L.call rfl en_232 rfl (place_any (some ⟨b, 0, none⟩) 16 16 Ws s _ hr (by decide)) ?_
      rintro e _ ⟨rfl, rfl⟩
      refine ⟨_, rfl, ?_⟩
      refine L.va rfl (X.geq rfl rfl) ?_
      refine L.va rfl (X.pickF rfl (by conv => lhs; whnf)) ?_
      refine L.nil ?_
      refine J.dec rfl (fun h3 => ?_) (fun h3 => ?_)
      · have hE : isS s = false := isS_no (by
          rintro ⟨_, _, _, _, h⟩
          rw [among_iff.2 (plc_iff.1 h3)] at h
          cases h)
        rw [hE]
        refine J.seq ?_
        refine J.region ?_
        refine L.va rfl (X.assign (by conv => lhs; whnf)) ?_
        refine L.nil ?_
        refine J.ret ?_
        refine thn_ret <| ?_
        refine fin1 ?_
        exact ⟨rfl, he⟩
      · have hw : among Ws s = false := by
          rw [← Bool.not_eq_true]
          intro h
          exact h3 (plc_iff.2 (among_iff.1 h))
        refine J.skip ?_
        refine J.seq ?_
        refine J.seq ?_
        refine J.region ?_
        refine L.va rfl (X.assign (by conv => lhs; whnf)) ?_
        refine L.nil ?_
        refine J.block ?_
        refine J.loop (X := Nat) [2, 3, 4, 5, 20, 21, 22, 23, 24, 25, 26, 27, 28, 29, 30, 31, 32, 33, 34, 35, 36, 37, 38, 39, 40, 41, 42, 43, 44, 45, 46, 47, 48, 49, 50, 51, 52, 53, 54, 55, 56, 57, 58, 59, 60, 61] (fun i => [(3, .int .i64 (i : Int))]) (fun i w' => w' = w1 ∧ i ≤ s.size ∧ ∀ j, j < i → letC (ch s j) ∨ (digC (ch s j) ∧ j ≠ 0)) (fun i => s.size - i) (0) (At1 (by first | rfl | exact at_int rfl (by omega) | exact at_slice rfl (by omega) | exact at_int rfl (by simp))) ?_ ?_
        · exact ⟨rfl, by omega, fun j hj => absurd hj (by omega)⟩
        · rintro i g w2 ⟨rfl, hi, hP⟩
          have hc := ch_bd s i
          have hq : ((s.data.toList.getD ((i : Int)).toNat 0).toNat : Int) = ch s i := rfl
          have hnext : letC (ch s i) ∨ (digC (ch s i) ∧ i ≠ 0) → ∀ j, j < i + 1 → letC (ch s j) ∨ (digC (ch s j) ∧ j ≠ 0) := by
            intro h j hj
            rcases Nat.lt_or_ge j i with h' | h'
            · exact hP j h'
            · obtain rfl : j = i := by omega
              exact h
          have hbad : i < s.size → ¬ (letC (ch s i) ∨ (digC (ch s i) ∧ i ≠ 0)) → isS s = false := fun hl h => isS_no (by
            rintro ⟨_, _, h0, h', _⟩
            apply h
            rcases h' i hl with k | k
            · exact .inl k
            · by_cases hi0 : i = 0
              · subst hi0; exact .inl h0
              · exact .inr ⟨k, hi0⟩)
          refine J.seq ?_
          refine J.seq ?_
          refine J.region ?_
          refine L.va rfl (X.move (by conv => lhs; whnf)) ?_
          refine L.va rfl (X.move (by conv => lhs; whnf)) ?_
          refine L.va rfl (X.lens rfl Try.underlying9) ?_
          refine L.va rfl (X.lss rfl rfl) ?_
          refine L.nil ?_
          refine J.dec rfl (fun hlt => ?_) (fun hlt => ?_)
          · have hl : i < s.size := by omega
            replace hbad := hbad hl
            refine J.skip ?_
            refine J.seq ?_
            refine J.block ?_
            refine J.seq ?_
            refine J.region ?_
            refine L.va rfl (X.move (by conv => lhs; whnf)) ?_
            refine L.va rfl (X.move (by conv => lhs; whnf)) ?_
            refine L.va rfl (X.indexStr rfl rfl Try.underlying9 (by omega)) ?_
            refine L.va rfl (X.geq rfl rfl) ?_
            refine L.va rfl (X.move (by conv => lhs; whnf)) ?_
            refine L.caseDec (k := 30) rfl (fun a1 => ?_) (fun a1 => ?_)
            · refine L.va rfl (X.move (by conv => lhs; whnf)) ?_
              refine L.va rfl (X.move (by conv => lhs; whnf)) ?_
              refine L.va rfl (X.indexStr rfl rfl Try.underlying9 (by omega)) ?_
              refine L.va rfl (X.leq rfl rfl) ?_
              refine L.va rfl (X.pickT rfl (by conv => lhs; whnf)) ?_
              refine L.va rfl (X.assign (by conv => lhs; whnf)) ?_
              refine L.nil ?_
              refine J.seq ?_
              refine J.region ?_
              refine L.va rfl (X.move (by conv => lhs; whnf)) ?_
              refine L.va rfl (X.move (by conv => lhs; whnf)) ?_
              refine L.va rfl (X.indexStr rfl rfl Try.underlying9 (by omega)) ?_
              refine L.va rfl (X.geq rfl rfl) ?_
              refine L.va rfl (X.move (by conv => lhs; whnf)) ?_
              refine L.caseDecT (k := 40) rfl (by omega) ?_
              refine L.va rfl (X.move (by conv => lhs; whnf)) ?_
              refine L.va rfl (X.move (by conv => lhs; whnf)) ?_
              refine L.va rfl (X.indexStr rfl rfl Try.underlying9 (by omega)) ?_
              refine L.va rfl (X.leq rfl rfl) ?_
              refine L.va rfl (X.pickT rfl (by conv => lhs; whnf)) ?_
              refine L.va rfl (X.move (by conv => lhs; whnf)) ?_
              refine L.caseDecF (k := 46) rfl (by omega) ?_
              refine L.va rfl (X.move (by conv => lhs; whnf)) ?_
              refine L.va rfl (X.move (by conv => lhs; whnf)) ?_
              refine L.va rfl (X.indexStr rfl rfl Try.underlying9 (by omega)) ?_
              refine L.va rfl (X.eql rfl rfl) ?_
              refine L.va rfl (X.pickF rfl (by conv => lhs; whnf)) ?_
              refine L.va rfl (X.assign (by conv => lhs; whnf)) ?_
              refine L.nil ?_
              refine J.seq ?_
              refine J.region ?_
              refine L.va rfl (X.move (by conv => lhs; whnf)) ?_
              refine L.va rfl (X.not rfl) ?_
              refine L.va rfl (X.move (by conv => lhs; whnf)) ?_
              refine L.caseB (k := 54) rfl (fun a2 => ?_) (fun a2 => ?_)
              · have a2' : ¬ ch s i ≤ 122 := nd_t a2
                refine L.va rfl (X.move (by conv => lhs; whnf)) ?_
                refine L.va rfl (X.not rfl) ?_
                refine L.va rfl (X.move (by conv => lhs; whnf)) ?_
                refine L.caseBT (k := 57) rfl (by exact nd_mk (p := ch s i = 95) (by omega)) ?_
                have hE := hbad (by omega)
                rw [hE]
                refine L.no rfl ?_
                refine L.no rfl ?_
                refine L.va rfl (X.pickT rfl (by conv => lhs; whnf)) ?_
                refine L.va rfl (X.pickT rfl (by conv => lhs; whnf)) ?_
                refine L.nil ?_
                refine J.iteT rfl ?_
                refine J.seq ?_
                refine J.region ?_
                refine L.va rfl (X.assign (by conv => lhs; whnf)) ?_
                refine L.nil ?_
                refine J.ret ?_
                refine inB_ret <|  thn_ret <|  thn_ret <|  inB_ret <|  thn_ret <| ?_
                refine fin1 ?_
                exact ⟨rfl, he⟩
              · have a2' : ch s i ≤ 122 := nd_f a2
                refine L.no rfl ?_
                refine L.no rfl ?_
                refine L.no rfl ?_
                refine L.no rfl ?_
                refine L.no rfl ?_
                refine L.no rfl ?_
                refine L.va rfl (X.pickF rfl (by conv => lhs; whnf)) ?_
                refine L.nil ?_
                refine J.iteF rfl ?_
                refine J.skip ?_
                refine J.region ?_
                refine L.va rfl (X.move (by conv => lhs; whnf)) ?_
                refine L.va rfl (X.add rfl rfl (by omega)) ?_
                refine L.va rfl (X.assign (by conv => lhs; whnf)) ?_
                refine L.nil ?_
                refine ⟨i + 1, At1 (by first | rfl | exact at_int rfl (by omega) | exact at_slice rfl (by omega) | exact at_int rfl (by simp)), (by (iterate 49 refine Agr.lk rfl ?_); exact Agr.lk rfl (Agr.hav rfl Agr.rfl')), ?_⟩
                exact ⟨⟨rfl, by omega, hnext (by omega)⟩, by omega⟩
            · refine L.no rfl ?_
              refine L.no rfl ?_
              refine L.no rfl ?_
              refine L.no rfl ?_
              refine L.va rfl (X.pickF rfl (by conv => lhs; whnf)) ?_
              refine L.va rfl (X.assign (by conv => lhs; whnf)) ?_
              refine L.nil ?_
              refine J.seq ?_
              refine J.region ?_
              refine L.va rfl (X.move (by conv => lhs; whnf)) ?_
              refine L.va rfl (X.move (by conv => lhs; whnf)) ?_
              refine L.va rfl (X.indexStr rfl rfl Try.underlying9 (by omega)) ?_
              refine L.va rfl (X.geq rfl rfl) ?_
              refine L.va rfl (X.move (by conv => lhs; whnf)) ?_
              refine L.caseDec (k := 40) rfl (fun a3 => ?_) (fun a3 => ?_)
              · refine L.va rfl (X.move (by conv => lhs; whnf)) ?_
                refine L.va rfl (X.move (by conv => lhs; whnf)) ?_
                refine L.va rfl (X.indexStr rfl rfl Try.underlying9 (by omega)) ?_
                refine L.va rfl (X.leq rfl rfl) ?_
                refine L.va rfl (X.pickT rfl (by conv => lhs; whnf)) ?_
                refine L.va rfl (X.move (by conv => lhs; whnf)) ?_
                refine L.caseDec (k := 46) rfl (fun a4 => ?_) (fun a4 => ?_)
                · refine L.no rfl ?_
                  refine L.no rfl ?_
                  refine L.no rfl ?_
                  refine L.no rfl ?_
                  refine L.va rfl (X.pickT rfl (by conv => lhs; whnf)) ?_
                  refine L.va rfl (X.assign (by conv => lhs; whnf)) ?_
                  refine L.nil ?_
                  refine J.seq ?_
                  refine J.region ?_
                  refine L.va rfl (X.move (by conv => lhs; whnf)) ?_
                  refine L.va rfl (X.not rfl) ?_
                  refine L.va rfl (X.move (by conv => lhs; whnf)) ?_
                  refine L.va rfl (X.move (by conv => lhs; whnf)) ?_
                  refine L.va rfl (X.not rfl) ?_
                  refine L.va rfl (X.move (by conv => lhs; whnf)) ?_
                  refine L.va rfl (X.move (by conv => lhs; whnf)) ?_
                  refine L.va rfl (X.eql rfl rfl) ?_
                  refine L.va rfl (X.pickF rfl (by conv => lhs; whnf)) ?_
                  refine L.va rfl (X.pickT rfl (by conv => lhs; whnf)) ?_
                  refine L.nil ?_
                  refine J.dec rfl (fun a6 => ?_) (fun a6 => ?_)
                  · have hE := hbad (by omega)
                    rw [hE]
                    refine J.seq ?_
                    refine J.region ?_
                    refine L.va rfl (X.assign (by conv => lhs; whnf)) ?_
                    refine L.nil ?_
                    refine J.ret ?_
                    refine inB_ret <|  thn_ret <|  thn_ret <|  inB_ret <|  thn_ret <| ?_
                    refine fin1 ?_
                    exact ⟨rfl, he⟩
                  · refine J.skip ?_
                    refine J.region ?_
                    refine L.va rfl (X.move (by conv => lhs; whnf)) ?_
                    refine L.va rfl (X.add rfl rfl (by omega)) ?_
                    refine L.va rfl (X.assign (by conv => lhs; whnf)) ?_
                    refine L.nil ?_
                    refine ⟨i + 1, At1 (by first | rfl | exact at_int rfl (by omega) | exact at_slice rfl (by omega) | exact at_int rfl (by simp)), (by (iterate 48 refine Agr.lk rfl ?_); exact Agr.lk rfl (Agr.hav rfl Agr.rfl')), ?_⟩
                    exact ⟨⟨rfl, by omega, hnext (by omega)⟩, by omega⟩
                · refine L.va rfl (X.move (by conv => lhs; whnf)) ?_
                  refine L.va rfl (X.move (by conv => lhs; whnf)) ?_
                  refine L.va rfl (X.indexStr rfl rfl Try.underlying9 (by omega)) ?_
                  refine L.va rfl (X.eql rfl rfl) ?_
                  refine L.va rfl (X.pickF rfl (by conv => lhs; whnf)) ?_
                  refine L.va rfl (X.assign (by conv => lhs; whnf)) ?_
                  refine L.nil ?_
                  refine J.seq ?_
                  refine J.region ?_
                  refine L.va rfl (X.move (by conv => lhs; whnf)) ?_
                  refine L.va rfl (X.not rfl) ?_
                  refine L.va rfl (X.move (by conv => lhs; whnf)) ?_
                  refine L.va rfl (X.move (by conv => lhs; whnf)) ?_
                  refine L.va rfl (X.not rfl) ?_
                  refine L.va rfl (X.move (by conv => lhs; whnf)) ?_
                  refine L.caseB (k := 57) rfl (fun a5 => ?_) (fun a5 => ?_)
                  · have a5' : ¬ ch s i = 95 := nd_t a5
                    have hE := hbad (by omega)
                    rw [hE]
                    refine L.no rfl ?_
                    refine L.no rfl ?_
                    refine L.va rfl (X.pickT rfl (by conv => lhs; whnf)) ?_
                    refine L.va rfl (X.pickT rfl (by conv => lhs; whnf)) ?_
                    refine L.nil ?_
                    refine J.iteT rfl ?_
                    refine J.seq ?_
                    refine J.region ?_
                    refine L.va rfl (X.assign (by conv => lhs; whnf)) ?_
                    refine L.nil ?_
                    refine J.ret ?_
                    refine inB_ret <|  thn_ret <|  thn_ret <|  inB_ret <|  thn_ret <| ?_
                    refine fin1 ?_
                    exact ⟨rfl, he⟩
                  · have a5' : ch s i = 95 := nd_f a5
                    refine L.va rfl (X.move (by conv => lhs; whnf)) ?_
                    refine L.va rfl (X.eql rfl rfl) ?_
                    refine L.va rfl (X.pickF rfl (by conv => lhs; whnf)) ?_
                    refine L.va rfl (X.pickT rfl (by conv => lhs; whnf)) ?_
                    refine L.nil ?_
                    refine J.dec rfl (fun a6 => ?_) (fun a6 => ?_)
                    · have hE := hbad (by omega)
                      rw [hE]
                      refine J.seq ?_
                      refine J.region ?_
                      refine L.va rfl (X.assign (by conv => lhs; whnf)) ?_
                      refine L.nil ?_
                      refine J.ret ?_
                      refine inB_ret <|  thn_ret <|  thn_ret <|  inB_ret <|  thn_ret <| ?_
                      refine fin1 ?_
                      exact ⟨rfl, he⟩
                    · refine J.skip ?_
                      refine J.region ?_
                      refine L.va rfl (X.move (by conv => lhs; whnf)) ?_
                      refine L.va rfl (X.add rfl rfl (by omega)) ?_
                      refine L.va rfl (X.assign (by conv => lhs; whnf)) ?_
                      refine L.nil ?_
                      refine ⟨i + 1, At1 (by first | rfl | exact at_int rfl (by omega) | exact at_slice rfl (by omega) | exact at_int rfl (by simp)), (by (iterate 49 refine Agr.lk rfl ?_); exact Agr.lk rfl (Agr.hav rfl Agr.rfl')), ?_⟩
                      exact ⟨⟨rfl, by omega, hnext (by omega)⟩, by omega⟩
              · refine L.no rfl ?_
                refine L.no rfl ?_
                refine L.no rfl ?_
                refine L.no rfl ?_
                refine L.va rfl (X.pickF rfl (by conv => lhs; whnf)) ?_
                refine L.va rfl (X.move (by conv => lhs; whnf)) ?_
                refine L.va rfl (X.move (by conv => lhs; whnf)) ?_
                refine L.va rfl (X.move (by conv => lhs; whnf)) ?_
                refine L.va rfl (X.indexStr rfl rfl Try.underlying9 (by omega)) ?_
                refine L.va rfl (X.eql rfl rfl) ?_
                refine L.va rfl (X.pickF rfl (by conv => lhs; whnf)) ?_
                refine L.va rfl (X.assign (by conv => lhs; whnf)) ?_
                refine L.nil ?_
                refine J.seq ?_
                refine J.region ?_
                refine L.va rfl (X.move (by conv => lhs; whnf)) ?_
                refine L.va rfl (X.not rfl) ?_
                refine L.va rfl (X.move (by conv => lhs; whnf)) ?_
                refine L.va rfl (X.move (by conv => lhs; whnf)) ?_
                refine L.va rfl (X.not rfl) ?_
                refine L.va rfl (X.move (by conv => lhs; whnf)) ?_
                refine L.caseB (k := 57) rfl (fun a5 => ?_) (fun a5 => ?_)
                · have a5' : ¬ ch s i = 95 := nd_t a5
                  have hE := hbad (by omega)
                  rw [hE]
                  refine L.no rfl ?_
                  refine L.no rfl ?_
                  refine L.va rfl (X.pickT rfl (by conv => lhs; whnf)) ?_
                  refine L.va rfl (X.pickT rfl (by conv => lhs; whnf)) ?_
                  refine L.nil ?_
                  refine J.iteT rfl ?_
                  refine J.seq ?_
                  refine J.region ?_
                  refine L.va rfl (X.assign (by conv => lhs; whnf)) ?_
                  refine L.nil ?_
                  refine J.ret ?_
                  refine inB_ret <|  thn_ret <|  thn_ret <|  inB_ret <|  thn_ret <| ?_
                  refine fin1 ?_
                  exact ⟨rfl, he⟩
                · have a5' : ch s i = 95 := nd_f a5
                  refine L.va rfl (X.move (by conv => lhs; whnf)) ?_
                  refine L.va rfl (X.eql rfl rfl) ?_
                  refine L.va rfl (X.pickF rfl (by conv => lhs; whnf)) ?_
                  refine L.va rfl (X.pickT rfl (by conv => lhs; whnf)) ?_
                  refine L.nil ?_
                  refine J.dec rfl (fun a6 => ?_) (fun a6 => ?_)
                  · have hE := hbad (by omega)
                    rw [hE]
                    refine J.seq ?_
                    refine J.region ?_
                    refine L.va rfl (X.assign (by conv => lhs; whnf)) ?_
                    refine L.nil ?_
                    refine J.ret ?_
                    refine inB_ret <|  thn_ret <|  thn_ret <|  inB_ret <|  thn_ret <| ?_
                    refine fin1 ?_
                    exact ⟨rfl, he⟩
                  · refine J.skip ?_
                    refine J.region ?_
                    refine L.va rfl (X.move (by conv => lhs; whnf)) ?_
                    refine L.va rfl (X.add rfl rfl (by omega)) ?_
                    refine L.va rfl (X.assign (by conv => lhs; whnf)) ?_
                    refine L.nil ?_
                    refine ⟨i + 1, At1 (by first | rfl | exact at_int rfl (by omega) | exact at_slice rfl (by omega) | exact at_int rfl (by simp)), (by (iterate 48 refine Agr.lk rfl ?_); exact Agr.lk rfl (Agr.hav rfl Agr.rfl')), ?_⟩
                    exact ⟨⟨rfl, by omega, hnext (by omega)⟩, by omega⟩
          · obtain rfl : i = s.size := by omega
            have hE : isS s = true := decide_eq_true ⟨by omega, by omega, by have := hP 0 (by omega); omega, fun j hj => by have := hP j hj; omega, hw⟩
            rw [hE]
            refine J.exit ?_
            refine J.seq ?_
            refine J.region ?_
            refine L.va rfl (X.assign (by conv => lhs; whnf)) ?_
            refine L.nil ?_
            refine J.ret ?_
            refine fin1 ?_
            exact ⟨rfl, he⟩
end Go.Proofs.Ytlipeplfjkgamaa
namespace Go.Proofs.Ytlipeplfjkgamaa
open Go.RowKit H
set_option linter.unusedVariables false
def tw (l : List ByteArray) : Int := match (List.range l.length).find? (fun i => among (l.take i) (l.getD i be0)) with
  | some i => (i : Int)
  | none => -1
theorem tw_some {l : List ByteArray} {i : Nat} (hi : i < l.length) (h : among (l.take i) (l.getD i be0) = true) (hP : ∀ j, j < i → among (l.take j) (l.getD j be0) = false) : tw l = (i : Int) := by
  have : (List.range l.length).find? (fun i => among (l.take i) (l.getD i be0)) = some i := by
    rw [List.find?_range_eq_some]
    refine ⟨h, List.mem_range.2 hi, fun j hj => by rw [hP j hj]; rfl⟩
  unfold tw
  rw [this]
theorem tw_none {l : List ByteArray} (hP : ∀ j, j < l.length → among (l.take j) (l.getD j be0) = false) : tw l = -1 := by
  have : (List.range l.length).find? (fun i => among (l.take i) (l.getD i be0)) = none := by
    rw [List.find?_range_eq_none]
    exact fun j hj => by rw [hP j hj]; rfl
  unfold tw
  rw [this]
theorem strs_take (l : List ByteArray) (k : Nat) : (strs l).take k = strs (l.take k) := by simp [strs, List.map_take]
theorem rtwice_any (A : Option Addr) (n c : Nat) (l : List ByteArray) (w : World) (hr : Reads w w.heap.size 1 A n (strs l)) (hnc : n ≤ c) (hn : n ≤ 9223372036854775807) :
    Calls Try.prog 178 #[.slice A n c] w fun e w' => e = .returned (.int .i64 (tw l)) ∧ Ext w w' := by
  have hl : l.length = n := by have := hr.1; simpa [strs] using this
  refine enter Try.func178 rfl (by kernel_rfl) ?_
  refine J.seq ?_
  refine J.region ?_
  refine L.va rfl (X.assign (by conv => lhs; whnf)) ?_
  refine L.nil ?_
  refine J.seq ?_
  refine J.seq ?_
  refine J.region ?_
  refine L.va rfl (X.assign (by conv => lhs; whnf)) ?_
  refine L.nil ?_
  refine J.block ?_
  refine J.loop (X := Nat) [2, 3, 4, 5, 6, 7, 8, 9, 10, 11, 12, 13, 14, 15, 16, 17, 18, 19] (fun i => [(3, .int .i64 (i : Int))]) (fun i w' => Ext w w' ∧ i ≤ n ∧ ∀ j, j < i → among (l.take j) (l.getD j be0) = false) (fun i => n - i) (0) (At1 (by first | rfl | exact at_int rfl (by omega) | exact at_slice rfl (by omega) | exact at_int rfl (by simp))) ?_ ?_
  · exact ⟨Ext.refl _, by omega, fun j hj => absurd hj (by omega)⟩
  · rintro i g w2 ⟨he, hi, hP⟩
    have hr2 := hr.ext he
    refine J.seq ?_
    refine J.seq ?_
    refine J.region ?_
    refine L.va rfl (X.move (by conv => lhs; whnf)) ?_
    refine L.va rfl (X.move (by conv => lhs; whnf)) ?_
    refine L.va rfl (X.len rfl Try.underlying46) ?_
    refine L.va rfl (X.lss rfl rfl) ?_
    refine L.nil ?_
    refine J.dec rfl (fun hlt => ?_) (fun hlt => ?_)
    · have hrt : ∀ w', Ext w2 w' → Reads w' w'.heap.size 1 A i (strs (l.take i)) := by
        intro w' hw'
        have := ((hr2.ext hw').here (by decide)).first (k := i) (by omega)
        rw [Nat.mul_one, strs_take] at this
        exact this
      refine J.skip ?_
      refine J.seq ?_
      refine J.block ?_
      refine J.seq ?_
      refine J.quiet mixed (by kernel_rfl) ?_
      refine Qt.va rfl (fun w' hw => X.move (by conv => lhs; whnf)) ?_
      refine Qt.va rfl (fun w' hw => X.move (by conv => lhs; whnf)) ?_
      refine Qt.va rfl (fun w' hw => (by first | exact X.sliceTon rfl rfl Try.underlying46 sz_9 (by omega) | exact X.sliceTo rfl rfl Try.underlying46 sz_9 (by omega))) ?_
      refine Qt.va rfl (fun w' hw => X.move (by conv => lhs; whnf)) ?_
      refine Qt.va rfl (fun w' hw => X.move (by conv => lhs; whnf)) ?_
      refine Qt.va rfl (fun w' hw => (by first | exact X.index1n rfl rfl Try.underlying46 sz_9 (by first | exact Option.some_ne_none _ | exact hr2.some_ (by omega)) (by omega) | exact X.index1 rfl rfl Try.underlying46 sz_9 (by first | exact Option.some_ne_none _ | exact hr2.some_ (by omega)) (by omega))) ?_
      refine Qt.va rfl (fun w' hw => X.load rfl sc_9 (by first | exact Ld.str (hr2.ext hw) (by omega))) ?_
      refine Qt.call rfl en_232 rfl (fun w' hw => calls_same hw (place_any A i c (l.take i) (l.getD i be0) _ (hrt _ hw) (by omega))) ?_
      refine Qt.va rfl (fun w' hw => X.geq rfl rfl) ?_
      refine Qt.nil (fun w3 hq => ?_)
      replace hr2 := hr2.ext hq
      refine J.dec rfl (fun hin => ?_) (fun hin => ?_)
      · have hE : tw l = (i : Int) := tw_some (by omega) (among_iff.2 (plc_iff.1 hin)) hP
        rw [hE]
        refine J.seq ?_
        refine J.region ?_
        refine L.va rfl (X.move (by conv => lhs; whnf)) ?_
        refine L.va rfl (X.assign (by conv => lhs; whnf)) ?_
        refine L.nil ?_
        refine J.ret ?_
        refine inB_ret <|  thn_ret <|  thn_ret <|  inB_ret <|  thn_ret <| ?_
        refine fin1 ?_
        exact ⟨rfl, he.trans hq⟩
      · refine J.skip ?_
        refine J.region ?_
        refine L.va rfl (X.move (by conv => lhs; whnf)) ?_
        refine L.va rfl (X.add rfl rfl (by omega)) ?_
        refine L.va rfl (X.assign (by conv => lhs; whnf)) ?_
        refine L.nil ?_
        refine ⟨i + 1, At1 (by first | rfl | exact at_int rfl (by omega) | exact at_slice rfl (by omega) | exact at_int rfl (by simp)), (by (iterate 16 refine Agr.lk rfl ?_); exact Agr.lk rfl (Agr.hav rfl Agr.rfl')), ?_⟩
        refine ⟨⟨he.trans hq, by omega, fun j hj => ?_⟩, by omega⟩
        rcases Nat.lt_or_ge j i with h' | h'
        · exact hP j h'
        · obtain rfl : j = i := by omega
          rw [← Bool.not_eq_true]
          exact fun h => hin (plc_iff.2 (among_iff.1 h))
    · obtain rfl : i = n := by omega
      have hE : tw l = -1 := tw_none (by rw [hl]; exact hP)
      rw [hE]
      refine J.exit ?_
      refine J.seq ?_
      refine J.region ?_
      refine L.va rfl (X.assign (by conv => lhs; whnf)) ?_
      refine L.nil ?_
      refine J.ret ?_
      refine fin1 ?_
      exact ⟨rfl, he⟩
end Go.Proofs.Ytlipeplfjkgamaa
namespace Go.Proofs.Ytlipeplfjkgamaa
open Go.RowKit H
set_option linter.unusedVariables false
theorem take_nextS {l : List ByteArray} {i : Nat} (h : i < l.length) : l.take (i + 1) = l.take i ++ [l.getD i be0] := by
  rw [List.take_add_one, List.getElem?_eq_getElem h]
  simp [List.getD, h]
theorem among_next {l : List ByteArray} {i : Nat} (h : i < l.length) (s : ByteArray) : among (l.take (i + 1)) s = (among (l.take i) s || decide (l.getD i be0 = s)) := by
  rw [take_nextS h]
  unfold among
  rw [List.any_append]
  simp
set_option maxRecDepth 100000 in
theorem twice_any (A : Option Addr) (n c : Nat) (l : List ByteArray) (w : World) (hr : Reads w w.heap.size 1 A n (strs l)) (hn : n ≤ maxLen) (hs : ∀ s ∈ l, s.size ≤ maxLen) :
    Calls Try.prog 182 #[.slice A n c] w fun e w' => e = .returned (.int .i64 (tw l)) ∧ Ext w w' := by
  have hl : l.length = n := by have := hr.1; simpa [strs] using this
  unfold maxLen at hn
  have hz : ∀ w' : World, (zeroValue 3).run Try.prog w' = .ok (.int .i64 0) w' := fun w' => rfl
  refine enter Try.func182 rfl (by kernel_rfl) ?_
  refine J.seq ?_
  refine J.region ?_
  refine L.va rfl (X.assign (by conv => lhs; whnf)) ?_
  refine L.nil ?_
  refine J.seq ?_
  refine J.region ?_
  refine L.va rfl (X.move (by conv => lhs; whnf)) ?_
  refine L.va rfl (X.len rfl Try.underlying46) ?_
  refine L.makeMap rfl rfl Try.underlying289 ?_
  intro b w1 hb hs1 hm he
  refine L.va rfl (X.assign (by conv => lhs; whnf)) ?_
  refine L.nil ?_
  refine J.seq ?_
  refine J.seq ?_
  refine J.region ?_
  refine L.va rfl (X.move (by conv => lhs; whnf)) ?_
  refine L.va rfl (X.len rfl Try.underlying46) ?_
  refine L.va rfl (X.move (by conv => lhs; whnf)) ?_
  refine L.nil ?_
  refine J.block ?_
  refine J.loop (X := Nat × (ByteArray → Option Int)) [2, 4, 5, 6, 7, 13, 14, 15, 16, 17, 18, 19, 20, 21, 22, 23, 24, 25, 26, 27, 28, 29] (fun x => [(13, .int .i64 (x.1 : Int))]) (fun x w' => x.1 ≤ n ∧ MapSI Try.prog 9 3 w' b x.1 x.2 ∧ (∀ s, (x.2 s).isSome = among (l.take x.1) s) ∧ (∀ j, j < x.1 → among (l.take j) (l.getD j be0) = false) ∧ Ext w w') (fun x => n - x.1) ((0, fun _ => none)) (At1 (by first | rfl | exact at_int rfl (by omega) | exact at_slice rfl (by omega) | exact at_int rfl (by simp))) ?_ ?_
  · exact ⟨by dsimp only; omega, hm, fun s => rfl, fun j hj => absurd hj (Nat.not_lt_zero _), he⟩
  · rintro ⟨i, f⟩ g w2 ⟨hi, hm2, hf, hP, he2⟩
    dsimp only at hi hm2 hf hP
    have q1 : ((i, f) : Nat × (ByteArray → Option Int)).1 = i := rfl
    have hr2 := hr.ext he2
    refine J.seq ?_
    refine J.region ?_
    refine L.va rfl (X.lss rfl rfl) ?_
    refine L.nil ?_
    refine J.seq ?_
    refine J.dec rfl (fun hlt => ?_) (fun hlt => ?_)
    · have hil : i < l.length := by rw [hl]; dsimp only at hlt; omega
      have hsz : (l.getD i be0).size ≤ maxLen := by
        apply hs
        simp only [List.getD, List.getElem?_eq_getElem hil, Option.getD_some]
        exact List.getElem_mem hil
      refine J.skip ?_
      refine J.seq ?_
      refine J.block ?_
      refine J.seq ?_
      refine J.region ?_
      refine L.va rfl (X.move (by conv => lhs; whnf)) ?_
      refine L.va rfl ((by first | exact X.index1n rfl rfl Try.underlying46 sz_9 (by first | exact Option.some_ne_none _ | exact hr2.some_ (by omega)) (by omega) | exact X.index1 rfl rfl Try.underlying46 sz_9 (by first | exact Option.some_ne_none _ | exact hr2.some_ (by omega)) (by omega))) ?_
      refine L.va rfl (X.load rfl sc_9 (by first | exact Ld.str hr2 (by omega))) ?_
      refine L.va rfl (X.assign (by conv => lhs; whnf)) ?_
      refine L.va rfl (X.assign (by conv => lhs; whnf)) ?_
      refine L.nil ?_
      refine J.seq ?_
      refine J.seq ?_
      refine J.region ?_
      refine L.va rfl (X.move (by conv => lhs; whnf)) ?_
      refine L.va rfl (X.move (by conv => lhs; whnf)) ?_
      refine L.va rfl (X.look rfl rfl hm2 Try.underlying289 (by kernel_rfl) (by kernel_rfl) (hz _) hsz) ?_
      refine L.va rfl (X.move (by conv => lhs; whnf)) ?_
      refine L.va rfl (X.extract rfl rfl) ?_
      refine L.va rfl (X.extract rfl rfl) ?_
      refine L.va rfl (X.assign (by conv => lhs; whnf)) ?_
      refine L.va rfl (X.assign (by conv => lhs; whnf)) ?_
      refine L.nil ?_
      refine J.seq ?_
      refine J.region ?_
      refine L.va rfl (X.move (by conv => lhs; whnf)) ?_
      refine L.nil ?_
      refine J.ite rfl (fun hin => ?_) (fun hin => ?_)
      · have hin' : among (l.take i) (l.getD i be0) = true := by rw [← hf]; exact hin
        have hE : tw l = (i : Int) := tw_some hil hin' hP
        rw [hE]
        refine J.seq ?_
        refine J.region ?_
        refine L.va rfl (X.move (by conv => lhs; whnf)) ?_
        refine L.va rfl (X.assign (by conv => lhs; whnf)) ?_
        refine L.nil ?_
        refine J.ret ?_
        refine thn_ret <|  inB_ret <|  thn_ret <|  thn_ret <|  inB_ret <|  thn_ret <| ?_
        refine fin1 ?_
        exact ⟨rfl, he2⟩
      · have hin' : among (l.take i) (l.getD i be0) = false := by rw [← hf]; simpa using hin
        refine J.skip ?_
        refine J.region ?_
        refine L.va rfl (X.move (by conv => lhs; whnf)) ?_
        refine L.va rfl (X.move (by conv => lhs; whnf)) ?_
        refine L.va rfl (X.move (by conv => lhs; whnf)) ?_
        refine L.mapPut rfl rfl rfl rfl (hm2) Try.underlying289 (by kernel_rfl) (by kernel_rfl) (by unfold maxLen; omega) (hsz) (wf64 (by dsimp only; omega)) ?_
        intro w3 hm3 hg3
        have he3 : Ext w w3 := he2.grw hg3 (by intro g hg; injection hg with hg; omega)
        refine L.nil ?_
        refine J.region ?_
        refine L.va rfl (X.add rfl rfl (by omega)) ?_
        refine L.va rfl (X.move (by conv => lhs; whnf)) ?_
        refine L.nil ?_
        refine ⟨(i + 1, fun x => if x = l.getD i be0 then some (i : Int) else f x), At1 (by first | rfl | exact at_int rfl (by omega) | exact at_slice rfl (by omega) | exact at_int rfl (by simp)), (by (iterate 20 refine Agr.lk rfl ?_); exact Agr.lk rfl (Agr.hav rfl Agr.rfl')), ?_⟩
        refine ⟨⟨by dsimp only; omega, hm3, fun s => ?_, fun j hj => ?_, he3⟩, by dsimp only; omega⟩
        · dsimp only
          rw [among_next hil, ← hf]
          by_cases hss : s = l.getD i be0
          · subst hss; simp
          · rw [if_neg hss, decide_eq_false (fun h => hss h.symm), Bool.or_false]
        · dsimp only at hj
          rcases Nat.lt_or_ge j i with h' | h'
          · exact hP j h'
          · obtain rfl : j = i := by omega
            exact hin'
    · obtain rfl : i = n := by dsimp only at hlt; omega
      have hE : tw l = -1 := tw_none (by rw [hl]; exact hP)
      rw [hE]
      refine J.exit ?_
      refine J.seq ?_
      refine J.region ?_
      refine L.va rfl (X.assign (by conv => lhs; whnf)) ?_
      refine L.nil ?_
      refine J.ret ?_
      refine fin1 ?_
      exact ⟨rfl, he2⟩
end Go.Proofs.Ytlipeplfjkgamaa
namespace Go.Proofs.Ytlipeplfjkgamaa
set_option maxRecDepth 100000
open Go.RowKit H
set_option linter.unusedVariables false
theorem LiesSlice.strs {w : World} {B n : Nat} {A : Option Addr} {xs : List Str} (h : LiesSlice w B A n xs) : Reads w B 1 A n (strs (xs.map (·.s))) := by
  refine ⟨by simp [strs_length, h.1], fun hn => ?_⟩
  obtain ⟨ad, e, hb, hc⟩ := h.2 hn
  refine ⟨ad, e, hb, fun j u hu => ?_⟩
  simp only [Go.Proofs.Ytlipeplfjkgamaa.strs, List.map_map, List.getElem?_map, Option.map_eq_some_iff] at hu
  obtain ⟨x, hx, rfl⟩ := hu
  obtain ⟨us, hus, hl⟩ := hc j x hx
  obtain rfl : us = [.string x.s] := hl
  have := hus 0 (show 0 < 1 by decide)
  simpa [show Lay.size Str = 1 from rfl] using this
def dimsV (l : List (ByteArray × Int)) : List Value := l.flatMap fun p => [.string p.1, .int .i64 p.2]
theorem dimsV_length (l : List (ByteArray × Int)) : (dimsV l).length = l.length * 2 := by
  induction l with
  | nil => rfl
  | cons a l ih => simp only [dimsV, List.flatMap_cons, List.length_append, List.length_cons, List.length_nil] at ih ⊢; omega
theorem dimsV_at : ∀ (l : List (ByteArray × Int)) (i : Nat), (dimsV l)[i * 2]? = (l[i]?).map (fun p => Value.string p.1) ∧ (dimsV l)[i * 2 + 1]? = (l[i]?).map (fun p => Value.int .i64 p.2)
  | [], i => by simp [dimsV]
  | a :: l, 0 => by simp [dimsV]
  | a :: l, i + 1 => by
    obtain ⟨h1, h2⟩ := dimsV_at l i
    have e : dimsV (a :: l) = .string a.1 :: .int .i64 a.2 :: dimsV l := rfl
    rw [e, show (i + 1) * 2 = i * 2 + 1 + 1 by omega]
    simp only [List.getElem?_cons_succ]
    exact ⟨h1, h2⟩
def d0 : ByteArray × Int := (be0, 0)
theorem LiesSlice.dims {w : World} {B n : Nat} {A : Option Addr} {xs : List (Str × Nm .i64)} (h : LiesSlice w B A n xs) : Reads w B 2 A n (dimsV (xs.map fun p => (p.1.s, p.2.z))) := by
  refine ⟨by rw [dimsV_length, List.length_map, h.1], fun hn => ?_⟩
  obtain ⟨ad, e, hb, hc⟩ := h.2 hn
  refine ⟨ad, e, hb, fun j u hu => ?_⟩
  have hj : j < n * 2 := by
    have := (List.getElem?_eq_some_iff.1 hu).1
    rw [dimsV_length, List.length_map, h.1] at this
    exact this
  obtain ⟨k1, k2⟩ := dimsV_at (xs.map fun p => (p.1.s, p.2.z)) (j / 2)
  have hi : j / 2 < xs.length := by rw [h.1]; omega
  have hx : xs[j / 2]? = some xs[j / 2] := List.getElem?_eq_getElem hi
  obtain ⟨us, hus, us1, ws1, rfl, hl1, hl2⟩ := hc (j / 2) _ hx
  obtain rfl : us1 = [.string xs[j / 2].1.s] := hl1
  obtain rfl : ws1 = [.int .i64 xs[j / 2].2.z] := hl2
  have c0 := hus 0 (show 0 < 2 by decide)
  have c1 := hus 1 (show 1 < 2 by decide)
  have hs2 : Lay.size (Str × Nm .i64) = 2 := rfl
  rw [hs2] at c0 c1
  rw [List.getElem?_map, hx] at k1 k2
  rcases Nat.mod_two_eq_zero_or_one j with h0 | h0
  · rw [show j / 2 * 2 = j by omega] at k1
    rw [k1] at hu
    rw [show j / 2 * 2 + 0 = j by omega] at c0
    rw [c0, ← hu]
    rfl
  · rw [show j / 2 * 2 + 1 = j by omega] at k2
    rw [k2] at hu
    rw [show j / 2 * 2 + 1 = j by omega] at c1
    rw [c1, ← hu]
    rfl
namespace H
theorem Ld.dimS {w : World} {B n : Nat} {A : Option Addr} {l : List (ByteArray × Int)} (h : Reads w B 2 A n (dimsV l)) {i : Nat} (hi : i < n) : Ld w (pA A (i * 2)) (.string (l.getD i d0).1) := by
  have h1 := Ld.rd h (j := i * 2) (by omega)
  have hl : i < l.length := by have := h.1; rw [dimsV_length] at this; omega
  have : (dimsV l).getD (i * 2) undef = .string (l.getD i d0).1 := by
    simp only [List.getD, (dimsV_at l i).1, List.getElem?_eq_getElem hl, Option.map_some, Option.getD_some]
  rwa [this] at h1
theorem Ld.dimN {w : World} {B n : Nat} {A : Option Addr} {l : List (ByteArray × Int)} (h : Reads w B 2 A n (dimsV l)) {i : Nat} (hi : i < n) : Ld w (pA A (i * 2 + 1)) (.int .i64 (l.getD i d0).2) := by
  have h1 := Ld.rd h (j := i * 2 + 1) (by omega)
  have hl : i < l.length := by have := h.1; rw [dimsV_length] at this; omega
  have : (dimsV l).getD (i * 2 + 1) undef = .int .i64 (l.getD i d0).2 := by
    simp only [List.getD, (dimsV_at l i).2, List.getElem?_eq_getElem hl, Option.map_some, Option.getD_some]
  rwa [this] at h1
end H
theorem schema4 {w : World} {B : Nat} {vs : List Value} {x : (List (Str × Nm .i64)) × List Str × List Str × List (Nm .u32)} (h : Lay.lies w B vs x) :
    ∃ Ad nd cd A1 n1 c1 A2 n2 c2 Av nv cv, vs = [.slice Ad nd cd, .slice A1 n1 c1, .slice A2 n2 c2, .slice Av nv cv] ∧ (nd ≤ cd ∧ cd ≤ maxLen) ∧ (n1 ≤ c1 ∧ c1 ≤ maxLen) ∧ (n2 ≤ c2 ∧ c2 ≤ maxLen) ∧ (nv ≤ cv ∧ cv ≤ maxLen) ∧
      Reads w B 2 Ad nd (dimsV (x.1.map fun p => (p.1.s, p.2.z))) ∧ Reads w B 1 A1 n1 (strs (x.2.1.map (·.s))) ∧ Reads w B 1 A2 n2 (strs (x.2.2.1.map (·.s))) ∧ Reads w B 1 Av nv (nums .u32 (zsOf x.2.2.2)) := by
  obtain ⟨us, ws, rfl, ⟨Ad, nd, cd, rfl, g1, g2, _, g3⟩, us2, ws2, rfl, ⟨A1, n1, c1, rfl, k1, k2, _, k3⟩, us3, ws3, rfl, ⟨A2, n2, c2, rfl, l1, l2, _, l3⟩, Av, nv, cv, rfl, m1, m2, _, m3⟩ := h
  exact ⟨Ad, nd, cd, A1, n1, c1, A2, n2, c2, Av, nv, cv, rfl, ⟨g1, g2⟩, ⟨k1, k2⟩, ⟨l1, l2⟩, ⟨m1, m2⟩, g3.dims, k3.strs, l3.strs, m3.reads⟩
end Go.Proofs.Ytlipeplfjkgamaa
namespace Go.Proofs.Ytlipeplfjkgamaa
set_option maxRecDepth 100000
open Go.RowKit H
set_option linter.unusedVariables false
theorem strs_ones (l : List ByteArray) : (strs l).all (·.oneCell') = true := by
  rw [List.all_eq_true]
  intro u hu
  simp only [strs, List.mem_map] at hu
  obtain ⟨x, _, rfl⟩ := hu
  rfl
theorem strs_append (a b : List ByteArray) : strs a ++ strs b = strs (a ++ b) := by simp [strs]
theorem dims_row {l : List (ByteArray × Int)} {i : Nat} (h : i < l.length) : ∀ (r : Nat) (v : Value), [Value.string (l.getD i d0).1, Value.int .i64 (l.getD i d0).2][r]? = some v → (dimsV l)[i * 2 + r]? = some v := by
  have e : l.getD i d0 = l[i] := by simp [List.getD, h]
  obtain ⟨h1, h2⟩ := dimsV_at l i
  rw [List.getElem?_eq_getElem h] at h1 h2
  rw [e]
  intro r v hv
  match r, hv with
  | 0, hv => rw [Nat.add_zero, h1]; exact hv
  | 1, hv => rw [h2]; exact hv
def nmL (ds : List (ByteArray × Int)) (s1 s2 : List ByteArray) : List ByteArray := ds.map (·.1) ++ s1 ++ s2
theorem names_take {ds : List (ByteArray × Int)} {i : Nat} (h : i < ds.length) : (ds.take (i + 1)).map (·.1) = (ds.take i).map (·.1) ++ [(ds.getD i d0).1] := by
  rw [List.take_add_one, List.getElem?_eq_getElem h, List.map_append]
  congr 1
  simp [List.getD, h]
theorem sall_any (Ad : Option Addr) (nd cd : Nat) (A1 : Option Addr) (n1 c1 : Nat) (A2 : Option Addr) (n2 c2 : Nat) (Av : Option Addr) (nv cv : Nat) (ds : List (ByteArray × Int)) (s1 s2 : List ByteArray) (w : World)
    (hd : Reads w w.heap.size 2 Ad nd (dimsV ds)) (h1 : Reads w w.heap.size 1 A1 n1 (strs s1)) (h2 : Reads w w.heap.size 1 A2 n2 (strs s2)) (hnd : nd ≤ 1000) (hn1 : n1 ≤ 1000) (hn2 : n2 ≤ 1000) :
    Calls Try.prog 180 #[.agg #[.slice Ad nd cd, .slice A1 n1 c1, .slice A2 n2 c2, .slice Av nv cv]] w fun e w' => ∃ A c, e = .returned (.slice A (nd + n1 + n2) c) ∧ w'.ownsRow w.heap.size 9 1 (.slice A (nd + n1 + n2) c) (nd + n1 + n2) (strs (nmL ds s1 s2)) ∧ Ext w w' := by
  have hl : ds.length = nd := by have := hd.1; rw [dimsV_length] at this; omega
  refine enter Try.func180 rfl (by kernel_rfl) ?_
  refine J.seq ?_
  refine J.region ?_
  refine L.boxA (l := [_, _, _, _]) rfl rfl ?_
  intro b1 w1 hb1 hs1 hk1 he1
  refine L.va rfl (X.assign (by conv => lhs; whnf)) ?_
  refine L.nil ?_
  refine J.seq ?_
  refine J.region ?_
  refine L.va rfl (X.assign (by conv => lhs; whnf)) ?_
  refine L.nil ?_
  refine J.seq ?_
  refine J.seq ?_
  refine J.region ?_
  refine L.va rfl (X.fieldAddr rfl Try.underlying49 rfl sz_45 (by decide)) ?_
  refine L.va rfl (X.load rfl sc_45 (by first | exact Ld.blk hk1 rfl)) ?_
  refine L.va rfl (X.len rfl Try.underlying45) ?_
  refine L.va rfl (X.move (by conv => lhs; whnf)) ?_
  refine L.nil ?_
  refine J.block ?_
  refine J.loop (X := Nat × Option Addr × Nat) [3, 5, 9, 10, 11, 12, 13, 14, 15, 16, 17, 18] (fun x => [(9, .int .i64 (x.1 : Int)), (3, .slice x.2.1 x.1 x.2.2)]) (fun x w' => x.1 ≤ nd ∧ w'.ownsRow w.heap.size 9 1 (.slice x.2.1 x.1 x.2.2) x.1 (strs ((ds.take x.1).map (·.1))) ∧ Blk w' b1 49 #[.slice Ad nd cd, .slice A1 n1 c1, .slice A2 n2 c2, .slice Av nv cv] ∧ Ext w w') (fun x => nd - x.1) ((0, none, 0)) (At2 (by first | rfl | exact at_int rfl (by omega) | exact at_slice rfl (by omega) | exact at_int rfl (by simp)) (by first | rfl | exact at_int rfl (by omega) | exact at_slice rfl (by omega) | exact at_int rfl (by simp))) ?_ ?_
  · exact ⟨by dsimp only; omega, own_nil _ _ _ _, hk1, he1⟩
  · rintro ⟨i, A, c⟩ g w2 ⟨hi, ho2, hk12, he2⟩
    dsimp only at hi ho2
    have q1 : ((i, A, c) : Nat × Option Addr × Nat).1 = i := rfl
    have hz2 := he2.le
    have hd2 := hd.ext he2
    refine J.seq ?_
    refine J.region ?_
    refine L.va rfl (X.lss rfl rfl) ?_
    refine L.nil ?_
    refine J.seq ?_
    refine J.dec rfl (fun hlt => ?_) (fun hlt => ?_)
    · have hil : i < ds.length := by rw [hl]; dsimp only at hlt; omega
      refine J.skip ?_
      refine J.seq ?_
      refine J.block ?_
      refine J.seq ?_
      refine J.region ?_
      refine L.va rfl ((by first | exact X.indexAddrn rfl rfl Try.underlying45 sz_128 (by first | exact Option.some_ne_none _ | exact hd2.some_ (by omega)) (by omega) | exact X.indexAddr rfl rfl Try.underlying45 sz_128 (by first | exact Option.some_ne_none _ | exact hd2.some_ (by omega)) (by omega))) ?_
      refine L.va rfl (X.loadRow (cs := [.string (ds.getD i d0).1, .int .i64 (ds.getD i d0).2]) rfl hd2 (dims_row hil) (Nat.zero_lt_succ _) Try.underlying128 rfl (by kernel_rfl)) ?_
      refine L.alloc rfl zr_128 ?_
      intro b3 w3 hb3 hs3 hk3 he3
      refine L.storeAgg (vs := [_, _]) rfl rfl rfl rfl sz_128 (hk3) rfl ?_
      intro w4 hk4 hg4 hs4
      have ho4 := (ho2.ext he3).kept hg4 (.inr (own_blk_ne (ho2.ext he3) hk3 (by decide)))
      have hlt1 := hk12.lt
      have hkS4 := (hk12.ext he3).grown hg4 (by intro hg; injection hg with hg; omega)
      have he4 : Ext w w4 := (he2.trans he3).grw hg4 (by intro g hg; injection hg with hg; omega)
      have hz4 := he4.le
      refine L.nil ?_
      refine J.region ?_
      refine L.va rfl (X.move (by conv => lhs; whnf)) ?_
      refine L.va rfl (X.fieldAddr rfl Try.underlying128 rfl sz_9 (by decide)) ?_
      refine L.va rfl (X.load rfl sc_9 (by first | exact Ld.blk hk4 rfl)) ?_
      refine L.bslice (vs := [_]) rfl (Evs.cons (by conv => lhs; whnf) Evs.nil) rfl rfl rfl rfl Try.underlying46 sz_9 zr_9 (by decide) ?_
      intro b5 w5 hb5 hs5 hk5 he5
      have hz5 := he5.le
      refine L.appendV (q := i + 1) (ys := strs ((ds.take i).map (·.1)) ++ strs [(ds.getD i d0).1]) rfl rfl rfl Try.underlying46 el_9 (ho4.ext he5) ((blk_reads (q := 1) (l := strs [(ds.getD i d0).1]) hk5 (by omega : b5 < w5.heap.size) rfl)) (by first | rfl | exact strs_ones _ | assumption) (by omega) (by simp) (by unfold maxLen; omega) (by omega) ?_
      intro A6 c6 w6 ho6 hg6 hb6 hor6
      rw [strs_append, ← names_take hil] at ho6
      have he6 : Ext w w6 := (he4.trans he5).low hb6 (Nat.le_refl _)
      have hkS6 := (hkS4.ext he5).grown hg6 (fun h => own_blk_ne (ho4.ext he5) (hkS4.ext he5) (by decide) h.symm)
      refine L.va rfl (X.assign (by conv => lhs; whnf)) ?_
      refine L.nil ?_
      refine J.region ?_
      refine L.va rfl (X.add rfl rfl (by omega)) ?_
      refine L.va rfl (X.move (by conv => lhs; whnf)) ?_
      refine L.nil ?_
      refine ⟨(i + 1, A6, c6), At2 (by first | rfl | exact at_int rfl (by omega) | exact at_slice rfl (by omega) | exact at_int rfl (by simp)) (by first | rfl | exact at_int rfl (by omega) | exact at_slice rfl (by omega) | exact at_int rfl (by simp)), (by (iterate 12 refine Agr.lk rfl ?_); exact Agr.lk rfl (Agr.hav rfl Agr.rfl')), ?_⟩
      exact ⟨⟨by dsimp only; omega, ho6, hkS6, he6⟩, by dsimp only; omega⟩
    · obtain rfl : i = nd := by dsimp only at hlt; omega
      rw [List.take_of_length_le (by omega)] at ho2
      refine J.exit ?_
      refine J.seq ?_
      refine J.region ?_
      refine L.va rfl (X.move (by conv => lhs; whnf)) ?_
      refine L.va rfl (X.fieldAddr rfl Try.underlying49 rfl sz_46 (by decide)) ?_
      refine L.va rfl (X.load rfl sc_46 (by first | exact Ld.blk hk12 rfl)) ?_
      refine L.appendV (q := i + n1) (ys := strs (ds.map (·.1)) ++ strs s1) rfl rfl rfl Try.underlying46 el_9 (ho2) ((h1.ext he2).here (by decide)) (by first | rfl | exact strs_ones _ | assumption) (by omega) (by simp) (by unfold maxLen; omega) (by omega) ?_
      intro A3 c3 w3 ho3 hg3 hb3 hor3
      rw [strs_append] at ho3
      have he3 : Ext w w3 := he2.low hb3 (Nat.le_refl _)
      have hk13 := hk12.grown hg3 (fun h => own_blk_ne ho2 hk12 (by decide) h.symm)
      have hz3 := he3.le
      refine L.va rfl (X.assign (by conv => lhs; whnf)) ?_
      refine L.nil ?_
      refine J.seq ?_
      refine J.region ?_
      refine L.va rfl (X.move (by conv => lhs; whnf)) ?_
      refine L.va rfl (X.fieldAddr rfl Try.underlying49 rfl sz_46 (by decide)) ?_
      refine L.va rfl (X.load rfl sc_46 (by first | exact Ld.blk hk13 rfl)) ?_
      refine L.appendV (q := i + n1 + n2) (ys := strs (ds.map (·.1) ++ s1) ++ strs s2) rfl rfl rfl Try.underlying46 el_9 (ho3) ((h2.ext he3).here (by decide)) (by first | rfl | exact strs_ones _ | assumption) (by omega) (by simp) (by unfold maxLen; omega) (by omega) ?_
      intro A4 c4 w4 ho4 hg4 hb4 hor4
      rw [strs_append] at ho4
      refine L.va rfl (X.assign (by conv => lhs; whnf)) ?_
      refine L.nil ?_
      refine J.ret ?_
      refine fin1 ?_
      exact ⟨A4, c4, rfl, ho4, he3.low hb4 (Nat.le_refl _)⟩
end Go.Proofs.Ytlipeplfjkgamaa
namespace Go.Proofs.Ytlipeplfjkgamaa
open Go.RowKit H
open Mk
set_option linter.unusedVariables false
theorem rtwo_any (n : Nat) (w : World) (hn : n < 32) :
    Calls Try.prog 96 #[.int .i64 (n : Int)] w fun e w' => e = .returned (.int .u32 ((2 ^ n : Nat) : Int)) ∧ w = w' := by
  refine enter Try.func96 rfl (by kernel_rfl) ?_
  refine J.seq ?_
  refine J.region ?_
  refine L.va rfl (X.assign (by conv => lhs; whnf)) ?_
  refine L.nil ?_
  refine J.seq ?_
  refine J.region ?_
  refine L.va rfl (X.assign (by conv => lhs; whnf)) ?_
  refine L.nil ?_
  refine J.seq ?_
  refine J.seq ?_
  refine J.region ?_
  refine L.va rfl (X.assign (by conv => lhs; whnf)) ?_
  refine L.nil ?_
  refine J.block ?_
  refine J.loop (X := Nat × Nat) [3, 4, 5, 6, 7, 8, 9, 10, 11] (fun x => [(4, .int .i64 (x.1 : Int)), (3, .int .u32 (x.2 : Int))]) (fun x w' => w' = w ∧ x.1 ≤ n ∧ x.2 = 2 ^ x.1) (fun x => n - x.1) ((0, 1)) (At2 (by first | rfl | exact at_int rfl (by omega) | exact at_slice rfl (by omega) | exact at_int rfl (by simp)) (by first | rfl | exact at_int rfl (by omega) | exact at_slice rfl (by omega) | exact at_int rfl (by simp))) ?_ ?_
  · exact ⟨rfl, by dsimp only; omega, rfl⟩
  · rintro ⟨i, p⟩ g w1 ⟨rfl, hi, hp⟩
    dsimp only at hi hp
    refine J.seq ?_
    refine J.seq ?_
    refine J.region ?_
    refine L.va rfl (X.move (by conv => lhs; whnf)) ?_
    refine L.va rfl (X.move (by conv => lhs; whnf)) ?_
    refine L.va rfl (X.lss rfl rfl) ?_
    refine L.nil ?_
    refine J.dec rfl (fun hlt => ?_) (fun hlt => ?_)
    · have hb : 2 ^ (i + 1) ≤ 2 ^ 31 := Nat.pow_le_pow_right (by decide) (by omega)
      have e : IntKind.u32.wrap (2 * (p : Int)) = ((2 ^ (i + 1) : Nat) : Int) := by
        rw [Nat.pow_succ, ← hp] at hb ⊢
        rw [w32 (by omega)]
        omega
      refine J.skip ?_
      refine J.seq ?_
      refine J.block ?_
      refine J.region ?_
      refine L.va rfl (X.move (by conv => lhs; whnf)) ?_
      refine L.va rfl (X.mulw rfl rfl) ?_
      refine L.va rfl (X.assign (by conv => lhs; whnf)) ?_
      refine L.nil ?_
      refine J.region ?_
      refine L.va rfl (X.move (by conv => lhs; whnf)) ?_
      refine L.va rfl (X.add rfl rfl (by omega)) ?_
      refine L.va rfl (X.assign (by conv => lhs; whnf)) ?_
      refine L.nil ?_
      refine ⟨(i + 1, 2 ^ (i + 1)), At2 (rfl) (at_int rfl e), (by (iterate 9 refine Agr.lk rfl ?_); exact Agr.lk rfl (Agr.hav rfl Agr.rfl')), ?_⟩
      exact ⟨⟨rfl, by dsimp only; omega, rfl⟩, by dsimp only; omega⟩
    · obtain rfl : i = n := by omega
      subst hp
      refine J.exit ?_
      refine J.seq ?_
      refine J.region ?_
      refine L.va rfl (X.move (by conv => lhs; whnf)) ?_
      refine L.va rfl (X.assign (by conv => lhs; whnf)) ?_
      refine L.nil ?_
      refine J.ret ?_
      refine fin1 ?_
      exact ⟨rfl, rfl⟩
theorem rin_any (a n : Nat) (w : World) (ha : a < 4294967296) (hn : n < 32) :
    Calls Try.prog 95 #[.int .u32 (a : Int), .int .i64 (n : Int)] w fun e w' => e = .returned (.bool (a.testBit n)) ∧ w = w' := by
  have hpos : 0 < ((2 ^ n : Nat) : Int) := by have := Nat.pow_pos (n := n) (by decide : 0 < 2); omega
  have hd : (a : Int) / ((2 ^ n : Nat) : Int) = ((a / 2 ^ n : Nat) : Int) := rfl
  have e : decide ((a : Int) / ((2 ^ n : Nat) : Int) % 2 = 1) = a.testBit n := by
    rw [Nat.testBit_eq_decide_div_mod_eq, hd, decide_eq_decide]
    omega
  have h0 : 0 ≤ (a : Int) / ((2 ^ n : Nat) : Int) := by rw [hd]; exact Int.natCast_nonneg _
  have hp := rtwo_any n
  generalize ((2 ^ n : Nat) : Int) = p at *
  refine enter Try.func95 rfl (by kernel_rfl) ?_
  refine J.seq ?_
  refine J.region ?_
  refine L.va rfl (X.assign (by conv => lhs; whnf)) ?_
  refine L.nil ?_
  refine J.seq ?_
  refine J.region ?_
  refine L.va rfl (X.move (by conv => lhs; whnf)) ?_
  refine L.va rfl (X.move (by conv => lhs; whnf)) ?_
  refine L.call rfl en_96 rfl (hp _ hn) ?_
  rintro e _ ⟨rfl, rfl⟩
  refine ⟨_, rfl, ?_⟩
  refine L.va rfl (X.quo32 rfl rfl (by omega)) ?_
  refine L.va rfl (X.rem rfl rfl (by omega)) ?_
  refine L.va rfl (X.eql rfl rfl) ?_
  refine L.va rfl (X.assign (by conv => lhs; whnf)) ?_
  refine L.nil ?_
  refine J.ret ?_
  refine fin1 ?_
  rw [e]
  exact ⟨rfl, rfl⟩
theorem rsub_any (a b : Nat) (w : World) (ha : a < 4294967296) (hb : b < 4294967296) :
    Calls Try.prog 98 #[.int .u32 (a : Int), .int .u32 (b : Int)] w fun e w' => e = .returned (.bool (sb a b)) ∧ w = w' := by
  refine enter Try.func98 rfl (by kernel_rfl) ?_
  refine J.seq ?_
  refine J.region ?_
  refine L.va rfl (X.assign (by conv => lhs; whnf)) ?_
  refine L.nil ?_
  refine J.seq ?_
  refine J.seq ?_
  refine J.region ?_
  refine L.va rfl (X.assign (by conv => lhs; whnf)) ?_
  refine L.nil ?_
  refine J.block ?_
  refine J.loop (X := Nat) [4, 5, 6, 7, 8, 9, 10, 11, 12, 13, 14, 15, 16, 17, 18] (fun i => [(5, .int .i64 (i : Int))]) (fun i w' => w' = w ∧ i ≤ 32 ∧ ∀ j, j < i → a.testBit j = true → b.testBit j = true) (fun i => 32 - i) (0) (At1 (by first | rfl | exact at_int rfl (by omega) | exact at_slice rfl (by omega) | exact at_int rfl (by simp))) ?_ ?_
  · exact ⟨rfl, by omega, fun j hj => absurd hj (by omega)⟩
  · rintro i g w1 ⟨rfl, hi, hP⟩
    refine J.seq ?_
    refine J.seq ?_
    refine J.region ?_
    refine L.va rfl (X.move (by conv => lhs; whnf)) ?_
    refine L.va rfl (X.lss rfl rfl) ?_
    refine L.nil ?_
    refine J.dec rfl (fun hlt => ?_) (fun hlt => ?_)
    · refine J.skip ?_
      refine J.seq ?_
      refine J.block ?_
      refine J.seq ?_
      refine J.region ?_
      refine L.va rfl (X.move (by conv => lhs; whnf)) ?_
      refine L.va rfl (X.move (by conv => lhs; whnf)) ?_
      refine L.call rfl en_95 rfl (rin_any a i _ ha (by omega)) ?_
      rintro e _ ⟨rfl, rfl⟩
      refine ⟨_, rfl, ?_⟩
      refine L.va rfl (X.move (by conv => lhs; whnf)) ?_
      refine L.caseB (k := 13) rfl (fun h1 => ?_) (fun h1 => ?_)
      · refine L.va rfl (X.move (by conv => lhs; whnf)) ?_
        refine L.va rfl (X.move (by conv => lhs; whnf)) ?_
        refine L.call rfl en_95 rfl (rin_any b i _ hb (by omega)) ?_
        rintro e _ ⟨rfl, rfl⟩
        refine ⟨_, rfl, ?_⟩
        cases h2 : b.testBit i
        · have e : sb a b = false := by
            cases hs : sb a b with
            | false => rfl
            | true => have := sb_iff.1 hs i h1; rw [h2] at this; cases this
          rw [e]
          refine L.va rfl (X.not rfl) ?_
          refine L.va rfl (X.pickT rfl (by conv => lhs; whnf)) ?_
          refine L.nil ?_
          refine J.iteT rfl ?_
          refine J.seq ?_
          refine J.region ?_
          refine L.va rfl (X.assign (by conv => lhs; whnf)) ?_
          refine L.nil ?_
          refine J.ret ?_
          refine inB_ret <|  thn_ret <|  thn_ret <|  inB_ret <|  thn_ret <| ?_
          refine fin1 ?_
          exact ⟨rfl, rfl⟩
        · refine L.va rfl (X.not rfl) ?_
          refine L.va rfl (X.pickT rfl (by conv => lhs; whnf)) ?_
          refine L.nil ?_
          refine J.iteF rfl ?_
          refine J.skip ?_
          refine J.region ?_
          refine L.va rfl (X.move (by conv => lhs; whnf)) ?_
          refine L.va rfl (X.add rfl rfl (by omega)) ?_
          refine L.va rfl (X.assign (by conv => lhs; whnf)) ?_
          refine L.nil ?_
          refine ⟨i + 1, At1 (by first | rfl | exact at_int rfl (by omega) | exact at_slice rfl (by omega) | exact at_int rfl (by simp)), (by (iterate 15 refine Agr.lk rfl ?_); exact Agr.lk rfl (Agr.hav rfl Agr.rfl')), ?_⟩
          refine ⟨⟨rfl, by omega, fun j hj => ?_⟩, by omega⟩
          rcases Nat.lt_or_ge j i with h | h
          · exact hP j h
          · obtain rfl : j = i := by omega
            exact fun _ => h2
      · refine L.no rfl ?_
        refine L.no rfl ?_
        refine L.no rfl ?_
        refine L.no rfl ?_
        refine L.va rfl (X.pickF rfl (by conv => lhs; whnf)) ?_
        refine L.nil ?_
        refine J.iteF rfl ?_
        refine J.skip ?_
        refine J.region ?_
        refine L.va rfl (X.move (by conv => lhs; whnf)) ?_
        refine L.va rfl (X.add rfl rfl (by omega)) ?_
        refine L.va rfl (X.assign (by conv => lhs; whnf)) ?_
        refine L.nil ?_
        refine ⟨i + 1, At1 (by first | rfl | exact at_int rfl (by omega) | exact at_slice rfl (by omega) | exact at_int rfl (by simp)), (by (iterate 15 refine Agr.lk rfl ?_); exact Agr.lk rfl (Agr.hav rfl Agr.rfl')), ?_⟩
        refine ⟨⟨rfl, by omega, fun j hj => ?_⟩, by omega⟩
        rcases Nat.lt_or_ge j i with h | h
        · exact hP j h
        · obtain rfl : j = i := by omega
          intro h2
          rw [h1] at h2
          cases h2
    · obtain rfl : i = 32 := by omega
      have e : sb a b = true := by
        rw [sb_iff]
        intro j hj
        rcases Nat.lt_or_ge j 32 with h | h
        · exact hP j h hj
        · have : a < 2 ^ j := Nat.lt_of_lt_of_le ha (by rw [show 4294967296 = 2 ^ 32 by decide]; exact Nat.pow_le_pow_right (by decide) h)
          rw [Nat.testBit_lt_two_pow this] at hj
          cases hj
      rw [e]
      refine J.exit ?_
      refine J.seq ?_
      refine J.region ?_
      refine L.va rfl (X.assign (by conv => lhs; whnf)) ?_
      refine L.nil ?_
      refine J.ret ?_
      refine fin1 ?_
      exact ⟨rfl, rfl⟩
end Go.Proofs.Ytlipeplfjkgamaa
namespace Go.Proofs.Ytlipeplfjkgamaa
set_option maxRecDepth 100000
open Go.RowKit H
set_option linter.unusedVariables false
theorem grb_new {a b c : World} {r r' : Option Nat} (h : a.grownBy b r) (k : b.grownBy c r') (hr : r' = r ∨ ∃ g, r' = some g ∧ a.heap.size ≤ g) : a.grownBy c r :=
  ⟨k.os.trans h.os, k.tape.trans h.tape, k.output.trans h.output, Nat.le_trans h.size k.size, fun i hi hne => (k.block i (Nat.lt_of_lt_of_le hi h.size) (by
    rcases hr with rfl | ⟨g, rfl, hg⟩
    · exact hne
    · intro he; injection he with he; omega)).trans (h.block i hi hne)⟩
theorem rnames_any (Ad : Option Addr) (nd cd : Nat) (A1 : Option Addr) (n1 c1 : Nat) (A2 : Option Addr) (n2 c2 : Nat) (Av : Option Addr) (nv cv : Nat) (ds : List (ByteArray × Int)) (s1 s2 : List ByteArray) (w : World)
    (hd : Reads w w.heap.size 2 Ad nd (dimsV ds)) (h1 : Reads w w.heap.size 1 A1 n1 (strs s1)) (h2 : Reads w w.heap.size 1 A2 n2 (strs s2)) (hnd : nd ≤ 1000) (hn1 : n1 ≤ 1000) (hn2 : n2 ≤ 1000) :
    Calls Try.prog 85 #[.agg #[.slice Ad nd cd, .slice A1 n1 c1, .slice A2 n2 c2, .slice Av nv cv]] w fun e w' => ∃ A c, e = .returned (.slice A (nd + n1 + n2) c) ∧ w'.ownsRow w.heap.size 9 1 (.slice A (nd + n1 + n2) c) (nd + n1 + n2) (strs (nmL ds s1 s2)) ∧ Ext w w' := by
  have hl : ds.length = nd := by have := hd.1; rw [dimsV_length] at this; omega
  refine enter Try.func85 rfl (by kernel_rfl) ?_
  refine J.seq ?_
  refine J.region ?_
  refine L.boxA (l := [_, _, _, _]) rfl rfl ?_
  intro b1 w1 hb1 hs1 hk1 he1
  refine L.va rfl (X.assign (by conv => lhs; whnf)) ?_
  refine L.nil ?_
  refine J.seq ?_
  refine J.region ?_
  refine L.va rfl (X.assign (by conv => lhs; whnf)) ?_
  refine L.nil ?_
  refine J.seq ?_
  refine J.seq ?_
  refine J.region ?_
  refine L.va rfl (X.assign (by conv => lhs; whnf)) ?_
  refine L.nil ?_
  refine J.block ?_
  refine J.loop (X := Nat × Option Addr × Nat) [3, 4, 5, 6, 7, 8, 9, 10, 11, 12, 13, 14, 15, 16, 17, 18, 19, 20] (fun x => [(4, .int .i64 (x.1 : Int)), (3, .slice x.2.1 x.1 x.2.2)]) (fun x w' => x.1 ≤ nd ∧ w'.ownsRow w.heap.size 9 1 (.slice x.2.1 x.1 x.2.2) x.1 (strs ((ds.take x.1).map (·.1))) ∧ Blk w' b1 49 #[.slice Ad nd cd, .slice A1 n1 c1, .slice A2 n2 c2, .slice Av nv cv] ∧ Ext w w') (fun x => nd - x.1) ((0, none, 0)) (At2 (by first | rfl | exact at_int rfl (by omega) | exact at_slice rfl (by omega) | exact at_int rfl (by simp)) (by first | rfl | exact at_int rfl (by omega) | exact at_slice rfl (by omega) | exact at_int rfl (by simp))) ?_ ?_
  · exact ⟨by dsimp only; omega, own_nil _ _ _ _, hk1, he1⟩
  · rintro ⟨i, A, c⟩ g w2 ⟨hi, ho2, hk12, he2⟩
    dsimp only at hi ho2
    have q1 : ((i, A, c) : Nat × Option Addr × Nat).1 = i := rfl
    have hz2 := he2.le
    have hd2 := hd.ext he2
    refine J.seq ?_
    refine J.seq ?_
    refine J.region ?_
    refine L.va rfl (X.move (by conv => lhs; whnf)) ?_
    refine L.va rfl (X.fieldAddr rfl Try.underlying49 rfl sz_45 (by decide)) ?_
    refine L.va rfl (X.load rfl sc_45 (by first | exact Ld.blk hk12 rfl | exact Ld.rd hd2 (by omega))) ?_
    refine L.va rfl (X.len rfl Try.underlying45) ?_
    refine L.va rfl (X.lss rfl rfl) ?_
    refine L.nil ?_
    refine J.dec rfl (fun hlt => ?_) (fun hlt => ?_)
    · have hil : i < ds.length := by rw [hl]; dsimp only at hlt; omega
      refine J.skip ?_
      refine J.seq ?_
      refine J.block ?_
      refine J.region ?_
      refine L.va rfl (X.move (by conv => lhs; whnf)) ?_
      refine L.va rfl (X.fieldAddr rfl Try.underlying49 rfl sz_45 (by decide)) ?_
      refine L.va rfl (X.load rfl sc_45 (by first | exact Ld.blk hk12 rfl | exact Ld.rd hd2 (by omega))) ?_
      refine L.va rfl (X.move (by conv => lhs; whnf)) ?_
      refine L.va rfl ((by first | exact X.indexAddrn rfl rfl Try.underlying45 sz_128 (by first | exact Option.some_ne_none _ | exact hd2.some_ (by omega)) (by omega) | exact X.indexAddr rfl rfl Try.underlying45 sz_128 (by first | exact Option.some_ne_none _ | exact hd2.some_ (by omega)) (by omega))) ?_
      refine L.va rfl (X.fieldP rfl Try.underlying128 rfl sz_9 (by decide) (by first | exact Option.some_ne_none _ | exact hd2.some_ (by omega))) ?_
      refine L.va rfl (X.load rfl sc_9 (Ld.dimS hd2 (by omega))) ?_
      refine L.bslice (vs := [_]) rfl (Evs.cons (by conv => lhs; whnf) Evs.nil) rfl rfl rfl rfl Try.underlying46 sz_9 zr_9 (by decide) ?_
      intro b5 w5 hb5 hs5 hk5 he5
      have hz5 := he5.le
      have hkS := hk12
      refine L.appendV (q := i + 1) (ys := strs ((ds.take i).map (·.1)) ++ strs [(ds.getD i d0).1]) rfl rfl rfl Try.underlying46 el_9 (ho2.ext he5) ((blk_reads (q := 1) (l := strs [(ds.getD i d0).1]) hk5 (by omega : b5 < w5.heap.size) rfl)) (by first | rfl | exact strs_ones _ | assumption) (by omega) (by simp) (by unfold maxLen; omega) (by omega) ?_
      intro A6 c6 w6 ho6 hg6 hb6 hor6
      rw [strs_append, ← names_take hil] at ho6
      have he6 : Ext w w6 := (he2.trans he5).low hb6 (Nat.le_refl _)
      have hkS6 := (hkS.ext he5).grown hg6 (fun h => own_blk_ne (ho2.ext he5) (hkS.ext he5) (by decide) h.symm)
      refine L.va rfl (X.assign (by conv => lhs; whnf)) ?_
      refine L.nil ?_
      refine J.region ?_
      refine L.va rfl (X.move (by conv => lhs; whnf)) ?_
      refine L.va rfl (X.add rfl rfl (by omega)) ?_
      refine L.va rfl (X.assign (by conv => lhs; whnf)) ?_
      refine L.nil ?_
      refine ⟨(i + 1, A6, c6), At2 (by first | rfl | exact at_int rfl (by omega) | exact at_slice rfl (by omega) | exact at_int rfl (by simp)) (by first | rfl | exact at_int rfl (by omega) | exact at_slice rfl (by omega) | exact at_int rfl (by simp)), (by (iterate 18 refine Agr.lk rfl ?_); exact Agr.lk rfl (Agr.hav rfl Agr.rfl')), ?_⟩
      exact ⟨⟨by dsimp only; omega, ho6, hkS6, he6⟩, by dsimp only; omega⟩
    · obtain rfl : i = nd := by dsimp only at hlt; omega
      rw [List.take_of_length_le (by omega)] at ho2
      have r1 := (h1.ext he2).here (by decide : 0 < 1)
      have r2 := (h2.ext he2).here (by decide : 0 < 1)
      refine J.exit ?_
      refine J.seq ?_
      have hne := own_blk_ne ho2 hk12 (by decide)
      refine J.draw (ℓ := 1000000) (S := (fun w' => w2.grownBy w' (Value.slice A i c).ownBlock)) mixed (fun w3 hSE hS_h => ?_)
      have hS : ((fun w' => w2.grownBy w' (Value.slice A i c).ownBlock)) w3 := grown_ext hSE
      refine D.va 0 rfl (by kernel_rfl) (fun _ _ _ h => h) rfl (fun w' hw => X.move (by conv => lhs; whnf)) hS ?_
      refine D.va 1 rfl (by kernel_rfl) (fun _ _ _ h => h) rfl (fun w' hw => X.fieldAddr rfl Try.underlying49 rfl sz_46 (by decide)) hS ?_
      refine D.va 2 rfl (by kernel_rfl) (fun _ _ _ h => h) rfl (fun w' hw => X.load rfl sc_46 (by first | exact Ld.blk (hk12.grown hw (fun h => hne h.symm)) rfl)) hS ?_
      refine D.va 4 rfl (by kernel_rfl) (fun _ _ _ h => h) rfl (fun w' hw => X.fieldAddr rfl Try.underlying49 rfl sz_46 (by decide)) hS ?_
      refine D.va 5 rfl (by kernel_rfl) (fun _ _ _ h => h) rfl (fun w' hw => X.load rfl sc_46 (by first | exact Ld.blk (hk12.grown hw (fun h => hne h.symm)) rfl)) hS ?_
      have hz3 := hSE.le
      refine D.one 3 (by kernel_rfl) rfl ?_
      refine L.appendV (q := i + n1) (ys := strs (ds.map (·.1)) ++ strs s1) rfl rfl rfl Try.underlying46 el_9 (ho2.ext hSE) ((r1.ext hSE).here (by decide)) (by first | rfl | exact strs_ones _ | assumption) (by omega) (by simp) (by unfold maxLen; omega) (by omega) ?_
      intro A3 c3 w4 ho3 hg3 hb3 hor3
      have hS1 := grb_trans hS hg3
      refine L.nil ?_
      refine ⟨fun _ => hS1, ?_⟩
      rw [strs_append] at ho3
      have he4 : Ext w w4 := (he2.trans hSE).low hb3 (Nat.le_refl _)
      have hz4 := he4.le
      refine D.one 6 (by kernel_rfl) rfl ?_
      refine L.appendV (q := i + n1 + n2) (ys := strs (ds.map (·.1) ++ s1) ++ strs s2) rfl rfl rfl Try.underlying46 el_9 (ho3) ((h2.ext he4).here (by decide)) (by first | rfl | exact strs_ones _ | assumption) (by omega) (by simp) (by unfold maxLen; omega) (by omega) ?_
      intro A4 c4 w5 ho4 hg4 hb4 hor4
      have hS2 := grb_new hS1 hg4 (by rcases hor3 with h | h; exact .inl h; exact .inr ⟨_, h, hz3⟩)
      refine L.nil ?_
      refine ⟨fun _ => hS2, ?_⟩
      rw [strs_append] at ho4
      refine D.va 7 rfl (by kernel_rfl) (fun _ _ _ h => h) rfl (fun w' hw => X.assign (by conv => lhs; whnf)) hS2 ?_
      refine D.done (by kernel_rfl) ?_
      replace hk12 := hk12.grown hS2 (fun h => hne h.symm)
      refine J.ret ?_
      refine fin1 ?_
      exact ⟨A4, c4, rfl, ho4, he4.low hb4 (Nat.le_refl _)⟩
end Go.Proofs.Ytlipeplfjkgamaa
namespace Go.Proofs.Ytlipeplfjkgamaa
set_option maxRecDepth 100000
open Go.RowKit H
set_option linter.unusedVariables false
theorem rfull_any (Ad : Option Addr) (nd cd : Nat) (v1 v2 v3 : Value) (w : World) (hnd : nd < 32) :
    Calls Try.prog 51 #[.agg #[.slice Ad nd cd, v1, v2, v3]] w fun e w' => e = .returned (.int .u32 ((2 ^ nd - 1 : Nat) : Int)) ∧ Ext w w' := by
  have hp : 1 ≤ 2 ^ nd ∧ 2 ^ nd ≤ 2 ^ 31 := ⟨Nat.pow_pos (by decide), Nat.pow_le_pow_right (by decide) (by omega)⟩
  have c1 := rtwo_any nd
  generalize 2 ^ nd = p at *
  have e : IntKind.u32.wrap ((p : Int) - 1) = ((p - 1 : Nat) : Int) := by rw [w32 (by omega)]; omega
  refine enter Try.func51 rfl (by kernel_rfl) ?_
  refine J.seq ?_
  refine J.region ?_
  refine L.boxA (l := [_, _, _, _]) rfl rfl ?_
  intro b1 w1 hb1 hs1 hk1 he1
  refine L.va rfl (X.assign (by conv => lhs; whnf)) ?_
  refine L.nil ?_
  refine J.seq ?_
  refine J.region ?_
  refine L.va rfl (X.fieldAddr rfl Try.underlying49 rfl sz_45 (by decide)) ?_
  refine L.va rfl (X.load rfl sc_45 (by first | exact Ld.blk hk1 rfl)) ?_
  refine L.va rfl (X.len rfl Try.underlying45) ?_
  refine L.call rfl en_96 rfl (c1 _ hnd) ?_
  rintro e _ ⟨rfl, rfl⟩
  refine ⟨_, rfl, ?_⟩
  refine L.va rfl (X.subw rfl rfl) ?_
  refine L.va rfl (X.assign (by conv => lhs; whnf)) ?_
  refine L.nil ?_
  refine J.ret ?_
  refine fin1 ?_
  rw [e]
  exact ⟨rfl, he1⟩
end Go.Proofs.Ytlipeplfjkgamaa
namespace Go.Proofs.Ytlipeplfjkgamaa
set_option maxRecDepth 100000
open Go.RowKit H
set_option linter.unusedVariables false
theorem light11 (Ad : Option Addr) (nd cd : Nat) (A1 : Option Addr) (n1 c1 : Nat) (A2 : Option Addr) (n2 c2 : Nat) (Av : Option Addr) (nv cv : Nat) (ds : List (ByteArray × Int)) (s1 s2 : List ByteArray) (w : World)
    (hd : Reads w w.heap.size 2 Ad nd (dimsV ds)) (h1 : Reads w w.heap.size 1 A1 n1 (strs s1)) (h2 : Reads w w.heap.size 1 A2 n2 (strs s2)) :
    Calls Try.prog 29 #[.agg #[.slice Ad nd cd, .slice A1 n1 c1, .slice A2 n2 c2, .slice Av nv cv]] w fun e w' => ∃ b, e = .returned (.bool b) ∧ (b = true → nd ≤ 100 ∧ n1 ≤ 100 ∧ n2 ≤ 100 ∧ nv ≤ 100) ∧ Ext w w' := by
  refine enter Try.func29 rfl (by kernel_rfl) ?_
  refine J.seq ?_
  refine J.region ?_
  refine L.boxA (l := [_, _, _, _]) rfl rfl ?_
  intro b1 w1 hb1 hs1 hk1 he1
  refine L.va rfl (X.assign (by conv => lhs; whnf)) ?_
  refine L.nil ?_
  refine J.seq ?_
  refine J.seq ?_
  refine J.region ?_
  refine L.va rfl (X.fieldAddr rfl Try.underlying49 rfl sz_45 (by decide)) ?_
  refine L.va rfl (X.load rfl sc_45 (by first | exact Ld.blk hk1 rfl)) ?_
  refine L.va rfl (X.len rfl Try.underlying45) ?_
  refine L.va rfl (X.gtr rfl rfl) ?_
  refine L.va rfl (X.move (by conv => lhs; whnf)) ?_
  refine L.caseDec (k := 9) rfl (fun a1 => ?_) (fun a1 => ?_)
  · refine L.no rfl ?_
    refine L.no rfl ?_
    refine L.no rfl ?_
    refine L.no rfl ?_
    refine L.va rfl (X.pickT rfl (by conv => lhs; whnf)) ?_
    refine L.va rfl (X.move (by conv => lhs; whnf)) ?_
    refine L.no rfl ?_
    refine L.no rfl ?_
    refine L.no rfl ?_
    refine L.no rfl ?_
    refine L.va rfl (X.pickT rfl (by conv => lhs; whnf)) ?_
    refine L.va rfl (X.move (by conv => lhs; whnf)) ?_
    refine L.no rfl ?_
    refine L.no rfl ?_
    refine L.no rfl ?_
    refine L.no rfl ?_
    refine L.va rfl (X.pickT rfl (by conv => lhs; whnf)) ?_
    refine L.nil ?_
    refine J.iteT rfl ?_
    refine J.seq ?_
    refine J.region ?_
    refine L.va rfl (X.assign (by conv => lhs; whnf)) ?_
    refine L.nil ?_
    refine J.ret ?_
    refine thn_ret <| ?_
    refine fin1 ?_
    exact ⟨false, rfl, by simp, he1⟩
  · refine L.va rfl (X.fieldAddr rfl Try.underlying49 rfl sz_46 (by decide)) ?_
    refine L.va rfl (X.load rfl sc_46 (by first | exact Ld.blk hk1 rfl)) ?_
    refine L.va rfl (X.len rfl Try.underlying46) ?_
    refine L.va rfl (X.gtr rfl rfl) ?_
    refine L.va rfl (X.pickF rfl (by conv => lhs; whnf)) ?_
    refine L.va rfl (X.move (by conv => lhs; whnf)) ?_
    refine L.caseDec (k := 15) rfl (fun a2 => ?_) (fun a2 => ?_)
    · refine L.no rfl ?_
      refine L.no rfl ?_
      refine L.no rfl ?_
      refine L.no rfl ?_
      refine L.va rfl (X.pickT rfl (by conv => lhs; whnf)) ?_
      refine L.va rfl (X.move (by conv => lhs; whnf)) ?_
      refine L.no rfl ?_
      refine L.no rfl ?_
      refine L.no rfl ?_
      refine L.no rfl ?_
      refine L.va rfl (X.pickT rfl (by conv => lhs; whnf)) ?_
      refine L.nil ?_
      refine J.iteT rfl ?_
      refine J.seq ?_
      refine J.region ?_
      refine L.va rfl (X.assign (by conv => lhs; whnf)) ?_
      refine L.nil ?_
      refine J.ret ?_
      refine thn_ret <| ?_
      refine fin1 ?_
      exact ⟨false, rfl, by simp, he1⟩
    · refine L.va rfl (X.fieldAddr rfl Try.underlying49 rfl sz_46 (by decide)) ?_
      refine L.va rfl (X.load rfl sc_46 (by first | exact Ld.blk hk1 rfl)) ?_
      refine L.va rfl (X.len rfl Try.underlying46) ?_
      refine L.va rfl (X.gtr rfl rfl) ?_
      refine L.va rfl (X.pickF rfl (by conv => lhs; whnf)) ?_
      refine L.va rfl (X.move (by conv => lhs; whnf)) ?_
      refine L.caseDec (k := 21) rfl (fun a3 => ?_) (fun a3 => ?_)
      · refine L.no rfl ?_
        refine L.no rfl ?_
        refine L.no rfl ?_
        refine L.no rfl ?_
        refine L.va rfl (X.pickT rfl (by conv => lhs; whnf)) ?_
        refine L.nil ?_
        refine J.iteT rfl ?_
        refine J.seq ?_
        refine J.region ?_
        refine L.va rfl (X.assign (by conv => lhs; whnf)) ?_
        refine L.nil ?_
        refine J.ret ?_
        refine thn_ret <| ?_
        refine fin1 ?_
        exact ⟨false, rfl, by simp, he1⟩
      · refine L.va rfl (X.fieldAddr rfl Try.underlying49 rfl sz_47 (by decide)) ?_
        refine L.va rfl (X.load rfl sc_47 (by first | exact Ld.blk hk1 rfl)) ?_
        refine L.va rfl (X.len rfl Try.underlying47) ?_
        refine L.va rfl (X.gtr rfl rfl) ?_
        refine L.va rfl (X.pickF rfl (by conv => lhs; whnf)) ?_
        refine L.nil ?_
        refine J.dec rfl (fun a4 => ?_) (fun a4 => ?_)
        · refine J.seq ?_
          refine J.region ?_
          refine L.va rfl (X.assign (by conv => lhs; whnf)) ?_
          refine L.nil ?_
          refine J.ret ?_
          refine thn_ret <| ?_
          refine fin1 ?_
          exact ⟨false, rfl, by simp, he1⟩
        · refine J.skip ?_
          refine J.seq ?_
          refine J.region ?_
          refine L.va rfl ((by first | exact X.loadAgg rfl (range_l hk1) Try.underlying49 rfl (by kernel_rfl) | exact X.loadAgg rfl (range_blk hk1) Try.underlying49 rfl (by kernel_rfl))) ?_
          refine L.call rfl en_85 rfl (rnames_any Ad nd cd A1 n1 c1 A2 n2 c2 Av nv cv ds s1 s2 _ ((hd.ext he1).here (by decide)) ((h1.ext he1).here (by decide)) ((h2.ext he1).here (by decide)) (by omega) (by omega) (by omega)) ?_
          rintro e w2 ⟨A, c, rfl, ho, he2⟩
          refine ⟨_, rfl, ?_⟩
          have he2 : Ext w1 w2 := he2
          refine L.va rfl (X.assign (by conv => lhs; whnf)) ?_
          refine L.nil ?_
          refine J.seq ?_
          refine J.seq ?_
          refine J.region ?_
          refine L.va rfl (X.assign (by conv => lhs; whnf)) ?_
          refine L.nil ?_
          refine J.block ?_
          refine J.loop (X := Nat) [2, 4, 29, 30, 31, 32, 33, 34, 35, 36, 37, 38, 39, 40] (fun i => [(4, .int .i64 (i : Int))]) (fun i w' => w' = w2 ∧ i ≤ nd + n1 + n2) (fun i => nd + n1 + n2 - i) (0) (At1 (by first | rfl | exact at_int rfl (by omega) | exact at_slice rfl (by omega) | exact at_int rfl (by simp))) ?_ ?_
          · exact ⟨rfl, by omega⟩
          · rintro i g w3 ⟨rfl, hi⟩
            refine J.seq ?_
            refine J.seq ?_
            refine J.region ?_
            refine L.va rfl (X.move (by conv => lhs; whnf)) ?_
            refine L.va rfl (X.move (by conv => lhs; whnf)) ?_
            refine L.va rfl (X.len rfl Try.underlying46) ?_
            refine L.va rfl (X.lss rfl rfl) ?_
            refine L.nil ?_
            refine J.dec rfl (fun hlt => ?_) (fun hlt => ?_)
            · refine J.skip ?_
              refine J.seq ?_
              refine J.block ?_
              refine J.seq ?_
              refine J.region ?_
              refine L.va rfl (X.move (by conv => lhs; whnf)) ?_
              refine L.va rfl (X.move (by conv => lhs; whnf)) ?_
              refine L.va rfl ((by first | exact X.index1n rfl rfl Try.underlying46 sz_9 (by first | exact Option.some_ne_none _ | exact own_ne ho (by omega)) (by omega) | exact X.index1 rfl rfl Try.underlying46 sz_9 (by first | exact Option.some_ne_none _ | exact own_ne ho (by omega)) (by omega))) ?_
              refine L.va rfl (X.load rfl sc_9 (by first | exact Ld.ostr ho (by omega))) ?_
              refine L.va rfl (X.lens rfl Try.underlying9) ?_
              refine L.va rfl (X.gtr rfl rfl) ?_
              refine L.nil ?_
              refine J.dec rfl (fun a5 => ?_) (fun a5 => ?_)
              · refine J.seq ?_
                refine J.region ?_
                refine L.va rfl (X.assign (by conv => lhs; whnf)) ?_
                refine L.nil ?_
                refine J.ret ?_
                refine inB_ret <|  thn_ret <|  thn_ret <|  inB_ret <|  thn_ret <| ?_
                refine fin1 ?_
                exact ⟨false, rfl, by simp, he1.trans he2⟩
              · refine J.skip ?_
                refine J.region ?_
                refine L.va rfl (X.move (by conv => lhs; whnf)) ?_
                refine L.va rfl (X.add rfl rfl (by omega)) ?_
                refine L.va rfl (X.assign (by conv => lhs; whnf)) ?_
                refine L.nil ?_
                refine ⟨i + 1, At1 (by first | rfl | exact at_int rfl (by omega) | exact at_slice rfl (by omega) | exact at_int rfl (by simp)), (by (iterate 13 refine Agr.lk rfl ?_); exact Agr.lk rfl (Agr.hav rfl Agr.rfl')), ?_⟩
                exact ⟨⟨rfl, by omega⟩, by omega⟩
            · refine J.exit ?_
              refine J.seq ?_
              refine J.region ?_
              refine L.va rfl (X.assign (by conv => lhs; whnf)) ?_
              refine L.nil ?_
              refine J.ret ?_
              refine fin1 ?_
              exact ⟨true, rfl, fun _ => ⟨by omega, by omega, by omega, by omega⟩, he1.trans he2⟩
end Go.Proofs.Ytlipeplfjkgamaa
namespace Go.Proofs.Ytlipeplfjkgamaa
set_option maxRecDepth 100000
set_option linter.unusedVariables false
def kyA (ds : List (ByteArray × Int)) : Nat → Int
  | 0 => 1
  | i + 1 => kyA ds i * (ds.getD i d0).2
def szB (ds : List (ByteArray × Int)) : Nat → Bool
  | 0 => true
  | i + 1 => szB ds i && decide (1 ≤ (ds.getD i d0).2 ∧ (ds.getD i d0).2 ≤ 4096 ∧ kyA ds (i + 1) ≤ 1099511627776)
def viB (F : Int) (zs : List Int) : Nat → Bool
  | 0 => true
  | i + 1 => viB F zs i && decide (zs.getD i 0 < F ∧ (i = 0 ∨ zs.getD (i - 1) 0 < zs.getD i 0))
def nmB (l : List ByteArray) : Nat → Bool
  | 0 => true
  | i + 1 => nmB l i && isS (l.getD i be0)
theorem mono_b {f : Nat → Bool} (hs : ∀ i, f (i + 1) = true → f i = true) {i n : Nat} (h : i ≤ n) (hn : f n = true) : f i = true := by
  induction n with
  | zero => obtain rfl : i = 0 := by omega
            exact hn
  | succ n ih =>
    rcases Nat.lt_or_ge n i with h' | h'
    · obtain rfl : i = n + 1 := by omega
      exact hn
    · exact ih h' (hs n hn)
theorem mono_f {f : Nat → Bool} (hs : ∀ i, f (i + 1) = true → f i = true) {i n : Nat} (h : i ≤ n) (hn : f i = false) : f n = false := by
  cases hc : f n with
  | false => rfl
  | true => rw [mono_b hs h hc] at hn; cases hn
theorem szB_s (ds : List (ByteArray × Int)) (i : Nat) (h : szB ds (i + 1) = true) : szB ds i = true := by simp only [szB, Bool.and_eq_true] at h; exact h.1
theorem viB_s (F : Int) (zs : List Int) (i : Nat) (h : viB F zs (i + 1) = true) : viB F zs i = true := by simp only [viB, Bool.and_eq_true] at h; exact h.1
theorem nmB_s (l : List ByteArray) (i : Nat) (h : nmB l (i + 1) = true) : nmB l i = true := by simp only [nmB, Bool.and_eq_true] at h; exact h.1
theorem szB_at {ds : List (ByteArray × Int)} {i : Nat} (h : szB ds (i + 1) = true) : 1 ≤ (ds.getD i d0).2 ∧ (ds.getD i d0).2 ≤ 4096 ∧ kyA ds (i + 1) ≤ 1099511627776 := by
  simp only [szB, Bool.and_eq_true] at h; exact of_decide_eq_true h.2
theorem szB_mk {ds : List (ByteArray × Int)} {i : Nat} (h : szB ds i = true) (k : 1 ≤ (ds.getD i d0).2 ∧ (ds.getD i d0).2 ≤ 4096 ∧ kyA ds (i + 1) ≤ 1099511627776) : szB ds (i + 1) = true := by
  simp only [szB, Bool.and_eq_true]; exact ⟨h, decide_eq_true k⟩
theorem szB_no {ds : List (ByteArray × Int)} {i : Nat} (k : ¬ (1 ≤ (ds.getD i d0).2 ∧ (ds.getD i d0).2 ≤ 4096 ∧ kyA ds (i + 1) ≤ 1099511627776)) : szB ds (i + 1) = false := by
  cases hc : szB ds (i + 1) with
  | false => rfl
  | true => exact absurd (szB_at hc) k
theorem viB_at {F : Int} {zs : List Int} {i : Nat} (h : viB F zs (i + 1) = true) : zs.getD i 0 < F ∧ (i = 0 ∨ zs.getD (i - 1) 0 < zs.getD i 0) := by
  simp only [viB, Bool.and_eq_true] at h; exact of_decide_eq_true h.2
theorem viB_mk {F : Int} {zs : List Int} {i : Nat} (h : viB F zs i = true) (k : zs.getD i 0 < F ∧ (i = 0 ∨ zs.getD (i - 1) 0 < zs.getD i 0)) : viB F zs (i + 1) = true := by
  simp only [viB, Bool.and_eq_true]; exact ⟨h, decide_eq_true k⟩
theorem viB_no {F : Int} {zs : List Int} {i : Nat} (k : ¬ (zs.getD i 0 < F ∧ (i = 0 ∨ zs.getD (i - 1) 0 < zs.getD i 0))) : viB F zs (i + 1) = false := by
  cases hc : viB F zs (i + 1) with
  | false => rfl
  | true => exact absurd (viB_at hc) k
theorem nmB_at {l : List ByteArray} {i : Nat} (h : nmB l (i + 1) = true) : isS (l.getD i be0) = true := by
  simp only [nmB, Bool.and_eq_true] at h; exact h.2
theorem nmB_mk {l : List ByteArray} {i : Nat} (h : nmB l i = true) (k : isS (l.getD i be0) = true) : nmB l (i + 1) = true := by
  simp only [nmB, Bool.and_eq_true]; exact ⟨h, k⟩
theorem nmB_no {l : List ByteArray} {i : Nat} (k : isS (l.getD i be0) = false) : nmB l (i + 1) = false := by
  simp only [nmB, k, Bool.and_false]
theorem kyA_bd {ds : List (ByteArray × Int)} {n : Nat} (h : szB ds n = true) : 1 ≤ kyA ds n ∧ kyA ds n ≤ 1099511627776 := by
  induction n with
  | zero => exact ⟨Int.le_refl _, show (1 : Int) ≤ 1099511627776 by decide⟩
  | succ n ih =>
    have h1 := ih (szB_s _ _ h)
    have h2 := szB_at h
    refine ⟨?_, h2.2.2⟩
    have : kyA ds (n + 1) = kyA ds n * (ds.getD n d0).2 := rfl
    rw [this]
    have := Int.mul_le_mul h1.1 h2.1 (by decide) (by omega)
    simpa using this
theorem ky_next {ds : List (ByteArray × Int)} {i : Nat} (hz : szB ds i = true) (h1 : 1 ≤ (ds.getD i d0).2) (h2 : (ds.getD i d0).2 ≤ 4096) : 1 ≤ kyA ds (i + 1) ∧ kyA ds (i + 1) ≤ 1099511627776 * 4096 := by
  have hb := kyA_bd hz
  have hA : kyA ds (i + 1) = kyA ds i * (ds.getD i d0).2 := rfl
  rw [hA]
  constructor
  · have := Int.mul_le_mul hb.1 h1 (by decide) (by omega)
    simpa using this
  · exact Int.mul_le_mul hb.2 h2 (by omega) (by decide)
def chk (nd n1 n2 nv : Nat) (ds : List (ByteArray × Int)) (s1 s2 : List ByteArray) (zs : List Int) : Int :=
  if ¬ (1 ≤ nd ∧ nd ≤ 6 ∧ n1 ≤ 3 ∧ n2 ≤ 2 ∧ nv ≤ 15) then 3
  else if nmB (nmL ds s1 s2) (nd + n1 + n2) = false then 8
  else if 0 ≤ tw (nmL ds s1 s2) then 9
  else if szB ds nd = false then 2
  else if viB ((2 ^ nd - 1 : Nat) : Int) zs nv = false then 6
  else 0
section
variable {nd n1 n2 nv : Nat} {ds : List (ByteArray × Int)} {s1 s2 : List ByteArray} {zs : List Int}
theorem chk_3 (h : ¬ (1 ≤ nd ∧ nd ≤ 6 ∧ n1 ≤ 3 ∧ n2 ≤ 2 ∧ nv ≤ 15)) : chk nd n1 n2 nv ds s1 s2 zs = 3 := by unfold chk; rw [if_pos h]
theorem chk_8 (h : 1 ≤ nd ∧ nd ≤ 6 ∧ n1 ≤ 3 ∧ n2 ≤ 2 ∧ nv ≤ 15) (h8 : nmB (nmL ds s1 s2) (nd + n1 + n2) = false) : chk nd n1 n2 nv ds s1 s2 zs = 8 := by unfold chk; rw [if_neg (fun k => k h), if_pos h8]
theorem chk_9 (h : 1 ≤ nd ∧ nd ≤ 6 ∧ n1 ≤ 3 ∧ n2 ≤ 2 ∧ nv ≤ 15) (h8 : nmB (nmL ds s1 s2) (nd + n1 + n2) = true) (h9 : 0 ≤ tw (nmL ds s1 s2)) : chk nd n1 n2 nv ds s1 s2 zs = 9 := by unfold chk; rw [if_neg (fun k => k h), if_neg (by rw [h8]; decide), if_pos h9]
theorem chk_2 (h : 1 ≤ nd ∧ nd ≤ 6 ∧ n1 ≤ 3 ∧ n2 ≤ 2 ∧ nv ≤ 15) (h8 : nmB (nmL ds s1 s2) (nd + n1 + n2) = true) (h9 : ¬ 0 ≤ tw (nmL ds s1 s2)) (h2 : szB ds nd = false) : chk nd n1 n2 nv ds s1 s2 zs = 2 := by unfold chk; rw [if_neg (fun k => k h), if_neg (by rw [h8]; decide), if_neg h9, if_pos h2]
theorem chk_6 (h : 1 ≤ nd ∧ nd ≤ 6 ∧ n1 ≤ 3 ∧ n2 ≤ 2 ∧ nv ≤ 15) (h8 : nmB (nmL ds s1 s2) (nd + n1 + n2) = true) (h9 : ¬ 0 ≤ tw (nmL ds s1 s2)) (h2 : szB ds nd = true) (h6 : viB ((2 ^ nd - 1 : Nat) : Int) zs nv = false) : chk nd n1 n2 nv ds s1 s2 zs = 6 := by unfold chk; rw [if_neg (fun k => k h), if_neg (by rw [h8]; decide), if_neg h9, if_neg (by rw [h2]; decide), if_pos h6]
theorem chk_0 (h : 1 ≤ nd ∧ nd ≤ 6 ∧ n1 ≤ 3 ∧ n2 ≤ 2 ∧ nv ≤ 15) (h8 : nmB (nmL ds s1 s2) (nd + n1 + n2) = true) (h9 : ¬ 0 ≤ tw (nmL ds s1 s2)) (h2 : szB ds nd = true) (h6 : viB ((2 ^ nd - 1 : Nat) : Int) zs nv = true) : chk nd n1 n2 nv ds s1 s2 zs = 0 := by unfold chk; rw [if_neg (fun k => k h), if_neg (by rw [h8]; decide), if_neg h9, if_neg (by rw [h2]; decide), if_neg (by rw [h6]; decide)]
theorem chk_ok (h : chk nd n1 n2 nv ds s1 s2 zs = 0) : (1 ≤ nd ∧ nd ≤ 6 ∧ n1 ≤ 3 ∧ n2 ≤ 2 ∧ nv ≤ 15) ∧ szB ds nd = true ∧ viB ((2 ^ nd - 1 : Nat) : Int) zs nv = true := by
  unfold chk at h
  split at h
  · cases h
  · rename_i h1
    split at h
    · cases h
    · split at h
      · cases h
      · split at h
        · cases h
        · rename_i h2
          split at h
          · cases h
          · rename_i h6
            exact ⟨Decidable.not_not.1 h1, by simpa using h2, by simpa using h6⟩
end
end Go.Proofs.Ytlipeplfjkgamaa
namespace Go.Proofs.Ytlipeplfjkgamaa
set_option maxRecDepth 100000
open Go.RowKit H
set_option linter.unusedVariables false
theorem pw6 {nd : Nat} (h : nd ≤ 6) : 1 ≤ 2 ^ nd ∧ 2 ^ nd ≤ 64 := ⟨Nat.pow_pos (by decide), Nat.le_trans (Nat.pow_le_pow_right (by decide) h) (by decide)⟩
theorem sb_full {a nd : Nat} (ha : a < 4294967296) (hn : nd ≤ 6) : Mk.sb a (2 ^ nd - 1) = decide (a ≤ 2 ^ nd - 1) := by
  have hp := (pw6 hn).1
  unfold Mk.sb
  rw [Nat.and_two_pow_sub_one_eq_mod, Bool.eq_iff_iff, beq_iff_eq, decide_eq_true_iff]
  constructor
  · intro h
    have := Nat.mod_lt a hp
    omega
  · intro h
    exact Nat.mod_eq_of_lt (by omega)
theorem rsub_full (z F : Int) (nd : Nat) (w : World) (hz : 0 ≤ z ∧ z < 4294967296) (hn : nd ≤ 6) (hF : ((2 ^ nd - 1 : Nat) : Int) = F) :
    Calls Try.prog 98 #[.int .u32 z, .int .u32 F] w fun e w' => e = .returned (.bool (decide (z ≤ F))) ∧ w = w' := by
  obtain ⟨a, rfl⟩ := Int.eq_ofNat_of_zero_le hz.1
  have hp := pw6 hn
  have h := rsub_any a (2 ^ nd - 1) w (by omega) (by omega)
  rw [sb_full (by omega) hn] at h
  have e : decide (a ≤ 2 ^ nd - 1) = decide ((a : Int) ≤ F) := by rw [decide_eq_decide]; omega
  rw [e, hF] at h
  exact h
theorem rcheck_any (Ad : Option Addr) (nd cd : Nat) (A1 : Option Addr) (n1 c1 : Nat) (A2 : Option Addr) (n2 c2 : Nat) (Av : Option Addr) (nv cv : Nat) (ds : List (ByteArray × Int)) (s1 s2 : List ByteArray) (zs : List Int) (w : World)
    (hd : Reads w w.heap.size 2 Ad nd (dimsV ds)) (h1 : Reads w w.heap.size 1 A1 n1 (strs s1)) (h2 : Reads w w.heap.size 1 A2 n2 (strs s2)) (hv : Reads w w.heap.size 1 Av nv (nums .u32 zs)) (hzs : ∀ i, 0 ≤ zs.getD i 0 ∧ zs.getD i 0 < 4294967296) (hnv : nv ≤ maxLen) :
    Calls Try.prog 97 #[.agg #[.slice Ad nd cd, .slice A1 n1 c1, .slice A2 n2 c2, .slice Av nv cv]] w fun e w' => e = .returned (.int .i64 (chk nd n1 n2 nv ds s1 s2 zs)) ∧ Ext w w' := by
  have hl : ds.length = nd := by have := hd.1; rw [dimsV_length] at this; omega
  unfold maxLen at hnv
  have t3 := @chk_3 nd n1 n2 nv ds s1 s2 zs
  refine enter Try.func97 rfl (by kernel_rfl) ?_
  refine J.seq ?_
  refine J.region ?_
  refine L.boxA (l := [_, _, _, _]) rfl rfl ?_
  intro b1 w1 hb1 hs1 hk1 he1
  refine L.va rfl (X.assign (by conv => lhs; whnf)) ?_
  refine L.nil ?_
  refine J.seq ?_
  refine J.seq ?_
  refine J.region ?_
  refine L.va rfl (X.fieldAddr rfl Try.underlying49 rfl sz_45 (by decide)) ?_
  refine L.va rfl (X.load rfl sc_45 (by first | exact Ld.blk hk1 rfl)) ?_
  refine L.va rfl (X.len rfl Try.underlying45) ?_
  refine L.va rfl (X.lss rfl rfl) ?_
  refine L.va rfl (X.move (by conv => lhs; whnf)) ?_
  refine L.caseDec (k := 14) rfl (fun a1 => ?_) (fun a1 => ?_)
  · rw [t3 (by omega)]
    refine L.no rfl ?_
    refine L.no rfl ?_
    refine L.no rfl ?_
    refine L.no rfl ?_
    refine L.va rfl (X.pickT rfl (by conv => lhs; whnf)) ?_
    refine L.va rfl (X.move (by conv => lhs; whnf)) ?_
    refine L.no rfl ?_
    refine L.no rfl ?_
    refine L.no rfl ?_
    refine L.no rfl ?_
    refine L.va rfl (X.pickT rfl (by conv => lhs; whnf)) ?_
    refine L.va rfl (X.move (by conv => lhs; whnf)) ?_
    refine L.no rfl ?_
    refine L.no rfl ?_
    refine L.no rfl ?_
    refine L.no rfl ?_
    refine L.va rfl (X.pickT rfl (by conv => lhs; whnf)) ?_
    refine L.va rfl (X.move (by conv => lhs; whnf)) ?_
    refine L.no rfl ?_
    refine L.no rfl ?_
    refine L.no rfl ?_
    refine L.no rfl ?_
    refine L.va rfl (X.pickT rfl (by conv => lhs; whnf)) ?_
    refine L.nil ?_
    refine J.iteT rfl ?_
    refine J.seq ?_
    refine J.region ?_
    refine L.va rfl (X.assign (by conv => lhs; whnf)) ?_
    refine L.nil ?_
    refine J.ret ?_
    refine thn_ret <| ?_
    refine fin1 ?_
    exact ⟨rfl, he1⟩
  · refine L.va rfl (X.fieldAddr rfl Try.underlying49 rfl sz_45 (by decide)) ?_
    refine L.va rfl (X.load rfl sc_45 (by first | exact Ld.blk hk1 rfl)) ?_
    refine L.va rfl (X.len rfl Try.underlying45) ?_
    refine L.va rfl (X.gtr rfl rfl) ?_
    refine L.va rfl (X.pickF rfl (by conv => lhs; whnf)) ?_
    refine L.va rfl (X.move (by conv => lhs; whnf)) ?_
    refine L.caseDec (k := 20) rfl (fun a2 => ?_) (fun a2 => ?_)
    · rw [t3 (by omega)]
      refine L.no rfl ?_
      refine L.no rfl ?_
      refine L.no rfl ?_
      refine L.no rfl ?_
      refine L.va rfl (X.pickT rfl (by conv => lhs; whnf)) ?_
      refine L.va rfl (X.move (by conv => lhs; whnf)) ?_
      refine L.no rfl ?_
      refine L.no rfl ?_
      refine L.no rfl ?_
      refine L.no rfl ?_
      refine L.va rfl (X.pickT rfl (by conv => lhs; whnf)) ?_
      refine L.va rfl (X.move (by conv => lhs; whnf)) ?_
      refine L.no rfl ?_
      refine L.no rfl ?_
      refine L.no rfl ?_
      refine L.no rfl ?_
      refine L.va rfl (X.pickT rfl (by conv => lhs; whnf)) ?_
      refine L.nil ?_
      refine J.iteT rfl ?_
      refine J.seq ?_
      refine J.region ?_
      refine L.va rfl (X.assign (by conv => lhs; whnf)) ?_
      refine L.nil ?_
      refine J.ret ?_
      refine thn_ret <| ?_
      refine fin1 ?_
      exact ⟨rfl, he1⟩
    · refine L.va rfl (X.fieldAddr rfl Try.underlying49 rfl sz_46 (by decide)) ?_
      refine L.va rfl (X.load rfl sc_46 (by first | exact Ld.blk hk1 rfl)) ?_
      refine L.va rfl (X.len rfl Try.underlying46) ?_
      refine L.va rfl (X.gtr rfl rfl) ?_
      refine L.va rfl (X.pickF rfl (by conv => lhs; whnf)) ?_
      refine L.va rfl (X.move (by conv => lhs; whnf)) ?_
      refine L.caseDec (k := 26) rfl (fun a3 => ?_) (fun a3 => ?_)
      · rw [t3 (by omega)]
        refine L.no rfl ?_
        refine L.no rfl ?_
        refine L.no rfl ?_
        refine L.no rfl ?_
        refine L.va rfl (X.pickT rfl (by conv => lhs; whnf)) ?_
        refine L.va rfl (X.move (by conv => lhs; whnf)) ?_
        refine L.no rfl ?_
        refine L.no rfl ?_
        refine L.no rfl ?_
        refine L.no rfl ?_
        refine L.va rfl (X.pickT rfl (by conv => lhs; whnf)) ?_
        refine L.nil ?_
        refine J.iteT rfl ?_
        refine J.seq ?_
        refine J.region ?_
        refine L.va rfl (X.assign (by conv => lhs; whnf)) ?_
        refine L.nil ?_
        refine J.ret ?_
        refine thn_ret <| ?_
        refine fin1 ?_
        exact ⟨rfl, he1⟩
      · refine L.va rfl (X.fieldAddr rfl Try.underlying49 rfl sz_46 (by decide)) ?_
        refine L.va rfl (X.load rfl sc_46 (by first | exact Ld.blk hk1 rfl)) ?_
        refine L.va rfl (X.len rfl Try.underlying46) ?_
        refine L.va rfl (X.gtr rfl rfl) ?_
        refine L.va rfl (X.pickF rfl (by conv => lhs; whnf)) ?_
        refine L.va rfl (X.move (by conv => lhs; whnf)) ?_
        refine L.caseDec (k := 32) rfl (fun a4 => ?_) (fun a4 => ?_)
        · rw [t3 (by omega)]
          refine L.no rfl ?_
          refine L.no rfl ?_
          refine L.no rfl ?_
          refine L.no rfl ?_
          refine L.va rfl (X.pickT rfl (by conv => lhs; whnf)) ?_
          refine L.nil ?_
          refine J.iteT rfl ?_
          refine J.seq ?_
          refine J.region ?_
          refine L.va rfl (X.assign (by conv => lhs; whnf)) ?_
          refine L.nil ?_
          refine J.ret ?_
          refine thn_ret <| ?_
          refine fin1 ?_
          exact ⟨rfl, he1⟩
        · refine L.va rfl (X.fieldAddr rfl Try.underlying49 rfl sz_47 (by decide)) ?_
          refine L.va rfl (X.load rfl sc_47 (by first | exact Ld.blk hk1 rfl)) ?_
          refine L.va rfl (X.len rfl Try.underlying47) ?_
          refine L.va rfl (X.gtr rfl rfl) ?_
          refine L.va rfl (X.pickF rfl (by conv => lhs; whnf)) ?_
          refine L.nil ?_
          refine J.dec rfl (fun a5 => ?_) (fun a5 => ?_)
          · rw [t3 (by omega)]
            refine J.seq ?_
            refine J.region ?_
            refine L.va rfl (X.assign (by conv => lhs; whnf)) ?_
            refine L.nil ?_
            refine J.ret ?_
            refine thn_ret <| ?_
            refine fin1 ?_
            exact ⟨rfl, he1⟩
          · have hlen : 1 ≤ nd ∧ nd ≤ 6 ∧ n1 ≤ 3 ∧ n2 ≤ 2 ∧ nv ≤ 15 := by omega
            have t8 := @chk_8 nd n1 n2 nv ds s1 s2 zs hlen
            have t9 := @chk_9 nd n1 n2 nv ds s1 s2 zs hlen
            have t2 := @chk_2 nd n1 n2 nv ds s1 s2 zs hlen
            have t6 := @chk_6 nd n1 n2 nv ds s1 s2 zs hlen
            have t0 := @chk_0 nd n1 n2 nv ds s1 s2 zs hlen
            refine J.skip ?_
            refine J.seq ?_
            refine J.region ?_
            refine L.va rfl ((by first | exact X.loadAgg rfl (range_l hk1) Try.underlying49 rfl (by kernel_rfl) | exact X.loadAgg rfl (range_blk hk1) Try.underlying49 rfl (by kernel_rfl))) ?_
            refine L.call rfl en_85 rfl (rnames_any Ad nd cd A1 n1 c1 A2 n2 c2 Av nv cv ds s1 s2 _ ((hd.ext he1).here (by decide)) ((h1.ext he1).here (by decide)) ((h2.ext he1).here (by decide)) (by omega) (by omega) (by omega)) ?_
            rintro e w2 ⟨A, c, rfl, ho, he2⟩
            refine ⟨_, rfl, ?_⟩
            have he2 : Ext w1 w2 := he2
            refine L.va rfl (X.assign (by conv => lhs; whnf)) ?_
            refine L.nil ?_
            refine J.seq ?_
            refine J.seq ?_
            refine J.region ?_
            refine L.va rfl (X.assign (by conv => lhs; whnf)) ?_
            refine L.nil ?_
            refine J.block ?_
            refine J.loop (X := Nat) [2, 4, 40, 41, 42, 43, 44, 45, 46, 47, 48, 49, 50, 51] (fun i => [(4, .int .i64 (i : Int))]) (fun i w' => i ≤ nd + n1 + n2 ∧ nmB (nmL ds s1 s2) i = true ∧ Ext w2 w') (fun i => nd + n1 + n2 - i) (0) (At1 (by first | rfl | exact at_int rfl (by omega) | exact at_slice rfl (by omega) | exact at_int rfl (by simp))) ?_ ?_
            · exact ⟨by omega, rfl, Ext.refl _⟩
            · rintro i g w3 ⟨hi, hB, he3⟩
              have ho3 := ho.ext he3
              have hk3 := (hk1.ext he2).ext he3
              refine J.seq ?_
              refine J.seq ?_
              refine J.region ?_
              refine L.va rfl (X.move (by conv => lhs; whnf)) ?_
              refine L.va rfl (X.move (by conv => lhs; whnf)) ?_
              refine L.va rfl (X.len rfl Try.underlying46) ?_
              refine L.va rfl (X.lss rfl rfl) ?_
              refine L.nil ?_
              refine J.dec rfl (fun hlt => ?_) (fun hlt => ?_)
              · refine J.skip ?_
                refine J.seq ?_
                refine J.block ?_
                refine J.seq ?_
                refine J.region ?_
                refine L.va rfl (X.move (by conv => lhs; whnf)) ?_
                refine L.va rfl (X.move (by conv => lhs; whnf)) ?_
                refine L.va rfl ((by first | exact X.index1n rfl rfl Try.underlying46 sz_9 (by first | exact Option.some_ne_none _ | exact own_ne ho3 (by omega)) (by omega) | exact X.index1 rfl rfl Try.underlying46 sz_9 (by first | exact Option.some_ne_none _ | exact own_ne ho3 (by omega)) (by omega))) ?_
                refine L.va rfl (X.load rfl sc_9 (by first | exact Ld.ostr ho3 (by omega) | exact Ld.blk hk3 rfl)) ?_
                refine L.call rfl en_177 rfl (ris_any _ _) ?_
                rintro e w4 ⟨rfl, he4⟩
                refine ⟨_, rfl, ?_⟩
                have he4 : Ext w3 w4 := he4
                cases hs : isS ((nmL ds s1 s2).getD i be0)
                · have hE := mono_f (nmB_s (nmL ds s1 s2)) (by omega : i + 1 ≤ nd + n1 + n2) (nmB_no hs)
                  rw [t8 hE]
                  refine L.va rfl (X.not rfl) ?_
                  refine L.nil ?_
                  refine J.iteT rfl ?_
                  refine J.seq ?_
                  refine J.region ?_
                  refine L.va rfl (X.assign (by conv => lhs; whnf)) ?_
                  refine L.nil ?_
                  refine J.ret ?_
                  refine inB_ret <|  thn_ret <|  thn_ret <|  inB_ret <|  thn_ret <| ?_
                  refine fin1 ?_
                  exact ⟨rfl, ((he1.trans he2).trans he3).trans he4⟩
                · refine L.va rfl (X.not rfl) ?_
                  refine L.nil ?_
                  refine J.iteF rfl ?_
                  refine J.skip ?_
                  refine J.region ?_
                  refine L.va rfl (X.move (by conv => lhs; whnf)) ?_
                  refine L.va rfl (X.add rfl rfl (by omega)) ?_
                  refine L.va rfl (X.assign (by conv => lhs; whnf)) ?_
                  refine L.nil ?_
                  refine ⟨i + 1, At1 (by first | rfl | exact at_int rfl (by omega) | exact at_slice rfl (by omega) | exact at_int rfl (by simp)), (by (iterate 13 refine Agr.lk rfl ?_); exact Agr.lk rfl (Agr.hav rfl Agr.rfl')), ?_⟩
                  exact ⟨⟨by omega, nmB_mk hB hs, he3.trans he4⟩, by omega⟩
              · obtain rfl : i = nd + n1 + n2 := by omega
                refine J.exit ?_
                refine J.seq ?_
                refine J.seq ?_
                refine J.region ?_
                refine L.va rfl (X.move (by conv => lhs; whnf)) ?_
                refine L.call rfl en_178 rfl (rtwice_any _ _ _ _ _ ((own_reads ho3).here (by decide)) (by exact (own_bd ho).1) (by omega)) ?_
                rintro e w4 ⟨rfl, he4⟩
                refine ⟨_, rfl, ?_⟩
                have he4 : Ext w3 w4 := he4
                have he14 := (he2.trans he3).trans he4
                have hk4 := hk1.ext he14
                have hd4 := (hd.ext he1).ext he14
                have hv4 := (hv.ext he1).ext he14
                have he04 := he1.trans he14
                refine L.va rfl (X.geq rfl rfl) ?_
                refine L.nil ?_
                refine J.dec rfl (fun h9 => ?_) (fun h9 => ?_)
                · rw [t9 hB h9]
                  refine J.seq ?_
                  refine J.region ?_
                  refine L.va rfl (X.assign (by conv => lhs; whnf)) ?_
                  refine L.nil ?_
                  refine J.ret ?_
                  refine thn_ret <| ?_
                  refine fin1 ?_
                  exact ⟨rfl, he04⟩
                · refine J.skip ?_
                  refine J.seq ?_
                  refine J.region ?_
                  refine L.va rfl (X.assign (by conv => lhs; whnf)) ?_
                  refine L.nil ?_
                  refine J.seq ?_
                  refine J.seq ?_
                  refine J.region ?_
                  refine L.va rfl (X.assign (by conv => lhs; whnf)) ?_
                  refine L.nil ?_
                  refine J.block ?_
                  refine J.loop (X := Nat × Int) [2, 5, 6, 7, 55, 56, 57, 58, 59, 60, 61, 62, 63, 64, 65, 66, 67, 68, 69, 70, 71, 72, 73, 74, 75, 76, 77, 78] (fun x => [(6, .int .i64 (x.1 : Int)), (5, .int .i64 x.2)]) (fun x w' => w' = w4 ∧ x.1 ≤ nd ∧ x.2 = kyA ds x.1 ∧ szB ds x.1 = true) (fun x => nd - x.1) ((0, 1)) (At2 (by first | rfl | exact at_int rfl (by omega) | exact at_slice rfl (by omega) | exact at_int rfl (by simp)) (by first | rfl | exact at_int rfl (by omega) | exact at_slice rfl (by omega) | exact at_int rfl (by simp))) ?_ ?_
                  · exact ⟨rfl, by dsimp only; omega, rfl, rfl⟩
                  · rintro ⟨i, z⟩ g w5 ⟨rfl, hi, hz, hS⟩
                    dsimp only at hi hz hS
                    have q1 : ((i, z) : Nat × Int).1 = i := rfl
                    have q2 : ((i, z) : Nat × Int).2 = z := rfl
                    have hzb := kyA_bd hS
                    rw [← hz] at hzb
                    refine J.seq ?_
                    refine J.seq ?_
                    refine J.region ?_
                    refine L.va rfl (X.move (by conv => lhs; whnf)) ?_
                    refine L.va rfl (X.fieldAddr rfl Try.underlying49 rfl sz_45 (by decide)) ?_
                    refine L.va rfl (X.load rfl sc_45 (by first | exact Ld.blk hk4 rfl | exact Ld.num hv4 (by omega) | exact Ld.rd hd4 (by omega))) ?_
                    refine L.va rfl (X.len rfl Try.underlying45) ?_
                    refine L.va rfl (X.lss rfl rfl) ?_
                    refine L.nil ?_
                    refine J.dec rfl (fun hlt2 => ?_) (fun hlt2 => ?_)
                    · have hil : i < nd := by dsimp only at hlt2; omega
                      have hnx := @ky_next ds i hS
                      have hno := @szB_no ds i
                      have hmf := fun h => t2 hB h9 (mono_f (szB_s ds) (by omega : i + 1 ≤ nd) h)
                      have hkn : kyA ds (i + 1) = z * (ds.getD i d0).2 := by rw [hz]; rfl
                      refine J.skip ?_
                      refine J.seq ?_
                      refine J.block ?_
                      refine J.seq ?_
                      refine J.region ?_
                      refine L.va rfl (X.fieldAddr rfl Try.underlying49 rfl sz_45 (by decide)) ?_
                      refine L.va rfl (X.load rfl sc_45 (by first | exact Ld.blk hk4 rfl | exact Ld.num hv4 (by omega) | exact Ld.rd hd4 (by omega))) ?_
                      refine L.va rfl (X.move (by conv => lhs; whnf)) ?_
                      refine L.va rfl ((by first | exact X.indexAddrn rfl rfl Try.underlying45 sz_128 (by first | exact Option.some_ne_none _ | exact hv4.some_ (by omega) | exact hd4.some_ (by omega)) (by omega) | exact X.indexAddr rfl rfl Try.underlying45 sz_128 (by first | exact Option.some_ne_none _ | exact hv4.some_ (by omega) | exact hd4.some_ (by omega)) (by omega))) ?_
                      refine L.va rfl (X.fieldP rfl Try.underlying128 rfl sz_3 (by decide) (by first | exact Option.some_ne_none _ | exact hv4.some_ (by omega) | exact hd4.some_ (by omega))) ?_
                      refine L.va rfl (X.load rfl sc_3 (Ld.dimN hd4 (by omega))) ?_
                      refine L.va rfl (X.assign (by conv => lhs; whnf)) ?_
                      refine L.nil ?_
                      refine J.seq ?_
                      refine J.seq ?_
                      refine J.region ?_
                      refine L.va rfl (X.move (by conv => lhs; whnf)) ?_
                      refine L.va rfl (X.lss rfl rfl) ?_
                      refine L.va rfl (X.move (by conv => lhs; whnf)) ?_
                      dsimp only
                      generalize hdv : (ds.getD i d0).2 = dv at *
                      refine L.caseDec (k := 70) rfl (fun b1 => ?_) (fun b1 => ?_)
                      · rw [hmf (hno (by omega))]
                        refine L.no rfl ?_
                        refine L.no rfl ?_
                        refine L.va rfl (X.pickT rfl (by conv => lhs; whnf)) ?_
                        refine L.nil ?_
                        refine J.iteT rfl ?_
                        refine J.seq ?_
                        refine J.region ?_
                        refine L.va rfl (X.assign (by conv => lhs; whnf)) ?_
                        refine L.nil ?_
                        refine J.ret ?_
                        refine thn_ret <|  inB_ret <|  thn_ret <|  thn_ret <|  inB_ret <|  thn_ret <| ?_
                        refine fin1 ?_
                        exact ⟨rfl, he04⟩
                      · refine L.va rfl (X.move (by conv => lhs; whnf)) ?_
                        refine L.va rfl (X.gtr rfl rfl) ?_
                        refine L.va rfl (X.pickF rfl (by conv => lhs; whnf)) ?_
                        refine L.nil ?_
                        refine J.dec rfl (fun b2 => ?_) (fun b2 => ?_)
                        · rw [hmf (hno (by omega))]
                          refine J.seq ?_
                          refine J.region ?_
                          refine L.va rfl (X.assign (by conv => lhs; whnf)) ?_
                          refine L.nil ?_
                          refine J.ret ?_
                          refine thn_ret <|  inB_ret <|  thn_ret <|  thn_ret <|  inB_ret <|  thn_ret <| ?_
                          refine fin1 ?_
                          exact ⟨rfl, he04⟩
                        · have hnx := hnx (by omega) (by omega)
                          rw [hkn] at hnx
                          have hnx' : 1 ≤ ((i, z) : Nat × Int).2 * dv ∧ ((i, z) : Nat × Int).2 * dv ≤ 1099511627776 * 4096 := hnx
                          have hq3 : ((i, z) : Nat × Int).2 * dv = z * dv := rfl
                          refine J.skip ?_
                          refine J.seq ?_
                          refine J.region ?_
                          refine L.va rfl (X.move (by conv => lhs; whnf)) ?_
                          refine L.va rfl (X.move (by conv => lhs; whnf)) ?_
                          refine L.va rfl (X.mul rfl rfl (by omega)) ?_
                          refine L.va rfl (X.assign (by conv => lhs; whnf)) ?_
                          refine L.nil ?_
                          refine J.seq ?_
                          refine J.region ?_
                          refine L.va rfl (X.move (by conv => lhs; whnf)) ?_
                          refine L.va rfl (X.gtr rfl rfl) ?_
                          refine L.nil ?_
                          refine J.dec rfl (fun b3 => ?_) (fun b3 => ?_)
                          · rw [hmf (hno (by omega))]
                            refine J.seq ?_
                            refine J.region ?_
                            refine L.va rfl (X.assign (by conv => lhs; whnf)) ?_
                            refine L.nil ?_
                            refine J.ret ?_
                            refine inB_ret <|  thn_ret <|  thn_ret <|  inB_ret <|  thn_ret <| ?_
                            refine fin1 ?_
                            exact ⟨rfl, he04⟩
                          · refine J.skip ?_
                            refine J.region ?_
                            refine L.va rfl (X.move (by conv => lhs; whnf)) ?_
                            refine L.va rfl (X.add rfl rfl (by omega)) ?_
                            refine L.va rfl (X.assign (by conv => lhs; whnf)) ?_
                            refine L.nil ?_
                            refine ⟨(i + 1, z * dv), At2 (by first | rfl | exact at_int rfl (by omega) | exact at_slice rfl (by omega) | exact at_int rfl (by simp)) (by first | rfl | exact at_int rfl (by omega) | exact at_slice rfl (by omega) | exact at_int rfl (by simp)), (by (iterate 28 refine Agr.lk rfl ?_); exact Agr.lk rfl (Agr.hav rfl Agr.rfl')), ?_⟩
                            exact ⟨⟨rfl, by dsimp only; omega, hkn.symm, szB_mk hS (by rw [hdv]; omega)⟩, by dsimp only; omega⟩
                    · obtain rfl : i = nd := by dsimp only at hlt2; omega
                      have hpw := pw6 hlen.2.1
                      refine J.exit ?_
                      refine J.seq ?_
                      refine J.region ?_
                      refine L.va rfl (X.fieldAddr rfl Try.underlying49 rfl sz_45 (by decide)) ?_
                      refine L.va rfl (X.load rfl sc_45 (by first | exact Ld.blk hk4 rfl | exact Ld.num hv4 (by omega) | exact Ld.rd hd4 (by omega))) ?_
                      refine L.va rfl (X.len rfl Try.underlying45) ?_
                      refine L.call rfl en_96 rfl (rtwo_any i _ (by omega)) ?_
                      rintro e _ ⟨rfl, rfl⟩
                      refine ⟨_, rfl, ?_⟩
                      generalize hF : ((2 ^ i - 1 : Nat) : Int) = F at *
                      have hsub : IntKind.u32.wrap (((2 ^ i : Nat) : Int) - 1) = F := by rw [w32 (by omega)]; omega
                      refine L.va rfl (X.subw rfl rfl) ?_
                      refine L.va rfl (X.assign (by conv => lhs; whnf)) ?_
                      refine L.nil ?_
                      refine J.seq ?_
                      refine J.seq ?_
                      refine J.region ?_
                      refine L.va rfl (X.assign (by conv => lhs; whnf)) ?_
                      refine L.nil ?_
                      refine J.block ?_
                      rw [hsub]
                      refine J.loop (X := Nat) [2, 9, 84, 85, 86, 87, 88, 89, 90, 91, 92, 93, 94, 95, 96, 97, 98, 99, 100, 101, 102, 103, 104, 105, 106, 107, 108, 109, 110, 111, 112, 113, 114, 115, 116, 117, 118, 119, 120, 121, 122, 123, 124, 125] (fun i => [(9, .int .i64 (i : Int))]) (fun i w' => Ext w5 w' ∧ i ≤ nv ∧ viB F zs i = true) (fun i => nv - i) (0) (At1 (by first | rfl | exact at_int rfl (by omega) | exact at_slice rfl (by omega) | exact at_int rfl (by simp))) ?_ ?_
                      · exact ⟨Ext.refl _, by omega, rfl⟩
                      · rintro j g w6 ⟨he6, hj, hV⟩
                        have hk6 := hk4.ext he6
                        have hv6 := hv4.ext he6
                        have he06 := he04.trans he6
                        refine J.seq ?_
                        refine J.seq ?_
                        refine J.region ?_
                        refine L.va rfl (X.move (by conv => lhs; whnf)) ?_
                        refine L.va rfl (X.fieldAddr rfl Try.underlying49 rfl sz_47 (by decide)) ?_
                        refine L.va rfl (X.load rfl sc_47 (by first | exact Ld.blk hk6 rfl | exact Ld.num hv6 (by omega))) ?_
                        refine L.va rfl (X.len rfl Try.underlying47) ?_
                        refine L.va rfl (X.lss rfl rfl) ?_
                        refine L.nil ?_
                        refine J.dec rfl (fun hlt3 => ?_) (fun hlt3 => ?_)
                        · have hno := @viB_no F zs j
                          have hmf := fun h => t6 hB h9 hS (mono_f (viB_s F zs) (by omega : j + 1 ≤ nv) h)
                          have hzj := hzs j
                          have hzj' := hzs (j - 1)
                          have hjp : zs.getD ((j : Int) - 1).toNat 0 = zs.getD (j - 1) 0 := by rw [show ((j : Int) - 1).toNat = j - 1 by omega]
                          refine J.skip ?_
                          refine J.seq ?_
                          refine J.block ?_
                          refine J.seq ?_
                          refine J.quiet mixed (by kernel_rfl) ?_
                          refine Qt.va rfl (fun w' hw => X.fieldAddr rfl Try.underlying49 rfl sz_47 (by decide)) ?_
                          refine Qt.va rfl (fun w' hw => X.load rfl sc_47 (by first | exact Ld.blk (hk6.ext hw) rfl | exact Ld.num (hv6.ext hw) (by omega))) ?_
                          refine Qt.va rfl (fun w' hw => X.move (by conv => lhs; whnf)) ?_
                          refine Qt.va rfl (fun w' hw => (by first | exact X.index1n rfl rfl Try.underlying47 sz_50 (by first | exact Option.some_ne_none _ | exact hv6.some_ (by omega)) (by omega) | exact X.index1 rfl rfl Try.underlying47 sz_50 (by first | exact Option.some_ne_none _ | exact hv6.some_ (by omega)) (by omega))) ?_
                          refine Qt.va rfl (fun w' hw => X.load rfl sc_50 (by first | exact Ld.blk (hk6.ext hw) rfl | exact Ld.num (hv6.ext hw) (by omega))) ?_
                          refine Qt.va rfl (fun w' hw => X.move (by conv => lhs; whnf)) ?_
                          refine Qt.call rfl en_98 rfl (fun w' hw => calls_same hw (rsub_full _ _ _ _ hzj hlen.2.1 hF)) ?_
                          refine Qt.va rfl (fun w' hw => X.not rfl) ?_
                          refine Qt.va rfl (fun w' hw => X.move (by conv => lhs; whnf)) ?_
                          refine Qt.caseB (k := 99) rfl (fun g1 => ?_) (fun g1 => ?_)
                          · have g1' : ¬ zs.getD j 0 ≤ F := nd_t g1
                            rw [hmf (hno (by omega))]
                            refine Qt.no rfl ?_
                            refine Qt.no rfl ?_
                            refine Qt.no rfl ?_
                            refine Qt.no rfl ?_
                            refine Qt.no rfl ?_
                            refine Qt.no rfl ?_
                            refine Qt.no rfl ?_
                            refine Qt.va rfl (fun w' hw => X.pickT rfl (by conv => lhs; whnf)) ?_
                            refine Qt.va rfl (fun w' hw => X.move (by conv => lhs; whnf)) ?_
                            refine Qt.no rfl ?_
                            refine Qt.no rfl ?_
                            refine Qt.no rfl ?_
                            refine Qt.no rfl ?_
                            refine Qt.no rfl ?_
                            refine Qt.no rfl ?_
                            refine Qt.no rfl ?_
                            refine Qt.no rfl ?_
                            refine Qt.no rfl ?_
                            refine Qt.no rfl ?_
                            refine Qt.no rfl ?_
                            refine Qt.no rfl ?_
                            refine Qt.no rfl ?_
                            refine Qt.no rfl ?_
                            refine Qt.no rfl ?_
                            refine Qt.no rfl ?_
                            refine Qt.va rfl (fun w' hw => X.pickT rfl (by conv => lhs; whnf)) ?_
                            refine Qt.nil (fun w7 hq => ?_)
                            replace hk6 := hk6.ext hq
                            replace hv6 := hv6.ext hq
                            refine J.iteT rfl ?_
                            refine J.seq ?_
                            refine J.region ?_
                            refine L.va rfl (X.assign (by conv => lhs; whnf)) ?_
                            refine L.nil ?_
                            refine J.ret ?_
                            refine inB_ret <|  thn_ret <|  thn_ret <|  inB_ret <|  thn_ret <| ?_
                            refine fin1 ?_
                            exact ⟨rfl, he06.trans hq⟩
                          · have g1' : zs.getD j 0 ≤ F := nd_f g1
                            refine Qt.va rfl (fun w' hw => X.fieldAddr rfl Try.underlying49 rfl sz_47 (by decide)) ?_
                            refine Qt.va rfl (fun w' hw => X.load rfl sc_47 (by first | exact Ld.blk (hk6.ext hw) rfl | exact Ld.num (hv6.ext hw) (by omega))) ?_
                            refine Qt.va rfl (fun w' hw => X.move (by conv => lhs; whnf)) ?_
                            refine Qt.va rfl (fun w' hw => (by first | exact X.index1n rfl rfl Try.underlying47 sz_50 (by first | exact Option.some_ne_none _ | exact hv6.some_ (by omega)) (by omega) | exact X.index1 rfl rfl Try.underlying47 sz_50 (by first | exact Option.some_ne_none _ | exact hv6.some_ (by omega)) (by omega))) ?_
                            refine Qt.va rfl (fun w' hw => X.load rfl sc_50 (by first | exact Ld.blk (hk6.ext hw) rfl | exact Ld.num (hv6.ext hw) (by omega))) ?_
                            refine Qt.va rfl (fun w' hw => X.move (by conv => lhs; whnf)) ?_
                            refine Qt.va rfl (fun w' hw => X.eql rfl rfl) ?_
                            refine Qt.va rfl (fun w' hw => X.pickF rfl (by conv => lhs; whnf)) ?_
                            refine Qt.va rfl (fun w' hw => X.move (by conv => lhs; whnf)) ?_
                            refine Qt.caseDec (k := 108) rfl (fun g2 => ?_) (fun g2 => ?_)
                            · rw [hmf (hno (by omega))]
                              refine Qt.no rfl ?_
                              refine Qt.no rfl ?_
                              refine Qt.no rfl ?_
                              refine Qt.no rfl ?_
                              refine Qt.no rfl ?_
                              refine Qt.no rfl ?_
                              refine Qt.no rfl ?_
                              refine Qt.no rfl ?_
                              refine Qt.no rfl ?_
                              refine Qt.no rfl ?_
                              refine Qt.no rfl ?_
                              refine Qt.no rfl ?_
                              refine Qt.no rfl ?_
                              refine Qt.no rfl ?_
                              refine Qt.no rfl ?_
                              refine Qt.no rfl ?_
                              refine Qt.va rfl (fun w' hw => X.pickT rfl (by conv => lhs; whnf)) ?_
                              refine Qt.nil (fun w7 hq => ?_)
                              replace hk6 := hk6.ext hq
                              replace hv6 := hv6.ext hq
                              refine J.iteT rfl ?_
                              refine J.seq ?_
                              refine J.region ?_
                              refine L.va rfl (X.assign (by conv => lhs; whnf)) ?_
                              refine L.nil ?_
                              refine J.ret ?_
                              refine inB_ret <|  thn_ret <|  thn_ret <|  inB_ret <|  thn_ret <| ?_
                              refine fin1 ?_
                              exact ⟨rfl, he06.trans hq⟩
                            · refine Qt.va rfl (fun w' hw => X.move (by conv => lhs; whnf)) ?_
                              refine Qt.va rfl (fun w' hw => X.gtr rfl rfl) ?_
                              refine Qt.va rfl (fun w' hw => X.move (by conv => lhs; whnf)) ?_
                              refine Qt.caseDec (k := 111) rfl (fun g3 => ?_) (fun g3 => ?_)
                              · refine Qt.va rfl (fun w' hw => X.fieldAddr rfl Try.underlying49 rfl sz_47 (by decide)) ?_
                                refine Qt.va rfl (fun w' hw => X.load rfl sc_47 (by first | exact Ld.blk (hk6.ext hw) rfl | exact Ld.num (hv6.ext hw) (by omega))) ?_
                                refine Qt.va rfl (fun w' hw => X.move (by conv => lhs; whnf)) ?_
                                refine Qt.va rfl (fun w' hw => (by first | exact X.index1n rfl rfl Try.underlying47 sz_50 (by first | exact Option.some_ne_none _ | exact hv6.some_ (by omega)) (by omega) | exact X.index1 rfl rfl Try.underlying47 sz_50 (by first | exact Option.some_ne_none _ | exact hv6.some_ (by omega)) (by omega))) ?_
                                refine Qt.va rfl (fun w' hw => X.load rfl sc_50 (by first | exact Ld.blk (hk6.ext hw) rfl | exact Ld.num (hv6.ext hw) (by omega))) ?_
                                refine Qt.va rfl (fun w' hw => X.fieldAddr rfl Try.underlying49 rfl sz_47 (by decide)) ?_
                                refine Qt.va rfl (fun w' hw => X.load rfl sc_47 (by first | exact Ld.blk (hk6.ext hw) rfl | exact Ld.num (hv6.ext hw) (by omega))) ?_
                                refine Qt.va rfl (fun w' hw => X.move (by conv => lhs; whnf)) ?_
                                refine Qt.va rfl (fun w' hw => X.sub rfl rfl (by omega)) ?_
                                refine Qt.va rfl (fun w' hw => (by first | exact X.index1n rfl rfl Try.underlying47 sz_50 (by first | exact Option.some_ne_none _ | exact hv6.some_ (by omega)) (by omega) | exact X.index1 rfl rfl Try.underlying47 sz_50 (by first | exact Option.some_ne_none _ | exact hv6.some_ (by omega)) (by omega))) ?_
                                refine Qt.va rfl (fun w' hw => X.load rfl sc_50 (by first | exact Ld.blk (hk6.ext hw) rfl | exact Ld.num (hv6.ext hw) (by omega))) ?_
                                refine Qt.va rfl (fun w' hw => X.leq rfl rfl) ?_
                                refine Qt.va rfl (fun w' hw => X.pickT rfl (by conv => lhs; whnf)) ?_
                                refine Qt.va rfl (fun w' hw => X.pickF rfl (by conv => lhs; whnf)) ?_
                                refine Qt.nil (fun w7 hq => ?_)
                                replace hk6 := hk6.ext hq
                                replace hv6 := hv6.ext hq
                                refine J.dec rfl (fun g4 => ?_) (fun g4 => ?_)
                                · rw [hmf (hno (by omega))]
                                  refine J.seq ?_
                                  refine J.region ?_
                                  refine L.va rfl (X.assign (by conv => lhs; whnf)) ?_
                                  refine L.nil ?_
                                  refine J.ret ?_
                                  refine inB_ret <|  thn_ret <|  thn_ret <|  inB_ret <|  thn_ret <| ?_
                                  refine fin1 ?_
                                  exact ⟨rfl, he06.trans hq⟩
                                · refine J.skip ?_
                                  refine J.region ?_
                                  refine L.va rfl (X.move (by conv => lhs; whnf)) ?_
                                  refine L.va rfl (X.add rfl rfl (by omega)) ?_
                                  refine L.va rfl (X.assign (by conv => lhs; whnf)) ?_
                                  refine L.nil ?_
                                  refine ⟨j + 1, At1 (by first | rfl | exact at_int rfl (by omega) | exact at_slice rfl (by omega) | exact at_int rfl (by simp)), (by (iterate 46 refine Agr.lk rfl ?_); exact Agr.lk rfl (Agr.hav rfl Agr.rfl')), ?_⟩
                                  exact ⟨⟨he6.trans hq, by omega, viB_mk hV (by omega)⟩, by omega⟩
                              · refine Qt.no rfl ?_
                                refine Qt.no rfl ?_
                                refine Qt.no rfl ?_
                                refine Qt.no rfl ?_
                                refine Qt.no rfl ?_
                                refine Qt.no rfl ?_
                                refine Qt.no rfl ?_
                                refine Qt.no rfl ?_
                                refine Qt.no rfl ?_
                                refine Qt.no rfl ?_
                                refine Qt.no rfl ?_
                                refine Qt.no rfl ?_
                                refine Qt.va rfl (fun w' hw => X.pickF rfl (by conv => lhs; whnf)) ?_
                                refine Qt.va rfl (fun w' hw => X.pickF rfl (by conv => lhs; whnf)) ?_
                                refine Qt.nil (fun w7 hq => ?_)
                                replace hk6 := hk6.ext hq
                                replace hv6 := hv6.ext hq
                                refine J.iteF rfl ?_
                                refine J.skip ?_
                                refine J.region ?_
                                refine L.va rfl (X.move (by conv => lhs; whnf)) ?_
                                refine L.va rfl (X.add rfl rfl (by omega)) ?_
                                refine L.va rfl (X.assign (by conv => lhs; whnf)) ?_
                                refine L.nil ?_
                                refine ⟨j + 1, At1 (by first | rfl | exact at_int rfl (by omega) | exact at_slice rfl (by omega) | exact at_int rfl (by simp)), (by (iterate 46 refine Agr.lk rfl ?_); exact Agr.lk rfl (Agr.hav rfl Agr.rfl')), ?_⟩
                                exact ⟨⟨he6.trans hq, by omega, viB_mk hV (by omega)⟩, by omega⟩
                        · obtain rfl : j = nv := by omega
                          rw [t0 hB h9 hS hV]
                          refine J.exit ?_
                          refine J.seq ?_
                          refine J.region ?_
                          refine L.va rfl (X.assign (by conv => lhs; whnf)) ?_
                          refine L.nil ?_
                          refine J.ret ?_
                          refine fin1 ?_
                          exact ⟨rfl, he06⟩
end Go.Proofs.Ytlipeplfjkgamaa
namespace Go.Proofs.Ytlipeplfjkgamaa
set_option maxRecDepth 100000
open Go.RowKit H
set_option linter.unusedVariables false
theorem nmB_sz {l : List ByteArray} (h : nmB l l.length = true) : ∀ s ∈ l, s.size ≤ maxLen := by
  intro s hs
  obtain ⟨i, hi, rfl⟩ := List.mem_iff_getElem.1 hs
  have h1 := nmB_at (mono_b (nmB_s l) (by omega : i + 1 ≤ l.length) h)
  have e : l.getD i be0 = l[i] := by simp [List.getD, hi]
  rw [e] at h1
  have h2 := (of_decide_eq_true h1).2.1
  unfold maxLen
  omega
theorem shl_full {nd : Nat} (h : nd ≤ 6) : IntKind.u32.wrap (1 * 2 ^ min ((nd : Int)).toNat IntKind.u32.bits) = ((2 ^ nd : Nat) : Int) := by
  have hb : IntKind.u32.bits = 32 := rfl
  have hp := pw6 h
  rw [hb, show min ((nd : Int)).toNat 32 = nd by omega, Int.one_mul]
  have e : ((2 : Int) ^ nd) = ((2 ^ nd : Nat) : Int) := by simp
  rw [e, w32 (by omega)]
theorem quo_gt {k d : Int} (hd : 0 < d) : 1099511627776 / d < k ↔ 1099511627776 < k * d := Int.ediv_lt_iff_lt_mul hd
theorem check_any (Ad : Option Addr) (nd cd : Nat) (A1 : Option Addr) (n1 c1 : Nat) (A2 : Option Addr) (n2 c2 : Nat) (Av : Option Addr) (nv cv : Nat) (ds : List (ByteArray × Int)) (s1 s2 : List ByteArray) (zs : List Int) (w : World)
    (hd : Reads w w.heap.size 2 Ad nd (dimsV ds)) (h1 : Reads w w.heap.size 1 A1 n1 (strs s1)) (h2 : Reads w w.heap.size 1 A2 n2 (strs s2)) (hv : Reads w w.heap.size 1 Av nv (nums .u32 zs)) (hzs : ∀ i, 0 ≤ zs.getD i 0 ∧ zs.getD i 0 < 4294967296) (hnv : nv ≤ maxLen) :
    Calls Try.prog 107 #[.agg #[.slice Ad nd cd, .slice A1 n1 c1, .slice A2 n2 c2, .slice Av nv cv]] w fun e w' => e = .returned (.int .i64 (chk nd n1 n2 nv ds s1 s2 zs)) ∧ Ext w w' := by
  have hl : ds.length = nd := by have := hd.1; rw [dimsV_length] at this; omega
  unfold maxLen at hnv
  have t3 := @chk_3 nd n1 n2 nv ds s1 s2 zs
  refine enter Try.func107 rfl (by kernel_rfl) ?_
  refine J.seq ?_
  refine J.region ?_
  refine L.boxA (l := [_, _, _, _]) rfl rfl ?_
  intro b1 w1 hb1 hs1 hk1 he1
  refine L.va rfl (X.assign (by conv => lhs; whnf)) ?_
  refine L.nil ?_
  refine J.seq ?_
  refine J.seq ?_
  refine J.region ?_
  refine L.va rfl (X.fieldAddr rfl Try.underlying49 rfl sz_45 (by decide)) ?_
  refine L.va rfl (X.load rfl sc_45 (by first | exact Ld.blk hk1 rfl)) ?_
  refine L.va rfl (X.len rfl Try.underlying45) ?_
  refine L.va rfl (X.eql rfl rfl) ?_
  refine L.va rfl (X.move (by conv => lhs; whnf)) ?_
  refine L.caseDec (k := 16) rfl (fun a1 => ?_) (fun a1 => ?_)
  · rw [t3 (by omega)]
    refine L.no rfl ?_
    refine L.no rfl ?_
    refine L.no rfl ?_
    refine L.no rfl ?_
    refine L.va rfl (X.pickT rfl (by conv => lhs; whnf)) ?_
    refine L.va rfl (X.move (by conv => lhs; whnf)) ?_
    refine L.no rfl ?_
    refine L.no rfl ?_
    refine L.no rfl ?_
    refine L.no rfl ?_
    refine L.va rfl (X.pickT rfl (by conv => lhs; whnf)) ?_
    refine L.va rfl (X.move (by conv => lhs; whnf)) ?_
    refine L.no rfl ?_
    refine L.no rfl ?_
    refine L.no rfl ?_
    refine L.no rfl ?_
    refine L.va rfl (X.pickT rfl (by conv => lhs; whnf)) ?_
    refine L.va rfl (X.move (by conv => lhs; whnf)) ?_
    refine L.no rfl ?_
    refine L.no rfl ?_
    refine L.no rfl ?_
    refine L.no rfl ?_
    refine L.va rfl (X.pickT rfl (by conv => lhs; whnf)) ?_
    refine L.nil ?_
    refine J.iteT rfl ?_
    refine J.seq ?_
    refine J.region ?_
    refine L.va rfl (X.assign (by conv => lhs; whnf)) ?_
    refine L.nil ?_
    refine J.ret ?_
    refine thn_ret <| ?_
    refine fin1 ?_
    exact ⟨rfl, he1⟩
  · refine L.va rfl (X.fieldAddr rfl Try.underlying49 rfl sz_45 (by decide)) ?_
    refine L.va rfl (X.load rfl sc_45 (by first | exact Ld.blk hk1 rfl)) ?_
    refine L.va rfl (X.len rfl Try.underlying45) ?_
    refine L.va rfl (X.gtr rfl rfl) ?_
    refine L.va rfl (X.pickF rfl (by conv => lhs; whnf)) ?_
    refine L.va rfl (X.move (by conv => lhs; whnf)) ?_
    refine L.caseDec (k := 22) rfl (fun a2 => ?_) (fun a2 => ?_)
    · rw [t3 (by omega)]
      refine L.no rfl ?_
      refine L.no rfl ?_
      refine L.no rfl ?_
      refine L.no rfl ?_
      refine L.va rfl (X.pickT rfl (by conv => lhs; whnf)) ?_
      refine L.va rfl (X.move (by conv => lhs; whnf)) ?_
      refine L.no rfl ?_
      refine L.no rfl ?_
      refine L.no rfl ?_
      refine L.no rfl ?_
      refine L.va rfl (X.pickT rfl (by conv => lhs; whnf)) ?_
      refine L.va rfl (X.move (by conv => lhs; whnf)) ?_
      refine L.no rfl ?_
      refine L.no rfl ?_
      refine L.no rfl ?_
      refine L.no rfl ?_
      refine L.va rfl (X.pickT rfl (by conv => lhs; whnf)) ?_
      refine L.nil ?_
      refine J.iteT rfl ?_
      refine J.seq ?_
      refine J.region ?_
      refine L.va rfl (X.assign (by conv => lhs; whnf)) ?_
      refine L.nil ?_
      refine J.ret ?_
      refine thn_ret <| ?_
      refine fin1 ?_
      exact ⟨rfl, he1⟩
    · refine L.va rfl (X.fieldAddr rfl Try.underlying49 rfl sz_46 (by decide)) ?_
      refine L.va rfl (X.load rfl sc_46 (by first | exact Ld.blk hk1 rfl)) ?_
      refine L.va rfl (X.len rfl Try.underlying46) ?_
      refine L.va rfl (X.gtr rfl rfl) ?_
      refine L.va rfl (X.pickF rfl (by conv => lhs; whnf)) ?_
      refine L.va rfl (X.move (by conv => lhs; whnf)) ?_
      refine L.caseDec (k := 28) rfl (fun a3 => ?_) (fun a3 => ?_)
      · rw [t3 (by omega)]
        refine L.no rfl ?_
        refine L.no rfl ?_
        refine L.no rfl ?_
        refine L.no rfl ?_
        refine L.va rfl (X.pickT rfl (by conv => lhs; whnf)) ?_
        refine L.va rfl (X.move (by conv => lhs; whnf)) ?_
        refine L.no rfl ?_
        refine L.no rfl ?_
        refine L.no rfl ?_
        refine L.no rfl ?_
        refine L.va rfl (X.pickT rfl (by conv => lhs; whnf)) ?_
        refine L.nil ?_
        refine J.iteT rfl ?_
        refine J.seq ?_
        refine J.region ?_
        refine L.va rfl (X.assign (by conv => lhs; whnf)) ?_
        refine L.nil ?_
        refine J.ret ?_
        refine thn_ret <| ?_
        refine fin1 ?_
        exact ⟨rfl, he1⟩
      · refine L.va rfl (X.fieldAddr rfl Try.underlying49 rfl sz_46 (by decide)) ?_
        refine L.va rfl (X.load rfl sc_46 (by first | exact Ld.blk hk1 rfl)) ?_
        refine L.va rfl (X.len rfl Try.underlying46) ?_
        refine L.va rfl (X.gtr rfl rfl) ?_
        refine L.va rfl (X.pickF rfl (by conv => lhs; whnf)) ?_
        refine L.va rfl (X.move (by conv => lhs; whnf)) ?_
        refine L.caseDec (k := 34) rfl (fun a4 => ?_) (fun a4 => ?_)
        · rw [t3 (by omega)]
          refine L.no rfl ?_
          refine L.no rfl ?_
          refine L.no rfl ?_
          refine L.no rfl ?_
          refine L.va rfl (X.pickT rfl (by conv => lhs; whnf)) ?_
          refine L.nil ?_
          refine J.iteT rfl ?_
          refine J.seq ?_
          refine J.region ?_
          refine L.va rfl (X.assign (by conv => lhs; whnf)) ?_
          refine L.nil ?_
          refine J.ret ?_
          refine thn_ret <| ?_
          refine fin1 ?_
          exact ⟨rfl, he1⟩
        · refine L.va rfl (X.fieldAddr rfl Try.underlying49 rfl sz_47 (by decide)) ?_
          refine L.va rfl (X.load rfl sc_47 (by first | exact Ld.blk hk1 rfl)) ?_
          refine L.va rfl (X.len rfl Try.underlying47) ?_
          refine L.va rfl (X.gtr rfl rfl) ?_
          refine L.va rfl (X.pickF rfl (by conv => lhs; whnf)) ?_
          refine L.nil ?_
          refine J.dec rfl (fun a5 => ?_) (fun a5 => ?_)
          · rw [t3 (by omega)]
            refine J.seq ?_
            refine J.region ?_
            refine L.va rfl (X.assign (by conv => lhs; whnf)) ?_
            refine L.nil ?_
            refine J.ret ?_
            refine thn_ret <| ?_
            refine fin1 ?_
            exact ⟨rfl, he1⟩
          · have hlen : 1 ≤ nd ∧ nd ≤ 6 ∧ n1 ≤ 3 ∧ n2 ≤ 2 ∧ nv ≤ 15 := by omega
            have t8 := @chk_8 nd n1 n2 nv ds s1 s2 zs hlen
            have t9 := @chk_9 nd n1 n2 nv ds s1 s2 zs hlen
            have t2 := @chk_2 nd n1 n2 nv ds s1 s2 zs hlen
            have t6 := @chk_6 nd n1 n2 nv ds s1 s2 zs hlen
            have t0 := @chk_0 nd n1 n2 nv ds s1 s2 zs hlen
            refine J.skip ?_
            refine J.seq ?_
            refine J.region ?_
            refine L.va rfl ((by first | exact X.loadAgg rfl (range_l hk1) Try.underlying49 rfl (by kernel_rfl) | exact X.loadAgg rfl (range_blk hk1) Try.underlying49 rfl (by kernel_rfl))) ?_
            refine L.call rfl en_180 rfl (sall_any Ad nd cd A1 n1 c1 A2 n2 c2 Av nv cv ds s1 s2 _ ((hd.ext he1).here (by decide)) ((h1.ext he1).here (by decide)) ((h2.ext he1).here (by decide)) (by omega) (by omega) (by omega)) ?_
            rintro e w2 ⟨A, c, rfl, ho, he2⟩
            refine ⟨_, rfl, ?_⟩
            have he2 : Ext w1 w2 := he2
            have hk2 := hk1.ext he2
            refine L.va rfl (X.assign (by conv => lhs; whnf)) ?_
            refine L.nil ?_
            refine J.seq ?_
            refine J.seq ?_
            refine J.region ?_
            refine L.va rfl (X.move (by conv => lhs; whnf)) ?_
            refine L.va rfl (X.len rfl Try.underlying46) ?_
            refine L.va rfl (X.move (by conv => lhs; whnf)) ?_
            refine L.nil ?_
            refine J.block ?_
            refine J.loop (X := Nat) [2, 5, 44, 45, 46, 47, 48, 49, 50, 51] (fun i => [(44, .int .i64 (i : Int))]) (fun i w' => i ≤ nd + n1 + n2 ∧ nmB (nmL ds s1 s2) i = true ∧ Ext w2 w') (fun i => nd + n1 + n2 - i) (0) (At1 (by first | rfl | exact at_int rfl (by omega) | exact at_slice rfl (by omega) | exact at_int rfl (by simp))) ?_ ?_
            · exact ⟨by omega, rfl, Ext.refl _⟩
            · rintro i g w3 ⟨hi, hB, he3⟩
              have ho3 := ho.ext he3
              have hk3 := (hk1.ext he2).ext he3
              refine J.seq ?_
              refine J.region ?_
              refine L.va rfl (X.lss rfl rfl) ?_
              refine L.nil ?_
              refine J.seq ?_
              refine J.dec rfl (fun hlt => ?_) (fun hlt => ?_)
              · refine J.skip ?_
                refine J.seq ?_
                refine J.block ?_
                refine J.seq ?_
                refine J.region ?_
                refine L.va rfl ((by first | exact X.index1n rfl rfl Try.underlying46 sz_9 (by first | exact Option.some_ne_none _ | exact own_ne ho3 (by omega)) (by omega) | exact X.index1 rfl rfl Try.underlying46 sz_9 (by first | exact Option.some_ne_none _ | exact own_ne ho3 (by omega)) (by omega))) ?_
                refine L.va rfl (X.load rfl sc_9 (by first | exact Ld.ostr ho3 (by omega) | exact Ld.blk hk3 rfl)) ?_
                refine L.va rfl (X.assign (by conv => lhs; whnf)) ?_
                refine L.nil ?_
                refine J.seq ?_
                refine J.region ?_
                refine L.va rfl (X.move (by conv => lhs; whnf)) ?_
                refine L.call rfl en_181 rfl (is_any _ _) ?_
                rintro e w4 ⟨rfl, he4⟩
                refine ⟨_, rfl, ?_⟩
                have he4 : Ext w3 w4 := he4
                cases hs : isS ((nmL ds s1 s2).getD i be0)
                · have hE := mono_f (nmB_s (nmL ds s1 s2)) (by omega : i + 1 ≤ nd + n1 + n2) (nmB_no hs)
                  rw [t8 hE]
                  refine L.va rfl (X.not rfl) ?_
                  refine L.nil ?_
                  refine J.iteT rfl ?_
                  refine J.seq ?_
                  refine J.region ?_
                  refine L.va rfl (X.assign (by conv => lhs; whnf)) ?_
                  refine L.nil ?_
                  refine J.ret ?_
                  refine inB_ret <|  thn_ret <|  thn_ret <|  inB_ret <|  thn_ret <| ?_
                  refine fin1 ?_
                  exact ⟨rfl, ((he1.trans he2).trans he3).trans he4⟩
                · refine L.va rfl (X.not rfl) ?_
                  refine L.nil ?_
                  refine J.iteF rfl ?_
                  refine J.skip ?_
                  refine J.region ?_
                  refine L.va rfl (X.add rfl rfl (by omega)) ?_
                  refine L.va rfl (X.move (by conv => lhs; whnf)) ?_
                  refine L.nil ?_
                  refine ⟨i + 1, At1 (by first | rfl | exact at_int rfl (by omega) | exact at_slice rfl (by omega) | exact at_int rfl (by simp)), (by (iterate 9 refine Agr.lk rfl ?_); exact Agr.lk rfl (Agr.hav rfl Agr.rfl')), ?_⟩
                  exact ⟨⟨by omega, nmB_mk hB hs, he3.trans he4⟩, by omega⟩
              · obtain rfl : i = nd + n1 + n2 := by omega
                refine J.exit ?_
                refine J.seq ?_
                refine J.seq ?_
                refine J.region ?_
                refine L.va rfl (X.move (by conv => lhs; whnf)) ?_
                have hll : (nmL ds s1 s2).length = nd + n1 + n2 := by have := (own_reads ho3).1; simpa [strs] using this
                have hBl := hB
                rw [← hll] at hBl
                refine L.call rfl en_182 rfl (twice_any _ _ _ _ _ ((own_reads ho3).here (by decide)) (by have := own_bd ho; omega) (nmB_sz hBl)) ?_
                rintro e w4 ⟨rfl, he4⟩
                refine ⟨_, rfl, ?_⟩
                have he4 : Ext w3 w4 := he4
                have he14 := (he2.trans he3).trans he4
                have hk4 := hk1.ext he14
                have hd4 := (hd.ext he1).ext he14
                have hv4 := (hv.ext he1).ext he14
                have he04 := he1.trans he14
                refine L.va rfl (X.geq rfl rfl) ?_
                refine L.nil ?_
                refine J.dec rfl (fun h9 => ?_) (fun h9 => ?_)
                · rw [t9 hB h9]
                  refine J.seq ?_
                  refine J.region ?_
                  refine L.va rfl (X.assign (by conv => lhs; whnf)) ?_
                  refine L.nil ?_
                  refine J.ret ?_
                  refine thn_ret <| ?_
                  refine fin1 ?_
                  exact ⟨rfl, he04⟩
                · refine J.skip ?_
                  refine J.seq ?_
                  refine J.region ?_
                  refine L.va rfl (X.assign (by conv => lhs; whnf)) ?_
                  refine L.nil ?_
                  refine J.seq ?_
                  refine J.seq ?_
                  refine J.region ?_
                  refine L.va rfl (X.fieldAddr rfl Try.underlying49 rfl sz_45 (by decide)) ?_
                  refine L.va rfl (X.load rfl sc_45 (by first | exact Ld.blk hk4 rfl | exact Ld.num hv4 (by omega) | exact Ld.rd hd4 (by omega))) ?_
                  refine L.va rfl (X.len rfl Try.underlying45) ?_
                  refine L.va rfl (X.move (by conv => lhs; whnf)) ?_
                  refine L.nil ?_
                  refine J.block ?_
                  refine J.loop (X := Nat × Int) [2, 6, 8, 58, 59, 60, 61, 62, 63, 64, 65, 66, 67, 68, 69, 70, 71, 72, 73, 74, 75, 76, 77, 78, 79, 80, 81] (fun x => [(58, .int .i64 (x.1 : Int)), (6, .int .i64 x.2)]) (fun x w' => Ext w4 w' ∧ x.1 ≤ nd ∧ x.2 = kyA ds x.1 ∧ szB ds x.1 = true) (fun x => nd - x.1) ((0, 1)) (At2 (by first | rfl | exact at_int rfl (by omega) | exact at_slice rfl (by omega) | exact at_int rfl (by simp)) (by first | rfl | exact at_int rfl (by omega) | exact at_slice rfl (by omega) | exact at_int rfl (by simp))) ?_ ?_
                  · exact ⟨Ext.refl _, by dsimp only; omega, rfl, rfl⟩
                  · rintro ⟨i, z⟩ g w5 ⟨he5, hi, hz, hS⟩
                    dsimp only at hi hz hS
                    have q1 : ((i, z) : Nat × Int).1 = i := rfl
                    have q2 : ((i, z) : Nat × Int).2 = z := rfl
                    have hzb := kyA_bd hS
                    rw [← hz] at hzb
                    have hk5 := hk4.ext he5
                    have hd5 := hd4.ext he5
                    have hv5 := hv4.ext he5
                    have he05 := he04.trans he5
                    refine J.seq ?_
                    refine J.region ?_
                    refine L.va rfl (X.lss rfl rfl) ?_
                    refine L.nil ?_
                    refine J.seq ?_
                    refine J.dec rfl (fun hlt2 => ?_) (fun hlt2 => ?_)
                    · have hil : i < nd := by dsimp only at hlt2; omega
                      have hnx := @ky_next ds i hS
                      have hno := @szB_no ds i
                      have hmf := fun h => t2 hB h9 (mono_f (szB_s ds) (by omega : i + 1 ≤ nd) h)
                      have hkn : kyA ds (i + 1) = z * (ds.getD i d0).2 := by rw [hz]; rfl
                      have hrow := dims_row (l := ds) (i := i) (by omega)
                      generalize hdv : (ds.getD i d0).2 = dv at *
                      refine J.skip ?_
                      refine J.seq ?_
                      refine J.block ?_
                      refine J.seq ?_
                      refine J.region ?_
                      refine L.va rfl ((by first | exact X.indexAddrn rfl rfl Try.underlying45 sz_128 (by first | exact Option.some_ne_none _ | exact hv5.some_ (by omega) | exact hd5.some_ (by omega)) (by omega) | exact X.indexAddr rfl rfl Try.underlying45 sz_128 (by first | exact Option.some_ne_none _ | exact hv5.some_ (by omega) | exact hd5.some_ (by omega)) (by omega))) ?_
                      refine L.va rfl (X.loadRow (cs := [.string (ds.getD i d0).1, .int .i64 dv]) rfl hd5 hrow (Nat.zero_lt_succ _) Try.underlying128 rfl (by kernel_rfl)) ?_
                      refine L.alloc rfl zr_128 ?_
                      intro b6 w6 hb6 hs6 hk6 he6
                      refine L.storeAgg (vs := [_, _]) rfl rfl rfl rfl sz_128 (hk6) rfl ?_
                      intro w7 hk7 hg7 hs7
                      have hz5 := he05.le
                      have he57 : Ext w5 w7 := he6.grw hg7 (by intro g hg; injection hg with hg; omega)
                      have he07 := he05.trans he57
                      have hk57 := hk5.ext he57
                      refine L.nil ?_
                      refine J.seq ?_
                      refine J.seq ?_
                      refine J.region ?_
                      refine L.va rfl (X.fieldAddr rfl Try.underlying128 rfl sz_3 (by decide)) ?_
                      refine L.va rfl (X.load rfl sc_3 (by first | exact Ld.blk hk7 rfl)) ?_
                      refine L.va rfl (X.lss rfl rfl) ?_
                      refine L.va rfl (X.move (by conv => lhs; whnf)) ?_
                      refine L.caseDec (k := 65) rfl (fun b1 => ?_) (fun b1 => ?_)
                      · rw [hmf (hno (by omega))]
                        refine L.no rfl ?_
                        refine L.no rfl ?_
                        refine L.no rfl ?_
                        refine L.va rfl (X.pickT rfl (by conv => lhs; whnf)) ?_
                        refine L.va rfl (X.move (by conv => lhs; whnf)) ?_
                        refine L.no rfl ?_
                        refine L.no rfl ?_
                        refine L.no rfl ?_
                        refine L.no rfl ?_
                        refine L.no rfl ?_
                        refine L.va rfl (X.pickT rfl (by conv => lhs; whnf)) ?_
                        refine L.nil ?_
                        refine J.iteT rfl ?_
                        refine J.seq ?_
                        refine J.region ?_
                        refine L.va rfl (X.assign (by conv => lhs; whnf)) ?_
                        refine L.nil ?_
                        refine J.ret ?_
                        refine thn_ret <|  inB_ret <|  thn_ret <|  thn_ret <|  inB_ret <|  thn_ret <| ?_
                        refine fin1 ?_
                        exact ⟨rfl, he07⟩
                      · refine L.va rfl (X.fieldAddr rfl Try.underlying128 rfl sz_3 (by decide)) ?_
                        refine L.va rfl (X.load rfl sc_3 (by first | exact Ld.blk hk7 rfl)) ?_
                        refine L.va rfl (X.gtr rfl rfl) ?_
                        refine L.va rfl (X.pickF rfl (by conv => lhs; whnf)) ?_
                        refine L.va rfl (X.move (by conv => lhs; whnf)) ?_
                        refine L.caseDec (k := 70) rfl (fun b2 => ?_) (fun b2 => ?_)
                        · rw [hmf (hno (by omega))]
                          refine L.no rfl ?_
                          refine L.no rfl ?_
                          refine L.no rfl ?_
                          refine L.no rfl ?_
                          refine L.no rfl ?_
                          refine L.va rfl (X.pickT rfl (by conv => lhs; whnf)) ?_
                          refine L.nil ?_
                          refine J.iteT rfl ?_
                          refine J.seq ?_
                          refine J.region ?_
                          refine L.va rfl (X.assign (by conv => lhs; whnf)) ?_
                          refine L.nil ?_
                          refine J.ret ?_
                          refine thn_ret <|  inB_ret <|  thn_ret <|  thn_ret <|  inB_ret <|  thn_ret <| ?_
                          refine fin1 ?_
                          exact ⟨rfl, he07⟩
                        · have hnx := hnx (by omega) (by omega)
                          rw [hkn] at hnx
                          have hnx' : 1 ≤ ((i, z) : Nat × Int).2 * dv ∧ ((i, z) : Nat × Int).2 * dv ≤ 1099511627776 * 4096 := hnx
                          have hq3 : ((i, z) : Nat × Int).2 * dv = z * dv := rfl
                          have hqg := @quo_gt z dv (by omega)
                          refine L.va rfl (X.move (by conv => lhs; whnf)) ?_
                          refine L.va rfl (X.fieldAddr rfl Try.underlying128 rfl sz_3 (by decide)) ?_
                          refine L.va rfl (X.load rfl sc_3 (by first | exact Ld.blk hk7 rfl)) ?_
                          refine L.va rfl (X.quo rfl rfl (by omega)) ?_
                          refine L.va rfl (X.gtr rfl rfl) ?_
                          refine L.va rfl (X.pickF rfl (by conv => lhs; whnf)) ?_
                          refine L.nil ?_
                          refine J.dec rfl (fun b3 => ?_) (fun b3 => ?_)
                          · have b3' : 1099511627776 / dv < z := b3
                            rw [hmf (hno (by omega))]
                            refine J.seq ?_
                            refine J.region ?_
                            refine L.va rfl (X.assign (by conv => lhs; whnf)) ?_
                            refine L.nil ?_
                            refine J.ret ?_
                            refine thn_ret <|  inB_ret <|  thn_ret <|  thn_ret <|  inB_ret <|  thn_ret <| ?_
                            refine fin1 ?_
                            exact ⟨rfl, he07⟩
                          · have b3' : ¬ 1099511627776 / dv < z := b3
                            refine J.skip ?_
                            refine J.region ?_
                            refine L.va rfl (X.move (by conv => lhs; whnf)) ?_
                            refine L.va rfl (X.fieldAddr rfl Try.underlying128 rfl sz_3 (by decide)) ?_
                            refine L.va rfl (X.load rfl sc_3 (by first | exact Ld.blk hk7 rfl)) ?_
                            refine L.va rfl (X.mul rfl rfl (by omega)) ?_
                            refine L.va rfl (X.assign (by conv => lhs; whnf)) ?_
                            refine L.nil ?_
                            refine J.region ?_
                            refine L.va rfl (X.add rfl rfl (by omega)) ?_
                            refine L.va rfl (X.move (by conv => lhs; whnf)) ?_
                            refine L.nil ?_
                            refine ⟨(i + 1, z * dv), At2 (by first | rfl | exact at_int rfl (by omega) | exact at_slice rfl (by omega) | exact at_int rfl (by simp)) (by first | rfl | exact at_int rfl (by omega) | exact at_slice rfl (by omega) | exact at_int rfl (by simp)), (by (iterate 28 refine Agr.lk rfl ?_); exact Agr.lk rfl (Agr.hav rfl Agr.rfl')), ?_⟩
                            exact ⟨⟨he5.trans he57, by dsimp only; omega, hkn.symm, szB_mk hS (by rw [hdv]; omega)⟩, by dsimp only; omega⟩
                    · obtain rfl : i = nd := by dsimp only at hlt2; omega
                      have hpw := pw6 hlen.2.1
                      have hsl := shl_full hlen.2.1
                      generalize hF : ((2 ^ i - 1 : Nat) : Int) = F at *
                      have hsub : IntKind.u32.wrap (((2 ^ i : Nat) : Int) - 1) = F := by rw [w32 (by omega)]; omega
                      refine J.exit ?_
                      refine J.seq ?_
                      refine J.region ?_
                      refine L.va rfl (X.fieldAddr rfl Try.underlying49 rfl sz_45 (by decide)) ?_
                      refine L.va rfl (X.load rfl sc_45 (by first | exact Ld.blk hk5 rfl | exact Ld.num hv5 (by omega) | exact Ld.rd hd5 (by omega))) ?_
                      refine L.va rfl (X.len rfl Try.underlying45) ?_
                      refine L.va rfl (X.shl rfl rfl (by omega)) ?_
                      refine L.va rfl (X.subw rfl rfl) ?_
                      refine L.va rfl (X.assign (by conv => lhs; whnf)) ?_
                      refine L.nil ?_
                      refine J.seq ?_
                      refine J.seq ?_
                      refine J.region ?_
                      refine L.va rfl (X.fieldAddr rfl Try.underlying49 rfl sz_47 (by decide)) ?_
                      refine L.va rfl (X.load rfl sc_47 (by first | exact Ld.blk hk5 rfl | exact Ld.num hv5 (by omega) | exact Ld.rd hd5 (by omega))) ?_
                      refine L.va rfl (X.len rfl Try.underlying47) ?_
                      refine L.va rfl (X.move (by conv => lhs; whnf)) ?_
                      refine L.nil ?_
                      refine J.block ?_
                      rw [hsl, hsub]
                      refine J.loop (X := Nat) [2, 10, 11, 90, 91, 92, 93, 94, 95, 96, 97, 98, 99, 100, 101, 102, 103, 104, 105, 106, 107, 108, 109, 110, 111, 112] (fun i => [(90, .int .i64 (i : Int))]) (fun i w' => w' = w5 ∧ i ≤ nv ∧ viB F zs i = true) (fun i => nv - i) (0) (At1 (by first | rfl | exact at_int rfl (by omega) | exact at_slice rfl (by omega) | exact at_int rfl (by simp))) ?_ ?_
                      · exact ⟨rfl, by omega, rfl⟩
                      · rintro j g w6 ⟨rfl, hj, hV⟩
                        refine J.seq ?_
                        refine J.region ?_
                        refine L.va rfl (X.lss rfl rfl) ?_
                        refine L.nil ?_
                        refine J.seq ?_
                        refine J.dec rfl (fun hlt3 => ?_) (fun hlt3 => ?_)
                        · have hno := @viB_no F zs j
                          have hmf := fun h => t6 hB h9 hS (mono_f (viB_s F zs) (by omega : j + 1 ≤ nv) h)
                          have hzj := hzs j
                          have hzj' := hzs (j - 1)
                          have hjp : zs.getD ((j : Int) - 1).toNat 0 = zs.getD (j - 1) 0 := by rw [show ((j : Int) - 1).toNat = j - 1 by omega]
                          refine J.skip ?_
                          refine J.seq ?_
                          refine J.block ?_
                          refine J.seq ?_
                          refine J.region ?_
                          refine L.va rfl (X.move (by conv => lhs; whnf)) ?_
                          refine L.va rfl ((by first | exact X.index1n rfl rfl Try.underlying47 sz_50 (by first | exact Option.some_ne_none _ | exact hv5.some_ (by omega) | exact hd5.some_ (by omega)) (by omega) | exact X.index1 rfl rfl Try.underlying47 sz_50 (by first | exact Option.some_ne_none _ | exact hv5.some_ (by omega) | exact hd5.some_ (by omega)) (by omega))) ?_
                          refine L.va rfl (X.load rfl sc_50 (by first | exact Ld.blk hk5 rfl | exact Ld.num hv5 (by omega) | exact Ld.rd hd5 (by omega))) ?_
                          refine L.va rfl (X.assign (by conv => lhs; whnf)) ?_
                          refine L.va rfl (X.assign (by conv => lhs; whnf)) ?_
                          refine L.nil ?_
                          refine J.seq ?_
                          refine J.region ?_
                          refine L.va rfl (X.move (by conv => lhs; whnf)) ?_
                          refine L.va rfl (X.move (by conv => lhs; whnf)) ?_
                          refine L.va rfl (X.geq rfl rfl) ?_
                          refine L.va rfl (X.move (by conv => lhs; whnf)) ?_
                          refine L.caseDec (k := 98) rfl (fun g1 => ?_) (fun g1 => ?_)
                          · rw [hmf (hno (by omega))]
                            refine L.no rfl ?_
                            refine L.no rfl ?_
                            refine L.no rfl ?_
                            refine L.no rfl ?_
                            refine L.no rfl ?_
                            refine L.no rfl ?_
                            refine L.no rfl ?_
                            refine L.no rfl ?_
                            refine L.no rfl ?_
                            refine L.no rfl ?_
                            refine L.no rfl ?_
                            refine L.no rfl ?_
                            refine L.va rfl (X.pickT rfl (by conv => lhs; whnf)) ?_
                            refine L.nil ?_
                            refine J.iteT rfl ?_
                            refine J.seq ?_
                            refine J.region ?_
                            refine L.va rfl (X.assign (by conv => lhs; whnf)) ?_
                            refine L.nil ?_
                            refine J.ret ?_
                            refine inB_ret <|  thn_ret <|  thn_ret <|  inB_ret <|  thn_ret <| ?_
                            refine fin1 ?_
                            exact ⟨rfl, he05⟩
                          · refine L.va rfl (X.move (by conv => lhs; whnf)) ?_
                            refine L.va rfl (X.gtr rfl rfl) ?_
                            refine L.va rfl (X.move (by conv => lhs; whnf)) ?_
                            refine L.caseDec (k := 101) rfl (fun g3 => ?_) (fun g3 => ?_)
                            · refine L.va rfl (X.move (by conv => lhs; whnf)) ?_
                              refine L.va rfl (X.fieldAddr rfl Try.underlying49 rfl sz_47 (by decide)) ?_
                              refine L.va rfl (X.load rfl sc_47 (by first | exact Ld.blk hk5 rfl | exact Ld.num hv5 (by omega) | exact Ld.rd hd5 (by omega))) ?_
                              refine L.va rfl (X.move (by conv => lhs; whnf)) ?_
                              refine L.va rfl (X.sub rfl rfl (by omega)) ?_
                              refine L.va rfl ((by first | exact X.index1n rfl rfl Try.underlying47 sz_50 (by first | exact Option.some_ne_none _ | exact hv5.some_ (by omega) | exact hd5.some_ (by omega)) (by omega) | exact X.index1 rfl rfl Try.underlying47 sz_50 (by first | exact Option.some_ne_none _ | exact hv5.some_ (by omega) | exact hd5.some_ (by omega)) (by omega))) ?_
                              refine L.va rfl (X.load rfl sc_50 (by first | exact Ld.blk hk5 rfl | exact Ld.num hv5 (by omega) | exact Ld.rd hd5 (by omega))) ?_
                              refine L.va rfl (X.leq rfl rfl) ?_
                              refine L.va rfl (X.pickT rfl (by conv => lhs; whnf)) ?_
                              refine L.va rfl (X.pickF rfl (by conv => lhs; whnf)) ?_
                              refine L.nil ?_
                              refine J.dec rfl (fun g4 => ?_) (fun g4 => ?_)
                              · rw [hmf (hno (by omega))]
                                refine J.seq ?_
                                refine J.region ?_
                                refine L.va rfl (X.assign (by conv => lhs; whnf)) ?_
                                refine L.nil ?_
                                refine J.ret ?_
                                refine inB_ret <|  thn_ret <|  thn_ret <|  inB_ret <|  thn_ret <| ?_
                                refine fin1 ?_
                                exact ⟨rfl, he05⟩
                              · refine J.skip ?_
                                refine J.region ?_
                                refine L.va rfl (X.add rfl rfl (by omega)) ?_
                                refine L.va rfl (X.move (by conv => lhs; whnf)) ?_
                                refine L.nil ?_
                                refine ⟨j + 1, At1 (by first | rfl | exact at_int rfl (by omega) | exact at_slice rfl (by omega) | exact at_int rfl (by simp)), (by (iterate 27 refine Agr.lk rfl ?_); exact Agr.lk rfl (Agr.hav rfl Agr.rfl')), ?_⟩
                                exact ⟨⟨rfl, by omega, viB_mk hV (by omega)⟩, by omega⟩
                            · refine L.no rfl ?_
                              refine L.no rfl ?_
                              refine L.no rfl ?_
                              refine L.no rfl ?_
                              refine L.no rfl ?_
                              refine L.no rfl ?_
                              refine L.no rfl ?_
                              refine L.no rfl ?_
                              refine L.va rfl (X.pickF rfl (by conv => lhs; whnf)) ?_
                              refine L.va rfl (X.pickF rfl (by conv => lhs; whnf)) ?_
                              refine L.nil ?_
                              refine J.iteF rfl ?_
                              refine J.skip ?_
                              refine J.region ?_
                              refine L.va rfl (X.add rfl rfl (by omega)) ?_
                              refine L.va rfl (X.move (by conv => lhs; whnf)) ?_
                              refine L.nil ?_
                              refine ⟨j + 1, At1 (by first | rfl | exact at_int rfl (by omega) | exact at_slice rfl (by omega) | exact at_int rfl (by simp)), (by (iterate 27 refine Agr.lk rfl ?_); exact Agr.lk rfl (Agr.hav rfl Agr.rfl')), ?_⟩
                              exact ⟨⟨rfl, by omega, viB_mk hV (by omega)⟩, by omega⟩
                        · obtain rfl : j = nv := by omega
                          rw [t0 hB h9 hS hV]
                          refine J.exit ?_
                          refine J.seq ?_
                          refine J.region ?_
                          refine L.va rfl (X.assign (by conv => lhs; whnf)) ?_
                          refine L.nil ?_
                          refine J.ret ?_
                          refine fin1 ?_
                          exact ⟨rfl, he05⟩
end Go.Proofs.Ytlipeplfjkgamaa
namespace Go.Proofs.Ytlipeplfjkgamaa
set_option maxRecDepth 100000
open Go.RowKit H
set_option linter.unusedVariables false
structure Sch where
  (Ad : Option Addr) (nd cd : Nat) (A1 : Option Addr) (n1 c1 : Nat) (A2 : Option Addr) (n2 c2 : Nat) (Av : Option Addr) (nv cv : Nat) (ds : List (ByteArray × Int)) (s1 s2 : List ByteArray) (zs : List Int)
namespace Sch
abbrev val (s : Sch) : Value := .agg #[.slice s.Ad s.nd s.cd, .slice s.A1 s.n1 s.c1, .slice s.A2 s.n2 s.c2, .slice s.Av s.nv s.cv]
def code (s : Sch) : Int := chk s.nd s.n1 s.n2 s.nv s.ds s.s1 s.s2 s.zs
def F (s : Sch) : Int := ((2 ^ s.nd - 1 : Nat) : Int)
structure Here (s : Sch) (w : World) : Prop where
  hd : Reads w w.heap.size 2 s.Ad s.nd (dimsV s.ds)
  h1 : Reads w w.heap.size 1 s.A1 s.n1 (strs s.s1)
  h2 : Reads w w.heap.size 1 s.A2 s.n2 (strs s.s2)
  hv : Reads w w.heap.size 1 s.Av s.nv (nums .u32 s.zs)
  hzs : ∀ i, 0 ≤ s.zs.getD i 0 ∧ s.zs.getD i 0 < 4294967296
  hle : s.nd ≤ 100 ∧ s.n1 ≤ 100 ∧ s.n2 ≤ 100 ∧ s.nv ≤ 100
theorem Here.ext {s : Sch} {w w' : World} (h : s.Here w) (he : Ext w w') : s.Here w' :=
  ⟨(h.hd.ext he).here (by decide), (h.h1.ext he).here (by decide), (h.h2.ext he).here (by decide), (h.hv.ext he).here (by decide), h.hzs, h.hle⟩
theorem Here.len {s : Sch} {w : World} (h : s.Here w) : s.ds.length = s.nd := by have := h.hd.1; rw [dimsV_length] at this; omega
theorem Here.check {s : Sch} {w : World} (h : s.Here w) : Calls Try.prog 107 #[s.val] w fun e w' => e = .returned (.int .i64 s.code) ∧ Ext w w' :=
  check_any _ _ _ _ _ _ _ _ _ _ _ _ _ _ _ _ w h.hd h.h1 h.h2 h.hv h.hzs (by have := h.hle; unfold maxLen; omega)
theorem Here.rcheck {s : Sch} {w : World} (h : s.Here w) : Calls Try.prog 97 #[s.val] w fun e w' => e = .returned (.int .i64 s.code) ∧ Ext w w' :=
  rcheck_any _ _ _ _ _ _ _ _ _ _ _ _ _ _ _ _ w h.hd h.h1 h.h2 h.hv h.hzs (by have := h.hle; unfold maxLen; omega)
theorem good {s : Sch} (h : s.code = 0) : (1 ≤ s.nd ∧ s.nd ≤ 6 ∧ s.n1 ≤ 3 ∧ s.n2 ≤ 2 ∧ s.nv ≤ 15) ∧ szB s.ds s.nd = true := ⟨(chk_ok h).1, (chk_ok h).2.1⟩
theorem F_bd {s : Sch} (h : s.code = 0) : 1 ≤ s.F ∧ s.F ≤ 63 := by
  have g := (good h).1
  have hp := pw6 g.2.1
  have h2 : 2 ^ 1 ≤ 2 ^ s.nd := Nat.pow_le_pow_right (by decide) g.1
  unfold F
  omega
theorem Here.rfull {s : Sch} {w : World} (h : s.Here w) (hc : s.code = 0) : Calls Try.prog 51 #[s.val] w fun e w' => e = .returned (.int .u32 s.F) ∧ Ext w w' :=
  rfull_any _ _ _ _ _ _ w (by have := (good hc).1; omega)
theorem Here.full_ok {s : Sch} {w : World} (h : s.Here w) (hc : s.code = 0) : Calls Try.prog 90 #[s.val] w fun e w' => e = .returned (.int .u32 s.F) ∧ Ext w w' := by
  have g := (good hc).1
  have hp := pw6 g.2.1
  have hsl := shl_full g.2.1
  have hF : s.F = ((2 ^ s.nd - 1 : Nat) : Int) := rfl
  have hsub : IntKind.u32.wrap (((2 ^ s.nd : Nat) : Int) - 1) = s.F := by rw [w32 (by omega), hF]; omega
  refine enter Try.func90 rfl (by kernel_rfl) ?_
  refine J.seq ?_
  refine J.region ?_
  refine L.boxA (l := [_, _, _, _]) rfl rfl ?_
  intro b1 w1 hb1 hs1 hk1 he1
  refine L.va rfl (X.assign (by conv => lhs; whnf)) ?_
  refine L.nil ?_
  refine J.seq ?_
  refine J.seq ?_
  refine J.region ?_
  refine L.va rfl ((by first | exact X.loadAgg rfl (range_l hk1) Try.underlying49 rfl (by kernel_rfl) | exact X.loadAgg rfl (range_blk hk1) Try.underlying49 rfl (by kernel_rfl))) ?_
  refine L.call rfl en_107 rfl ((h.ext he1).check) ?_
  rintro e w2 ⟨rfl, he2⟩
  refine ⟨_, rfl, ?_⟩
  have he2 : Ext w1 w2 := he2
  replace hk1 := hk1.ext he2
  refine L.va rfl (X.neq rfl rfl) ?_
  refine L.nil ?_
  rw [hc]
  refine J.iteF rfl ?_
  refine J.skip ?_
  refine J.seq ?_
  refine J.region ?_
  refine L.va rfl (X.fieldAddr rfl Try.underlying49 rfl sz_45 (by decide)) ?_
  refine L.va rfl (X.load rfl sc_45 (by first | exact Ld.blk hk1 rfl)) ?_
  refine L.va rfl (X.len rfl Try.underlying45) ?_
  refine L.va rfl (X.shl rfl rfl (by omega)) ?_
  refine L.va rfl (X.subw rfl rfl) ?_
  refine L.va rfl (X.assign (by conv => lhs; whnf)) ?_
  refine L.nil ?_
  refine J.ret ?_
  refine fin1 ?_
  rw [hsl, hsub]
  exact ⟨rfl, he1.trans he2⟩
theorem Here.full_no {s : Sch} {w : World} (h : s.Here w) (hc : s.code ≠ 0) : Calls Try.prog 90 #[s.val] w fun e w' => e = .returned (.int .u32 0) ∧ Ext w w' := by
  refine enter Try.func90 rfl (by kernel_rfl) ?_
  refine J.seq ?_
  refine J.region ?_
  refine L.boxA (l := [_, _, _, _]) rfl rfl ?_
  intro b1 w1 hb1 hs1 hk1 he1
  refine L.va rfl (X.assign (by conv => lhs; whnf)) ?_
  refine L.nil ?_
  refine J.seq ?_
  refine J.seq ?_
  refine J.region ?_
  refine L.va rfl ((by first | exact X.loadAgg rfl (range_l hk1) Try.underlying49 rfl (by kernel_rfl) | exact X.loadAgg rfl (range_blk hk1) Try.underlying49 rfl (by kernel_rfl))) ?_
  refine L.call rfl en_107 rfl ((h.ext he1).check) ?_
  rintro e w2 ⟨rfl, he2⟩
  refine ⟨_, rfl, ?_⟩
  have he2 : Ext w1 w2 := he2
  replace hk1 := hk1.ext he2
  refine L.va rfl (X.neq rfl rfl) ?_
  refine L.nil ?_
  refine J.ndecT rfl (by exact hc) ?_
  refine J.seq ?_
  refine J.region ?_
  refine L.va rfl (X.assign (by conv => lhs; whnf)) ?_
  refine L.nil ?_
  refine J.ret ?_
  refine thn_ret <| ?_
  refine fin1 ?_
  exact ⟨rfl, he1.trans he2⟩
def sub (s : Sch) (m : Int) : Prop := m ≤ s.F
theorem andNot_full {s : Sch} {m : Nat} (hm : m < 4294967296) (hn : s.nd ≤ 6) : bits .andNot .u32 (m : Int) s.F = 0 ↔ (m : Int) ≤ s.F := by
  have hp := pw6 hn
  unfold F
  rw [u32_andNot_nat m (2 ^ s.nd - 1) hm (by omega)]
  have := Mk.andNot_zero hm (show 2 ^ s.nd - 1 < 4294967296 by omega)
  rw [sb_full hm hn, decide_eq_true_iff] at this
  omega
theorem Here.keys_no {s : Sch} {w : World} (h : s.Here w) {m : Nat} (hm32 : m < 4294967296) (hc : s.code = 0 → ¬ (m : Int) ≤ s.F) : Calls Try.prog 196 #[s.val, .int .u32 (m : Int)] w fun e w' => e = .returned (.tuple #[.int .u64 0, .bool false]) ∧ Ext w w' := by
  refine enter Try.func196 rfl (by kernel_rfl) ?_
  refine J.seq ?_
  refine J.region ?_
  refine L.boxA (l := [_, _, _, _]) rfl rfl ?_
  intro b1 w1 hb1 hs1 hk1 he1
  refine L.va rfl (X.assign (by conv => lhs; whnf)) ?_
  refine L.va rfl (X.assign (by conv => lhs; whnf)) ?_
  refine L.nil ?_
  refine J.seq ?_
  refine J.region ?_
  refine L.va rfl ((by first | exact X.loadAgg rfl (range_l hk1) Try.underlying49 rfl (by kernel_rfl) | exact X.loadAgg rfl (range_blk hk1) Try.underlying49 rfl (by kernel_rfl))) ?_
  by_cases hcc : s.code = 0
  · have g0 := (good hcc).1
    have hF := F_bd hcc
    have han := andNot_full (s := s) hm32 g0.2.1
    have hno := hc hcc
    refine L.call rfl en_90 rfl ((h.ext he1).full_ok hcc) ?_
    rintro e w2 ⟨rfl, he2⟩
    refine ⟨_, rfl, ?_⟩
    have he2 : Ext w1 w2 := he2
    refine L.va rfl (X.assign (by conv => lhs; whnf)) ?_
    refine L.nil ?_
    refine J.seq ?_
    refine J.seq ?_
    refine J.region ?_
    refine L.va rfl (X.move (by conv => lhs; whnf)) ?_
    refine L.va rfl (X.eql rfl rfl) ?_
    refine L.va rfl (X.move (by conv => lhs; whnf)) ?_
    refine L.caseDecF (k := 14) rfl (by omega) ?_
    refine L.va rfl (X.move (by conv => lhs; whnf)) ?_
    refine L.va rfl (X.move (by conv => lhs; whnf)) ?_
    refine L.va rfl (X.andNot rfl rfl) ?_
    refine L.va rfl (X.neq rfl rfl) ?_
    refine L.va rfl (X.pickF rfl (by conv => lhs; whnf)) ?_
    refine L.nil ?_
    refine J.ndecT rfl (by omega) ?_
    refine J.seq ?_
    refine J.region ?_
    refine L.va rfl (X.assign (by conv => lhs; whnf)) ?_
    refine L.va rfl (X.assign (by conv => lhs; whnf)) ?_
    refine L.nil ?_
    refine J.ret ?_
    refine thn_ret <| ?_
    refine fin2 ?_
    exact ⟨rfl, he1.trans he2⟩
  · refine L.call rfl en_90 rfl ((h.ext he1).full_no hcc) ?_
    rintro e w2 ⟨rfl, he2⟩
    refine ⟨_, rfl, ?_⟩
    have he2 : Ext w1 w2 := he2
    refine L.va rfl (X.assign (by conv => lhs; whnf)) ?_
    refine L.nil ?_
    refine J.seq ?_
    refine J.seq ?_
    refine J.region ?_
    refine L.va rfl (X.move (by conv => lhs; whnf)) ?_
    refine L.va rfl (X.eql rfl rfl) ?_
    refine L.va rfl (X.move (by conv => lhs; whnf)) ?_
    refine L.caseDecT (k := 14) rfl (by rfl) ?_
    refine L.no rfl ?_
    refine L.no rfl ?_
    refine L.no rfl ?_
    refine L.no rfl ?_
    refine L.va rfl (X.pickT rfl (by conv => lhs; whnf)) ?_
    refine L.nil ?_
    refine J.iteT rfl ?_
    refine J.seq ?_
    refine J.region ?_
    refine L.va rfl (X.assign (by conv => lhs; whnf)) ?_
    refine L.va rfl (X.assign (by conv => lhs; whnf)) ?_
    refine L.nil ?_
    refine J.ret ?_
    refine thn_ret <| ?_
    refine fin2 ?_
    exact ⟨rfl, he1.trans he2⟩
theorem Here.rsub {s : Sch} {w : World} (hc : s.code = 0) {m : Nat} (hm : m < 4294967296) : Calls Try.prog 98 #[.int .u32 (m : Int), .int .u32 s.F] w fun e w' => e = .returned (.bool (decide ((m : Int) ≤ s.F))) ∧ w = w' :=
  rsub_full _ _ s.nd w (by omega) (good hc).1.2.1 rfl
structure Any (s : Sch) (w : World) : Prop where
  hd : Reads w w.heap.size 2 s.Ad s.nd (dimsV s.ds)
  h1 : Reads w w.heap.size 1 s.A1 s.n1 (strs s.s1)
  h2 : Reads w w.heap.size 1 s.A2 s.n2 (strs s.s2)
  hv : Reads w w.heap.size 1 s.Av s.nv (nums .u32 s.zs)
  hzs : ∀ i, 0 ≤ s.zs.getD i 0 ∧ s.zs.getD i 0 < 4294967296
theorem Any.ext {s : Sch} {w w' : World} (h : s.Any w) (he : Ext w w') : s.Any w' :=
  ⟨(h.hd.ext he).here (by decide), (h.h1.ext he).here (by decide), (h.h2.ext he).here (by decide), (h.hv.ext he).here (by decide), h.hzs⟩
theorem Any.here {s : Sch} {w : World} (h : s.Any w) (hle : s.nd ≤ 100 ∧ s.n1 ≤ 100 ∧ s.n2 ≤ 100 ∧ s.nv ≤ 100) : s.Here w := ⟨h.hd, h.h1, h.h2, h.hv, h.hzs, hle⟩
theorem Any.light {s : Sch} {w : World} (h : s.Any w) : Calls Try.prog 29 #[s.val] w fun e w' => ∃ b, e = .returned (.bool b) ∧ (b = true → s.nd ≤ 100 ∧ s.n1 ≤ 100 ∧ s.n2 ≤ 100 ∧ s.nv ≤ 100) ∧ Ext w w' :=
  light11 _ _ _ _ _ _ _ _ _ _ _ _ s.ds s.s1 s.s2 w h.hd h.h1 h.h2
end Sch
theorem sch_of {w : World} {vs : List Value} {x : (List (Str × Nm .i64)) × List Str × List Str × List (Nm .u32)} (h : Lay.lies w w.heap.size vs x) :
    ∃ s : Sch, vs = [.slice s.Ad s.nd s.cd, .slice s.A1 s.n1 s.c1, .slice s.A2 s.n2 s.c2, .slice s.Av s.nv s.cv] ∧ s.Any w := by
  obtain ⟨Ad, nd, cd, A1, n1, c1, A2, n2, c2, Av, nv, cv, rfl, g1, g2, g3, g4, hd, h1, h2, hv⟩ := schema4 h
  refine ⟨⟨Ad, nd, cd, A1, n1, c1, A2, n2, c2, Av, nv, cv, _, _, _, zsOf x.2.2.2⟩, rfl, hd, h1, h2, hv, fun i => ?_⟩
  obtain ⟨vs, hvz, hvs⟩ := u32_list x.2.2.2
  show 0 ≤ (zsOf x.2.2.2).getD i 0 ∧ (zsOf x.2.2.2).getD i 0 < 4294967296
  rw [hvz, zl_getD]
  have h3 : vs.getD i 0 < 4294967296 := by
    rcases Nat.lt_or_ge i vs.length with h | h
    · rw [List.getD, List.getElem?_eq_getElem h]; exact hvs _ (List.getElem_mem h)
    · rw [List.getD, List.getElem?_eq_none h]; decide
  omega
def aA : ByteArray := { data := #[97] }
end Go.Proofs.Ytlipeplfjkgamaa
