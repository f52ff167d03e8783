/-
  Go's container/heap: Init, Push, Pop.
-/
import Derived.Test.YtdmfikedojgjbaaWHeapA
namespace Go.Proofs.Ytdmfikedojgjbaa
set_option maxRecDepth 100000
open Go.RowKit H
set_option linter.unusedVariables false
/-- nothing is changed but some blocks, and new ones -/
structure Chg (S : Nat → Prop) (w w' : World) : Prop where
  os : w'.os = w.os
  tape : w'.tape = w.tape
  output : w'.output = w.output
  size : w.heap.size ≤ w'.heap.size
  block : ∀ g, g < w.heap.size → ¬ S g → w'.heap[g]? = w.heap[g]?
theorem Chg.of_ext {S : Nat → Prop} {w w' : World} (h : Ext w w') : Chg S w w' := ⟨Below.os h, Below.tape h, Below.output h, Ext.le h, fun g hg _ => Below.block h g hg⟩
theorem Chg.of_grown {S : Nat → Prop} {w w' : World} {r : Option Nat} (h : w.grownBy w' r) (hr : ∀ g, r = some g → S g) : Chg S w w' :=
  ⟨h.os, h.tape, h.output, h.size, fun g hg hS => h.block g hg (fun e => hS (hr g e.symm))⟩
theorem Chg.trans {S S' : Nat → Prop} {a b c : World} (h : Chg S a b) (k : Chg S' b c) (hs : ∀ g, g < a.heap.size → S' g → S g) : Chg S a c :=
  ⟨k.os.trans h.os, k.tape.trans h.tape, k.output.trans h.output, Nat.le_trans h.size k.size, fun g hg hS => (k.block g (Nat.lt_of_lt_of_le hg h.size) (fun hh => hS (hs g hg hh))).trans (h.block g hg hS)⟩
theorem Chg.mono {S S' : Nat → Prop} {a b : World} (h : Chg S a b) (hs : ∀ g, S g → S' g) : Chg S' a b := ⟨h.os, h.tape, h.output, h.size, fun g hg hS => h.block g hg (fun hh => hS (hs g hh))⟩
theorem Chg.below {S : Nat → Prop} {w w' : World} {B : Nat} (h : Chg S w w') (hB : B ≤ w.heap.size) (hs : ∀ g, S g → B ≤ g) : Below B w w' :=
  ⟨h.os, h.tape, h.output, h.size, fun g hg => h.block g (by omega) (fun hh => by have := hs g hh; omega)⟩
theorem Chg.blk {S : Nat → Prop} {w w' : World} {g t : Nat} {cs : Array Value} (h : Chg S w w') (hb : Blk w g t cs) (hg : ¬ S g) : Blk w' g t cs := by
  have := h.block g hb.lt hg
  exact this.trans hb
theorem Chg.own {S : Nat → Prop} {w w' : World} {N e sz n : Nat} {x : Value} {xs : List Value} (h : Chg S w w') (ho : w.ownsRow N e sz x n xs) (hg : ∀ g, x.ownBlock = some g → ¬ S g) : w'.ownsRow N e sz x n xs := by
  refine ⟨ho.1, ?_⟩
  rcases ho.2 with h1 | ⟨b, cap, cur, rfl, hb, hh, h4⟩
  · exact .inl h1
  · exact .inr ⟨b, cap, cur, rfl, hb, (h.blk (t := e) (cs := cur) hh (hg b rfl)), h4⟩
theorem own_le' {w : World} {base e sz n n' c : Nat} {A : Option Addr} {xs : List Value} (h : w.ownsRow base e sz (.slice A n c) n' xs) : n' ≤ c := by
  rcases h.2 with ⟨h1, rfl⟩ | ⟨b, cap, cur, h1, _, _, h2, _⟩
  · omega
  · injection h1 with _ _ h3
    subst h3
    exact h2
namespace Hq
variable {N d c : Nat} {w w' : World} {c0 : Value} {A : Option Addr} {l : List Int}
/-- what a heap's changes touch -/
abbrev Tch (d : Nat) (A : Option Addr) (n c : Nat) : Nat → Prop := fun g => g = d ∨ Value.ownBlock (.slice A n c) = some g
theorem init_ (h : Hq N w d c0 A c l) (hm : l.length ≤ 1000000) : Calls Try.prog 105 #[I d] w fun e w' =>
    e = .returned (.tuple #[]) ∧ Hq N w' d c0 A c (initH l (l.length / 2)) ∧ w.grownBy w' (Value.ownBlock (.slice A l.length c)) := by
  have e0 : ((l.length : Nat) : Int) / 2 = ((l.length / 2 : Nat) : Int) := by omega
  refine enter Try.func105 rfl (by kernel_rfl) ?_
  refine J.seq ?_
  refine J.region ?_
  refine L.va rfl (X.move (by conv => lhs; whnf)) ?_
  -- invoke
  refine L.invoke rfl rfl (h.mLen) rfl (row_len A l.length c) ?_
  rintro e _ ⟨rfl, rfl⟩
  refine ⟨_, rfl, ?_⟩
  refine L.va rfl (X.assign (by conv => lhs; whnf)) ?_
  refine L.nil ?_
  refine J.seq ?_
  refine J.region ?_
  refine L.va rfl (X.move (by conv => lhs; whnf)) ?_
  refine L.va rfl (X.quo rfl rfl (by omega)) ?_
  refine L.va rfl (X.sub rfl rfl (by omega)) ?_
  refine L.va rfl (X.assign (by conv => lhs; whnf)) ?_
  refine L.nil ?_
  refine J.block ?_
  -- loop
  refine J.loop (X := Nat × List Int) [3, 9, 10, 11, 12, 13, 14, 15, 16] (fun x => [(3, .int .i64 ((x.1 : Int) - 1))]) (fun x w' => x.1 ≤ l.length ∧ x.2.length = l.length ∧ Hq N w' d c0 A c x.2 ∧ w.grownBy w' (Value.ownBlock (.slice A l.length c)) ∧ initH x.2 x.1 = initH l (l.length / 2)) (fun x => x.1) ((l.length / 2, l)) (At1 (by first | rfl | exact at_int rfl (by omega) | exact at_slice rfl (by omega) | exact at_int rfl (by simp))) ?_ ?_
  · exact ⟨by dsimp only; omega, rfl, h, grown_ext (Ext.refl _), rfl⟩
  · rintro ⟨k, m⟩ g w2 ⟨hk, hl, H, hG, hS⟩
    dsimp only at hk hl H hS
    have q1 : ((k, m) : Nat × List Int).1 = k := rfl
    refine J.seq ?_
    refine J.seq ?_
    refine J.region ?_
    refine L.va rfl (X.move (by conv => lhs; whnf)) ?_
    refine L.va rfl (X.geq rfl rfl) ?_
    refine L.nil ?_
    -- cond
    refine J.dec rfl (fun hge => ?_) (fun hge => ?_)
    · obtain ⟨k', rfl⟩ : ∃ k', k = k' + 1 := ⟨k - 1, by dsimp only at hge; omega⟩
      have ek : ((k' + 1 : Nat) : Int) - 1 = (k' : Int) := by omega
      have cD := H.down_ (by omega) k' l.length (by omega) (by omega)
      rw [← ek] at cD
      refine J.skip ?_
      refine J.seq ?_
      refine J.block ?_
      refine J.region ?_
      refine L.va rfl (X.move (by conv => lhs; whnf)) ?_
      refine L.va rfl (X.move (by conv => lhs; whnf)) ?_
      refine L.va rfl (X.move (by conv => lhs; whnf)) ?_
      -- callfn container/heap.down
      refine L.call rfl en_106 rfl (cD) ?_
      rintro e w3 ⟨⟨b, rfl⟩, H3, hg3⟩
      refine ⟨_, rfl, ?_⟩
      refine L.nil ?_
      refine J.region ?_
      refine L.va rfl (X.move (by conv => lhs; whnf)) ?_
      refine L.va rfl (X.sub rfl rfl (by omega)) ?_
      refine L.va rfl (X.assign (by conv => lhs; whnf)) ?_
      refine L.nil ?_
      -- loopend
      refine ⟨(k', siftD m.length m k' l.length), At1 (by first | rfl | exact at_int rfl (by omega) | exact at_slice rfl (by omega) | exact at_int rfl (by simp)), (by (iterate 9 refine Agr.lk rfl ?_); exact Agr.lk rfl (Agr.hav rfl Agr.rfl')), ?_⟩
      refine ⟨⟨by dsimp only; omega, by dsimp only; rw [siftD_length]; exact hl, H3, grb_trans hG (by rw [← hl]; exact hg3), ?_⟩, by dsimp only; omega⟩
      rw [← hS]
      show initH (siftD m.length m k' l.length) k' = initH (siftD m.length m k' m.length) k'
      rw [hl]
    · obtain rfl : k = 0 := by dsimp only at hge; omega
      have e : m = initH l (l.length / 2) := hS
      rw [e] at H
      refine J.exit ?_
      refine thn_exit <| thn_exit <| inB_eq ?_
      -- end
      refine fin0 (.inr rfl) ?_
      exact ⟨rfl, H, hG⟩
theorem rpush (h : Hq N w d c0 A c l) (hN : N ≤ w.heap.size) (hm : l.length ≤ 1000000) (x : Int) : Calls Try.prog 165 #[.pointer (some ⟨d, 1, none⟩), .iface 3 (.int .i64 x)] w fun e w' =>
    e = .returned (.tuple #[]) ∧ ∃ A' c', Hq N w' d c0 A' c' (l ++ [x]) ∧ Chg (Tch d A l.length c) w w' ∧ (∀ g, Value.ownBlock (.slice A' (l.length + 1) c') = some g → Value.ownBlock (.slice A l.length c) = some g ∨ w.heap.size ≤ g) := by
  have hb := h.hb
  refine enter Try.func165 rfl (by kernel_rfl) ?_
  -- draw
  refine J.draw (ℓ := 9) (S := (fun w' => Blk w' d 83 #[c0, .slice A l.length c])) mixed (fun w1 hSE hS_h => ?_)
  have hS : ((fun w' => Blk w' d 83 #[c0, .slice A l.length c])) w1 := hb.ext hSE
  -- t7
  refine D.va 0 rfl (by kernel_rfl) (fun _ _ _ h => h) rfl (fun w' hw => X.move (by conv => lhs; whnf)) hS ?_
  refine D.va 1 rfl (by kernel_rfl) (fun _ _ _ h => h) rfl (fun w' hw => X.move (by conv => lhs; whnf)) hS ?_
  refine D.va 2 rfl (by kernel_rfl) (fun _ _ _ h => h) rfl (fun w' hw => X.nilCheck rfl) hS ?_
  refine D.va 3 rfl (by kernel_rfl) (fun _ _ _ h => h) rfl (fun w' hw => X.load rfl sc_81 (Ld.blk hw rfl)) hS ?_
  refine D.va 4 rfl (by kernel_rfl) (fun _ _ _ h => h) rfl (fun w' hw => X.move (by conv => lhs; whnf)) hS ?_
  refine D.va 5 rfl (by kernel_rfl) (fun _ _ _ h => h) rfl (fun w' hw => X.assert rfl Try.underlying3 rfl) hS ?_
  -- buildSlice
  refine D.one 6 (by kernel_rfl) rfl ?_
  refine L.bslice (vs := [_]) rfl (Evs.cons (by conv => lhs; whnf) Evs.nil) rfl rfl rfl rfl Try.underlying81 sz_3 zr_3 (by decide) ?_
  intro b2 w2 hb2 hs2 hk2 he2
  have hS1 := hS.ext he2
  refine L.nil ?_
  refine ⟨fun _ => hS1, ?_⟩
  have hf2 := (h.hf.ext hSE).ext he2
  have z2 := (hSE.trans he2).le
  -- append
  refine D.one 7 (by kernel_rfl) rfl ?_
  refine L.appendQ (q := l.length + 1) (ys := l ++ [x]) rfl rfl rfl Try.underlying81 el_3 (hf2) (blk_readsN (sz := 1) (q := 1) (l := nums .i64 [x]) hk2 hk2.lt rfl) (by omega) (by simp) (by unfold maxLen; omega) (by omega) ?_
  intro A3 c3 w3 ho3 hg3 hb3 hor3
  have hS2 := hS1.grown hg3 (fun e ↦ own_blk_ne hf2 hS1 (by decide) e.symm)
  refine L.nil ?_
  refine ⟨fun _ => hS2, ?_⟩
  refine D.va 8 rfl (by kernel_rfl) (fun _ _ _ h => h) rfl (fun w' hw => X.nilCheck rfl) hS2 ?_
  -- store
  refine D.one 9 (by kernel_rfl) rfl ?_
  refine L.store rfl rfl (by conv => lhs; whnf) rfl sz_81 (hS2) (by first | decide | exact Nat.le_of_ble_eq_true rfl) ?_
  intro w4 hk4 hg4 hs4
  refine L.nil ?_
  refine ⟨fun h => absurd rfl h, ?_⟩
  refine D.done (by kernel_rfl) ?_
  -- end
  refine fin0 (.inr rfl) ?_
  have hl : (l ++ [x]).length = l.length + 1 := by simp
  refine ⟨rfl, A3, c3, ⟨by rw [hl]; exact hk4, by rw [hl]; exact ho3.kept hg4 (.inr (own_blk_ne ho3 hS2 (by decide)))⟩, ?_, ?_⟩
  · have k1 : Chg (Tch d A l.length c) w w2 := .of_ext (hSE.trans he2)
    have k2 : Chg (Tch d A l.length c) w2 w3 := .of_grown hg3 (fun g hg => .inr hg)
    have k3 : Chg (Tch d A l.length c) w3 w4 := .of_grown hg4 (fun g hg => .inl (by injection hg with hg; exact hg.symm))
    exact (k1.trans k2 (fun _ _ hh => hh)).trans k3 (fun _ _ hh => hh)
  · intro g hg
    rcases hor3 with e | e
    · rw [e] at hg; exact .inl hg
    · rw [e] at hg
      injection hg with hg
      exact .inr (by omega)
theorem rpop (h : Hq N w d c0 A c l) (hpos : 0 < l.length) (hm : l.length ≤ 1000000) : Calls Try.prog 164 #[.pointer (some ⟨d, 1, none⟩)] w fun e w' =>
    e = .returned (.iface 3 (.int .i64 (l.getD (l.length - 1) 0))) ∧ Hq N w' d c0 A c (l.take (l.length - 1)) ∧ w.grownBy w' (some d) := by
  have hb := h.hb
  have hr := Reads.of_own h.hf
  have hc := own_le' h.hf
  refine enter Try.func164 rfl (by kernel_rfl) ?_
  -- t15
  -- t14
  -- t21
  refine J.seq ?_
  refine J.region ?_
  refine L.va rfl (X.assign (by conv => lhs; whnf)) ?_
  refine L.nil ?_
  refine J.seq ?_
  refine J.region ?_
  refine L.va rfl (X.move (by conv => lhs; whnf)) ?_
  refine L.va rfl (X.nilCheck rfl) ?_
  refine L.va rfl (X.load rfl sc_81 (by first | exact Ld.num hr (by omega) | exact Ld.blk hb rfl)) ?_
  refine L.va rfl (X.len rfl Try.underlying81) ?_
  refine L.va rfl (X.sub rfl rfl (by omega)) ?_
  refine L.va rfl (X.assign (by conv => lhs; whnf)) ?_
  refine L.nil ?_
  refine J.seq ?_
  refine J.region ?_
  refine L.va rfl (X.move (by conv => lhs; whnf)) ?_
  refine L.va rfl (X.nilCheck rfl) ?_
  refine L.va rfl (X.load rfl sc_81 (by first | exact Ld.num hr (by omega) | exact Ld.blk hb rfl)) ?_
  refine L.va rfl (X.move (by conv => lhs; whnf)) ?_
  refine L.va rfl (X.index1n (j := l.length - 1) rfl (show Value.int .i64 ((l.length : Int) - 1) = _ from by rw [show ((l.length : Int) - 1) = ((l.length - 1 : Nat) : Int) by omega]) Try.underlying81 sz_3 (hr.some_ (by omega)) (by omega)) ?_
  refine L.va rfl (X.load rfl sc_3 (Ld.num hr (j := l.length - 1) (by omega))) ?_
  refine L.va rfl (X.assign (by conv => lhs; whnf)) ?_
  refine L.nil ?_
  refine J.seq ?_
  refine J.region ?_
  refine L.va rfl (X.move (by conv => lhs; whnf)) ?_
  refine L.va rfl (X.move (by conv => lhs; whnf)) ?_
  refine L.va rfl (X.nilCheck rfl) ?_
  refine L.va rfl (X.load rfl sc_81 (by first | exact Ld.num hr (by omega) | exact Ld.blk hb rfl)) ?_
  refine L.va rfl (X.move (by conv => lhs; whnf)) ?_
  refine L.va rfl (X.sliceTon (j := l.length - 1) rfl (show Value.int .i64 ((l.length : Int) - 1) = _ from by rw [show ((l.length : Int) - 1) = ((l.length - 1 : Nat) : Int) by omega]) Try.underlying81 sz_3 (by omega)) ?_
  refine L.va rfl (X.nilCheck rfl) ?_
  -- store
  refine L.store rfl rfl (by conv => lhs; whnf) rfl sz_81 (hb) (by first | decide | exact Nat.le_of_ble_eq_true rfl) ?_
  intro w1 hk1 hg1 hs1
  refine L.nil ?_
  refine J.seq ?_
  refine J.region ?_
  refine L.va rfl (X.move (by conv => lhs; whnf)) ?_
  refine L.va rfl (X.mkI rfl Try.underlying3 rfl) ?_
  refine L.va rfl (X.assign (by conv => lhs; whnf)) ?_
  refine L.nil ?_
  -- ret
  refine J.ret ?_
  refine fin1 ?_
  have hl : (l.take (l.length - 1)).length = l.length - 1 := by simp
  refine ⟨rfl, ⟨by rw [hl]; exact hk1, ?_⟩, hg1⟩
  rw [hl]
  exact (own_cutN h.hf (by omega)).kept hg1 (.inr (own_blk_ne (own_cutN h.hf (show l.length - 1 ≤ l.length by omega)) hb (by decide)))
theorem push_ (h : Hq N w d c0 A c l) (hN : N ≤ w.heap.size) (hm : l.length ≤ 900000) (x : Int) : Calls Try.prog 76 #[I d, .iface 3 (.int .i64 x)] w fun e w' =>
    e = .returned (.tuple #[]) ∧ ∃ A' c', Hq N w' d c0 A' c' (siftU (l.length + 1) (l ++ [x]) l.length) ∧ Chg (Tch d A l.length c) w w' ∧ (∀ g, Value.ownBlock (.slice A' (l.length + 1) c') = some g → Value.ownBlock (.slice A l.length c) = some g ∨ w.heap.size ≤ g) := by
  have hl : (l ++ [x]).length = l.length + 1 := by simp
  refine enter Try.func76 rfl (by kernel_rfl) ?_
  refine J.seq ?_
  refine J.region ?_
  refine L.va rfl (X.move (by conv => lhs; whnf)) ?_
  refine L.va rfl (X.move (by conv => lhs; whnf)) ?_
  -- invoke
  refine L.invoke rfl rfl (mPush) rfl (h.rpush hN (by omega) x) ?_
  rintro e w1 ⟨rfl, A', c', H1, K1, hA1⟩
  refine ⟨_, rfl, ?_⟩
  have c1 := row_len (w := w1) A' (l ++ [x]).length c'
  refine L.nil ?_
  refine J.region ?_
  refine L.va rfl (X.move (by conv => lhs; whnf)) ?_
  refine L.va rfl (X.move (by conv => lhs; whnf)) ?_
  -- invoke
  refine L.invoke rfl rfl (H1.mLen) rfl (c1) ?_
  rintro e _ ⟨rfl, rfl⟩
  refine ⟨_, rfl, ?_⟩
  have cU := H1.up_ (by omega) l.length (by omega)
  rw [show ((l.length : Nat) : Int) = (((l ++ [x]).length : Nat) : Int) - 1 by omega] at cU
  refine L.va rfl (X.sub rfl rfl (by omega)) ?_
  -- callfn container/heap.up
  refine L.call rfl en_107 rfl (cU) ?_
  rintro e w2 ⟨rfl, H2, hg2⟩
  refine ⟨_, rfl, ?_⟩
  refine L.nil ?_
  -- end
  refine fin0 (.inr rfl) ?_
  rw [hl] at hg2
  exact ⟨rfl, A', c', H2, K1.trans (.of_grown (S := fun g => Value.ownBlock (.slice A' (l.length + 1) c') = some g) hg2 (fun g hg => hg)) (fun g hg hh => .inr ((hA1 g hh).resolve_right (by omega))), hA1⟩
theorem pop_ (h : Hq N w d c0 A c l) (hpos : 0 < l.length) (hm : l.length ≤ 900000) : Calls Try.prog 74 #[I d] w fun e w' =>
    e = .returned (.iface 3 (.int .i64 (l.getD 0 0))) ∧ Hq N w' d c0 A c ((siftD l.length (swp l 0 (l.length - 1)) 0 (l.length - 1)).take (l.length - 1)) ∧ Chg (Tch d A l.length c) w w' := by
  have hl1 : (swp l 0 (l.length - 1)).length = l.length := swp_length _ _ _
  have en : ((l.length : Nat) : Int) - 1 = ((l.length - 1 : Nat) : Int) := by omega
  refine enter Try.func74 rfl (by kernel_rfl) ?_
  refine J.seq ?_
  refine J.region ?_
  refine L.va rfl (X.assign (by conv => lhs; whnf)) ?_
  refine L.nil ?_
  refine J.seq ?_
  refine J.region ?_
  refine L.va rfl (X.move (by conv => lhs; whnf)) ?_
  -- invoke
  refine L.invoke rfl rfl (h.mLen) rfl (row_len A l.length c) ?_
  rintro e _ ⟨rfl, rfl⟩
  refine ⟨_, rfl, ?_⟩
  have c1 := h.swap (i := 0) (k := l.length - 1) (by omega) (by omega)
  rw [← en] at c1
  refine L.va rfl (X.sub rfl rfl (by omega)) ?_
  refine L.va rfl (X.assign (by conv => lhs; whnf)) ?_
  refine L.nil ?_
  refine J.seq ?_
  refine J.region ?_
  refine L.va rfl (X.move (by conv => lhs; whnf)) ?_
  refine L.va rfl (X.move (by conv => lhs; whnf)) ?_
  -- invoke
  refine L.invoke rfl rfl (h.mSwap) rfl (c1) ?_
  rintro e w1 ⟨rfl, H1, hg1⟩
  refine ⟨_, rfl, ?_⟩
  have c2 := H1.down_ (by omega) 0 (l.length - 1) (by omega) (by omega)
  rw [← en] at c2
  refine L.nil ?_
  refine J.seq ?_
  refine J.region ?_
  refine L.va rfl (X.move (by conv => lhs; whnf)) ?_
  refine L.va rfl (X.move (by conv => lhs; whnf)) ?_
  -- callfn container/heap.down
  refine L.call rfl en_106 rfl (c2) ?_
  rintro e w2 ⟨⟨b, rfl⟩, H2, hg2⟩
  refine ⟨_, rfl, ?_⟩
  rw [hl1] at H2 hg2
  have hl2 : (siftD l.length (swp l 0 (l.length - 1)) 0 (l.length - 1)).length = l.length := by rw [siftD_length, swp_length]
  have c3 := H2.rpop (by omega) (by omega)
  rw [hl2, siftD_past _ _ _ _ (by omega) _ (Nat.le_refl _), swp_at l (by omega) (by omega), if_pos rfl] at c3
  refine L.nil ?_
  refine J.seq ?_
  refine J.region ?_
  refine L.va rfl (X.move (by conv => lhs; whnf)) ?_
  -- invoke
  refine L.invoke rfl rfl (mPop) rfl (c3) ?_
  rintro e w3 ⟨rfl, H3, hg3⟩
  refine ⟨_, rfl, ?_⟩
  refine L.va rfl (X.assign (by conv => lhs; whnf)) ?_
  refine L.nil ?_
  -- ret
  refine J.ret ?_
  refine fin1 ?_
  refine ⟨rfl, H3, ?_⟩
  have k1 : Chg (Tch d A l.length c) w w2 := .of_grown (grb_trans hg1 hg2) (fun g hg => .inr hg)
  exact k1.trans (.of_grown (S := Tch d A l.length c) hg3 (fun g hg => .inl (by injection hg with hg; exact hg.symm))) (fun _ _ hh => hh)
end Hq
end Go.Proofs.Ytdmfikedojgjbaa
