/-
  A space of pages: Take, Drop, Keep, New, by the kinds' definition.
-/
import Derived.Test.YtdmfikedojgjbaaWFreeA
namespace Go.Proofs.Ytdmfikedojgjbaa
set_option maxRecDepth 100000
open Go.RowKit H
set_option linter.unusedVariables false
theorem own_len (A : Option Addr) (n m c : Nat) : Value.ownBlock (.slice A n c) = Value.ownBlock (.slice A m c) := by cases A <;> rfl
namespace Sp
variable {s : Sp} {N : Nat} {w w' : World} {R : List Int}
/-- what it holds -/
structure Is (s : Sp) (R : List Int) : Prop where
  hk : s.ks = -1 :: R
  hf : Fre s.ks s.fr
  hR : Kds R
/-- it has come to hold something else -/
def To (s : Sp) (N : Nat) (R : List Int) (w w' : World) : Prop := ∃ s' : Sp, s'.At N w' ∧ s'.d = s.d ∧ s'.Is R ∧ Chg s.T w w' ∧ ∀ g, s'.T g → s.T g ∨ w.heap.size ≤ g
theorem To.same (h : s.At N w) (hi : s.Is R) : s.To N R w w := ⟨s, h, rfl, hi, .of_ext (Ext.refl _), fun g hg => .inl hg⟩
theorem Is.len (h : s.Is R) : s.ks.length = R.length + 1 := by rw [h.hk]; rfl
/-- one page's kind is changed -/
theorem At.setk (h : s.At N w) (p : Nat) (x : Int) (ho : w'.ownsRow N 3 1 s.kinds s.ks.length (nums .i64 (s.ks.set p x))) (hg : w.grownBy w' s.kinds.ownBlock) : At { s with ks := s.ks.set p x } N w' ∧ Chg s.T w w' := by
  have hl : (s.ks.set p x).length = s.ks.length := List.length_set
  refine ⟨⟨?_, ?_, h.hf.kept hg ?_, ?_, h.hN, ?_, h.hfl⟩, .of_grown hg (fun g hg => .inr (.inl hg))⟩
  · unfold Sp.kinds
    dsimp only
    rw [hl]
    exact h.hb.grown hg (fun e => own_blk_ne h.hk h.hb (by decide) e.symm)
  · unfold Sp.kinds
    dsimp only
    rw [hl]
    exact ho
  · cases hv : s.free.ownBlock with
    | none => exact .inl rfl
    | some g => exact .inr fun e => h.hne g e.symm hv
  · unfold Sp.kinds
    dsimp only
    rw [hl]
    exact h.hne
  · dsimp only
    rw [hl]
    exact h.hl
theorem At.take_ (h : s.At N w) (hi : s.Is R) : Calls Try.prog 35 #[s.ptr] w fun e w' => e = .returned (.tuple #[.int .i64 (doF R 0 []).2.1, .int .i64 (doF R 0 []).2.2]) ∧ s.To N (doF R 0 []).1 w w' := by
  have hb := h.hb
  have hl := h.hl
  have hfl := h.hfl
  have hlen := hi.len
  have hle := ffree_le R
  by_cases hlt : ffree R < R.length
  · have eD : doF R 0 [] = (R.set (ffree R) 2, ((ffree R : Nat) : Int) + 1, 0) := by unfold doF; rw [if_pos rfl, if_pos hlt]
    rw [eD]
    have hks : s.ks.getD (ffree R + 1) 0 = 0 := by rw [hi.hk]; exact (show R.getD (ffree R) 0 = 0 from ffree_at hlt)
    obtain ⟨hpos, hroot⟩ := hi.hf.root (p := ffree R + 1) (by omega) hks (fun j hj => by
      rw [hi.hk]
      cases j with
      | zero => exact (show (-1 : Int) ≠ 0 by decide)
      | succ j => exact ffree_lt (R := R) (by omega))
    have hfre := hi.hf.take_ hpos (p := ffree R + 1) (by omega) hks hroot (x := 2) (by decide)
    refine enter Try.func35 rfl (by kernel_rfl) ?_
    refine J.seq ?_
    refine J.region ?_
    refine L.va rfl (X.assign (by conv => lhs; whnf)) ?_
    refine L.va rfl (X.assign (by conv => lhs; whnf)) ?_
    refine L.nil ?_
    refine J.seq ?_
    refine J.seq ?_
    refine J.region ?_
    refine L.va rfl (X.move (by conv => lhs; whnf)) ?_
    -- callfn (*bushel/free.Space).is
    refine L.call rfl en_73 rfl (h.is_) ?_
    rintro e _ ⟨rfl, rfl⟩
    refine ⟨_, rfl, ?_⟩
    refine L.va rfl (X.not rfl) ?_
    refine L.nil ?_
    -- cond
    refine J.iteF rfl ?_
    refine J.skip ?_
    refine J.seq ?_
    refine J.seq ?_
    refine J.region ?_
    refine L.va rfl (X.move (by conv => lhs; whnf)) ?_
    refine L.va rfl (X.nilCheck rfl) ?_
    refine L.va rfl (X.fieldAddr rfl Try.underlying83 rfl sz_81 (by decide)) ?_
    refine L.va rfl (X.load rfl sc_81 (by first | exact Ld.blk hb rfl)) ?_
    refine L.va rfl (X.len rfl Try.underlying81) ?_
    refine L.va rfl (X.eql rfl rfl) ?_
    refine L.nil ?_
    -- cond
    refine J.decF rfl (by omega) ?_
    have cP := h.hq.pop_ hpos (by omega)
    rw [hroot] at cP
    refine J.skip ?_
    refine J.seq ?_
    refine J.region ?_
    refine L.va rfl (X.move (by conv => lhs; whnf)) ?_
    refine L.va rfl (X.nilCheck rfl) ?_
    refine L.va rfl (X.fieldAddr rfl Try.underlying83 rfl sz_81 (by decide)) ?_
    refine L.va rfl (X.mkI rfl Try.underlying129 rfl) ?_
    -- callfn container/heap.Pop
    refine L.call rfl en_74 rfl (cP) ?_
    rintro e w1 ⟨rfl, H1, K1⟩
    refine ⟨_, rfl, ?_⟩
    have hk1 := K1.own h.hk (fun g hg hh => by
      rcases hh with rfl | hh
      · exact own_blk_ne h.hk h.hb (by decide) hg
      · exact h.hne g hg hh)
    have hb1 := H1.hb
    refine L.va rfl (X.assert rfl Try.underlying3 rfl) ?_
    refine L.va rfl (X.assign (by conv => lhs; whnf)) ?_
    refine L.nil ?_
    refine J.seq ?_
    refine J.region ?_
    refine L.va rfl (X.move (by conv => lhs; whnf)) ?_
    refine L.va rfl (X.nilCheck rfl) ?_
    refine L.va rfl (X.fieldAddr rfl Try.underlying83 rfl sz_62 (by decide)) ?_
    refine L.va rfl (X.load rfl sc_62 (by first | exact Ld.blk hb1 rfl | exact Ld.own hk1 (by omega))) ?_
    refine L.va rfl (X.move (by conv => lhs; whnf)) ?_
    refine L.va rfl ((by first | exact X.index1n rfl rfl Try.underlying62 sz_3 (by first | exact Option.some_ne_none _ | exact own_ne hk1 (by omega)) (by omega) | exact X.index1 rfl rfl Try.underlying62 sz_3 (by first | exact Option.some_ne_none _ | exact own_ne hk1 (by omega)) (by omega))) ?_
    -- store
    refine L.storeON rfl rfl (by conv => lhs; whnf) sz_3 (hk1) (by omega) ?_
    intro w2 hk2 hg2 hbl2 hs2
    have hlf : ((siftD s.fr.length (swp s.fr 0 (s.fr.length - 1)) 0 (s.fr.length - 1)).take (s.fr.length - 1)).length = s.fr.length - 1 := by rw [List.length_take, siftD_length, swp_length]; omega
    have h1 : At { s with fr := (siftD s.fr.length (swp s.fr 0 (s.fr.length - 1)) 0 (s.fr.length - 1)).take (s.fr.length - 1) } N w1 := by
      refine ⟨H1.hb, hk1, H1.hf, fun g hg e => ?_, h.hN, hl, by dsimp only; rw [hlf]; omega⟩
      have k2 : s.free.ownBlock ≠ some g := h.hne g hg
      apply k2
      have e' : Value.ownBlock (.slice s.fA ((siftD s.fr.length (swp s.fr 0 (s.fr.length - 1)) 0 (s.fr.length - 1)).take (s.fr.length - 1)).length s.fc) = some g := e
      cases hA : s.fA with
      | none => rw [hA] at e'; cases e'
      | some a => rw [hA] at e'; unfold Sp.free; rw [hA]; exact e'
    have hT1 : ∀ g, Sp.T { s with fr := (siftD s.fr.length (swp s.fr 0 (s.fr.length - 1)) 0 (s.fr.length - 1)).take (s.fr.length - 1) } g → s.T g := by
      rintro g (hg | hg | hg)
      · exact .inl hg
      · exact .inr (.inl hg)
      · refine .inr (.inr ?_)
        have e' : Value.ownBlock (.slice s.fA ((siftD s.fr.length (swp s.fr 0 (s.fr.length - 1)) 0 (s.fr.length - 1)).take (s.fr.length - 1)).length s.fc) = some g := hg
        cases hA : s.fA with
        | none => rw [hA] at e'; cases e'
        | some a => rw [hA] at e'; unfold Sp.free; rw [hA]; exact e'
    obtain ⟨h2, K2⟩ := h1.setk (ffree R + 1) 2 hk2 hg2
    refine L.nil ?_
    refine J.seq ?_
    refine J.region ?_
    refine L.va rfl (X.move (by conv => lhs; whnf)) ?_
    refine L.va rfl (X.assign (by conv => lhs; whnf)) ?_
    refine L.va rfl (X.assign (by conv => lhs; whnf)) ?_
    refine L.nil ?_
    -- ret
    refine J.ret ?_
    refine fin2 ?_
    refine ⟨rfl, _, h2, rfl, ⟨?_, hfre, hi.hR.set _ (by decide)⟩, ?_, ?_⟩
    · dsimp only
      rw [hi.hk]
      rfl
    · have K1' : Chg s.T w w1 := K1.mono (fun g hg => hg.elim .inl (fun h => .inr (.inr h)))
      exact K1'.trans K2 (fun g hg hh => hT1 g hh)
    · rintro g (hg | hg | hg)
      · exact .inl (.inl hg)
      · refine .inl (.inr (.inl ?_))
        have e' : Value.ownBlock (.slice s.kA (s.ks.set (ffree R + 1) 2).length s.kc) = some g := hg
        rw [List.length_set] at e'
        exact e'
      · exact .inl (hT1 g (.inr (.inr hg)))
  · have eD : doF R 0 [] = (R, 0, 12) := by unfold doF; rw [if_pos rfl, if_neg hlt]
    rw [eD]
    have h0 : s.fr.length = 0 := hi.hf.none_ (fun j hj => by
      rw [hi.hk]
      cases j with
      | zero => exact (show (-1 : Int) ≠ 0 by decide)
      | succ j => exact ffree_lt (R := R) (by omega))
    refine enter Try.func35 rfl (by kernel_rfl) ?_
    refine J.seq ?_
    refine J.region ?_
    refine L.va rfl (X.assign (by conv => lhs; whnf)) ?_
    refine L.va rfl (X.assign (by conv => lhs; whnf)) ?_
    refine L.nil ?_
    refine J.seq ?_
    refine J.seq ?_
    refine J.region ?_
    refine L.va rfl (X.move (by conv => lhs; whnf)) ?_
    -- callfn (*bushel/free.Space).is
    refine L.call rfl en_73 rfl (h.is_) ?_
    rintro e _ ⟨rfl, rfl⟩
    refine ⟨_, rfl, ?_⟩
    refine L.va rfl (X.not rfl) ?_
    refine L.nil ?_
    -- cond
    refine J.iteF rfl ?_
    refine J.skip ?_
    refine J.seq ?_
    refine J.seq ?_
    refine J.region ?_
    refine L.va rfl (X.move (by conv => lhs; whnf)) ?_
    refine L.va rfl (X.nilCheck rfl) ?_
    refine L.va rfl (X.fieldAddr rfl Try.underlying83 rfl sz_81 (by decide)) ?_
    refine L.va rfl (X.load rfl sc_81 (by first | exact Ld.blk hb rfl)) ?_
    refine L.va rfl (X.len rfl Try.underlying81) ?_
    refine L.va rfl (X.eql rfl rfl) ?_
    refine L.nil ?_
    -- cond
    refine J.decT rfl (by omega) ?_
    refine J.seq ?_
    refine J.region ?_
    refine L.va rfl (X.assign (by conv => lhs; whnf)) ?_
    refine L.va rfl (X.assign (by conv => lhs; whnf)) ?_
    refine L.nil ?_
    -- ret
    refine J.ret ?_
    refine thn_ret <| ?_
    refine fin2 ?_
    exact ⟨rfl, To.same h hi⟩
/-- the same but for the kinds' numbers and the free row -/
abbrev mk' (s : Sp) (A : Option Addr) (c : Nat) (ks fr : List Int) : Sp := { s with fA := A, fc := c, ks := ks, fr := fr }
theorem T_mk {s : Sp} {A : Option Addr} {c : Nat} {ks fr : List Int} {g : Nat} : (mk' s A c ks fr).T g ↔ g = s.d ∨ s.kinds.ownBlock = some g ∨ Value.ownBlock (.slice A 0 c) = some g := by
  unfold T kinds free mk'
  dsimp only
  rw [own_len s.kA ks.length s.ks.length s.kc, own_len A fr.length 0 c]
theorem T_self {s : Sp} {g : Nat} : s.T g ↔ g = s.d ∨ s.kinds.ownBlock = some g ∨ Value.ownBlock (.slice s.fA 0 s.fc) = some g := by
  unfold T free
  rw [own_len s.fA s.fr.length 0 s.fc]
theorem At.drop_ (h : s.At N w) (hi : s.Is R) : Calls Try.prog 39 #[s.ptr] w fun e w' => e = .returned (.tuple #[]) ∧ s.To N (dropR R) w w' := by
  have hl := h.hl
  have hfl := h.hfl
  have hLl := fK_len 2 s.ks s.ks.length
  have hNs := h.nsz
  have hLp : ∀ x ∈ fK 2 s.ks s.ks.length, ∃ p : Nat, p < s.ks.length ∧ s.ks.getD p 0 = 2 ∧ x = (p : Int) := fun x hx => fK_mem.1 hx
  have hLs := fK_cons_len 2 s.ks s.ks.length
  have hall : dropK s.ks (fK 2 s.ks s.ks.length) = -1 :: dropR R := by rw [hi.hk]; exact dropK_all R
  refine enter Try.func39 rfl (by kernel_rfl) ?_
  refine J.seq ?_
  refine J.region ?_
  refine L.va rfl (X.move (by conv => lhs; whnf)) ?_
  -- callfn (*bushel/free.Space).Fresh
  refine L.call rfl en_42 rfl (h.fresh_) ?_
  rintro e w1 ⟨A, c, rfl, ho1, he1⟩
  refine ⟨_, rfl, ?_⟩
  have he1 : Ext w w1 := he1
  generalize fK 2 s.ks s.ks.length = Zs at *
  have h1 := h.ext he1
  have z1 := he1.le
  have hno : ∀ g, Value.ownBlock (.slice A Zs.length c) = some g → w.heap.size ≤ g ∧ g < w1.heap.size := fun g hg => ho1.lt g hg
  refine L.va rfl (X.len rfl Try.underlying62) ?_
  refine L.va rfl (X.move (by conv => lhs; whnf)) ?_
  refine L.nil ?_
  refine J.block ?_
  -- loop
  refine J.loop (X := Nat × Option Addr × Nat × List Int) [3, 7, 8, 9, 10, 11, 12, 13, 14, 15, 16, 17, 18, 19, 20, 21, 22, 23, 24] (fun x => [(7, .int .i64 (x.1 : Int))]) (fun x w' => x.1 ≤ Zs.length ∧ At (mk' s x.2.1 x.2.2.1 (dropK s.ks (Zs.take x.1)) x.2.2.2) N w' ∧ Fre (dropK s.ks (Zs.take x.1)) x.2.2.2 ∧ Chg s.T w w' ∧ (∀ g, T (mk' s x.2.1 x.2.2.1 (dropK s.ks (Zs.take x.1)) x.2.2.2) g → s.T g ∨ w1.heap.size ≤ g) ∧ w'.ownsRow w.heap.size 3 1 (.slice A Zs.length c) Zs.length (nums .i64 Zs) ∧ w1.heap.size ≤ w'.heap.size) (fun x => Zs.length - x.1) ((0, s.fA, s.fc, s.fr)) (At1 (by first | rfl | exact at_int rfl (by omega) | exact at_slice rfl (by omega) | exact at_int rfl (by simp))) ?_ ?_
  · exact ⟨Nat.zero_le _, h1, hi.hf, .of_ext he1, fun g hg => .inl hg, ho1, Nat.le_refl _⟩
  · rintro ⟨i, fA, fc, fr⟩ g w2 ⟨hi2, H, F, K, hT, ho, hz2⟩
    dsimp only at hi2 H F hT
    have q1 : ((i, fA, fc, fr) : Nat × Option Addr × Nat × List Int).1 = i := rfl
    have hdl := dropK_length s.ks (Zs.take i)
    have hr2 := Reads.of_own ho
    have hb2 : Blk w2 s.d 83 #[.slice s.kA (dropK s.ks (Zs.take i)).length s.kc, .slice fA fr.length fc] := H.hb
    have hk2 : w2.ownsRow N 3 1 (.slice s.kA (dropK s.ks (Zs.take i)).length s.kc) (dropK s.ks (Zs.take i)).length (nums .i64 (dropK s.ks (Zs.take i))) := H.hk
    have hfl2 := H.hfl
    refine J.seq ?_
    refine J.region ?_
    refine L.va rfl (X.lss rfl rfl) ?_
    refine L.nil ?_
    refine J.seq ?_
    -- cond
    refine J.dec rfl (fun hlt => ?_) (fun hlt => ?_)
    · have hil : i < Zs.length := by dsimp only at hlt; omega
      have hm : Zs.getD i 0 ∈ Zs := by
        have : Zs.getD i 0 = Zs[i] := by simp [List.getD, hil]
        rw [this]
        exact List.getElem_mem hil
      obtain ⟨p, hp, hp2, hpx⟩ := hLp _ hm
      have hnm : (p : Int) ∉ Zs.take i := by
        intro hx
        obtain ⟨j, hj, e⟩ := List.getElem_of_mem hx
        rw [List.length_take] at hj
        have hlt2 : Zs[j]'(by omega) < Zs[i] := List.pairwise_iff_getElem.1 hLs j i (by omega) hil (by omega)
        rw [List.getElem_take] at e
        have : Zs[i] = (p : Int) := by rw [← hpx]; simp [List.getD, hil]
        omega
      have hkp : (dropK s.ks (Zs.take i)).getD p 0 = 2 := by
        rw [dropK_at _ _ (fun x hx => by obtain ⟨q, _, _, rfl⟩ := hLp x (List.mem_of_mem_take hx); omega) p hp, if_neg hnm, hp2]
      have hstep := dropK_take s.ks Zs hil
      rw [hpx, Int.toNat_natCast] at hstep
      have F3 := F.push_ (p := p) (by omega) (by rw [hkp]; decide)
      rw [← hstep] at F3
      refine J.skip ?_
      refine J.seq ?_
      refine J.block ?_
      refine J.seq ?_
      refine J.region ?_
      refine L.va rfl ((by first | exact X.index1n rfl rfl Try.underlying62 sz_3 (by first | exact Option.some_ne_none _ | exact hr2.some_ (by omega) | exact own_ne hk2 (by omega)) (by omega) | exact X.index1 rfl rfl Try.underlying62 sz_3 (by first | exact Option.some_ne_none _ | exact hr2.some_ (by omega) | exact own_ne hk2 (by omega)) (by omega))) ?_
      refine L.va rfl (X.load rfl sc_3 (by first | exact Ld.num hr2 (by omega) | exact Ld.blk hb2 rfl | exact Ld.own hk2 (by omega))) ?_
      refine L.va rfl (X.assign (by conv => lhs; whnf)) ?_
      refine L.nil ?_
      -- until
      rw [hpx]
      refine J.seq ?_
      refine J.region ?_
      refine L.va rfl (X.move (by conv => lhs; whnf)) ?_
      refine L.va rfl (X.nilCheck rfl) ?_
      refine L.va rfl (X.fieldAddr rfl Try.underlying83 rfl sz_62 (by decide)) ?_
      refine L.va rfl (X.load rfl sc_62 (by first | exact Ld.blk hb2 rfl | exact Ld.own hk2 (by omega))) ?_
      refine L.va rfl (X.move (by conv => lhs; whnf)) ?_
      refine L.va rfl ((by first | exact X.index1n rfl rfl Try.underlying62 sz_3 (by first | exact Option.some_ne_none _ | exact own_ne hk2 (by omega)) (by omega) | exact X.index1 rfl rfl Try.underlying62 sz_3 (by first | exact Option.some_ne_none _ | exact own_ne hk2 (by omega)) (by omega))) ?_
      -- store
      refine L.storeON rfl rfl (by conv => lhs; whnf) sz_3 (hk2) (by omega) ?_
      intro w3 hk3 hg3 hbl3 hs3
      obtain ⟨H3, K3⟩ := H.setk p 0 hk3 hg3
      have hne3 : ∀ g, Value.ownBlock (.slice A Zs.length c) = some g → ¬ T (mk' s fA fc (dropK s.ks (Zs.take i)) fr) g := fun g hg hh => by
        have k1 := hno g hg
        rcases hT g hh with k2 | k2
        · have := (h.tN g k2).2; omega
        · omega
      have ho3 := K3.own ho hne3
      have H3 : At (mk' s fA fc ((dropK s.ks (Zs.take i)).set p 0) fr) N w3 := H3
      rw [← hstep] at H3
      have z3 := K3.size
      refine L.nil ?_
      refine J.region ?_
      refine L.va rfl (X.move (by conv => lhs; whnf)) ?_
      refine L.va rfl (X.nilCheck rfl) ?_
      refine L.va rfl (X.fieldAddr rfl Try.underlying83 rfl sz_81 (by decide)) ?_
      refine L.va rfl (X.mkI rfl Try.underlying129 rfl) ?_
      refine L.va rfl (X.move (by conv => lhs; whnf)) ?_
      refine L.va rfl (X.mkI rfl Try.underlying3 rfl) ?_
      -- callfn container/heap.Push
      have cP := H3.hq.push_ H3.nsz (by have := H3.hfl; dsimp only at this; dsimp only; omega) (p : Int)
      refine L.call rfl en_76 rfl (cP) ?_
      rintro e w4 ⟨rfl, A', c', H4, K4, hA4⟩
      refine ⟨_, rfl, ?_⟩
      have hne4 : ∀ g, Value.ownBlock (.slice A Zs.length c) = some g → ¬ Hq.Tch s.d fA fr.length fc g := fun g hg hh => by
        refine hne3 g hg (T_mk.2 ?_)
        rcases hh with hh | hh
        · exact .inl hh
        · rw [own_len fA fr.length 0 fc] at hh
          exact .inr (.inr hh)
      have ho4 := K4.own ho3 hne4
      have hkk4 := K4.own H3.hk (fun g hg hh => by
        rcases hh with hh | hh
        · subst hh
          exact own_blk_ne H3.hk H3.hb (by decide) hg
        · exact H3.hne g hg hh)
      have hflen : (siftU (fr.length + 1) (fr ++ [(p : Int)]) fr.length).length = fr.length + 1 := by rw [siftU_length]; simp
      have hFl := F3.len_le
      have z4 := K4.size
      have H5 : At (mk' s A' c' (dropK s.ks (Zs.take (i + 1))) (siftU (fr.length + 1) (fr ++ [(p : Int)]) fr.length)) N w4 := by
        refine ⟨H4.hb, hkk4, H4.hf, fun g hg e => ?_, h.hN, H3.hl, by dsimp only; have := H3.hl; dsimp only at this; omega⟩
        have e' : Value.ownBlock (.slice A' (siftU (fr.length + 1) (fr ++ [(p : Int)]) fr.length).length c') = some g := e
        rw [own_len A' _ (fr.length + 1) c'] at e'
        rcases hA4 g e' with k | k
        · exact H3.hne g hg k
        · have := (H3.hk.lt g hg).2; omega
      refine L.nil ?_
      refine J.region ?_
      refine L.va rfl (X.add rfl rfl (by omega)) ?_
      refine L.va rfl (X.move (by conv => lhs; whnf)) ?_
      refine L.nil ?_
      -- loopend
      refine ⟨(i + 1, A', c', siftU (fr.length + 1) (fr ++ [(p : Int)]) fr.length), At1 (by first | rfl | exact at_int rfl (by omega) | exact at_slice rfl (by omega) | exact at_int rfl (by simp)), (by (iterate 19 refine Agr.lk rfl ?_); exact Agr.lk rfl (Agr.hav rfl Agr.rfl')), ?_⟩
      refine ⟨⟨by dsimp only; omega, H5, F3, ?_, fun g hg => ?_, ho4, by omega⟩, by dsimp only; omega⟩
      · refine (K.trans K3 (fun g hg hh => (hT g hh).resolve_right (by omega))).trans K4 (fun g hg hh => ?_)
        refine (hT g (T_mk.2 ?_)).resolve_right (by omega)
        rcases hh with hh | hh
        · exact .inl hh
        · have hh : Value.ownBlock (.slice fA fr.length fc) = some g := hh
          rw [own_len fA fr.length 0 fc] at hh
          exact .inr (.inr hh)
      · rcases T_mk.1 hg with k | k | k
        · exact .inl (.inl k)
        · exact .inl (.inr (.inl k))
        · rw [own_len A' 0 (fr.length + 1) c'] at k
          rcases hA4 g k with k | k
          · have k : Value.ownBlock (.slice fA fr.length fc) = some g := k
            rw [own_len fA fr.length 0 fc] at k
            exact hT g (T_mk.2 (.inr (.inr k)))
          · exact .inr (by omega)
    · obtain rfl : i = Zs.length := by dsimp only at hlt; omega
      rw [List.take_length] at H F hT
      refine J.exit ?_
      refine thn_exit <| thn_exit <| inB_eq ?_
      -- end
      refine fin0 (.inr rfl) ?_
      rw [hall] at H F hT
      exact ⟨rfl, _, H, rfl, ⟨rfl, F, hi.hR.drop⟩, K, fun g hg => (hT g hg).imp id (fun hh => by omega)⟩
end Sp
end Go.Proofs.Ytdmfikedojgjbaa
