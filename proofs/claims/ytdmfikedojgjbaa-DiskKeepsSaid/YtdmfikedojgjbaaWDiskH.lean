/-
  The reference's disk: Do.
-/
import Derived.Test.YtdmfikedojgjbaaWDiskG
namespace Go.Proofs.Ytdmfikedojgjbaa
set_option maxRecDepth 100000
open Go.RowKit H
set_option linter.unusedVariables false
namespace Rk
variable {r : Rk} {N : Nat} {w w' : World}
/-- nothing, or a sector's bytes -/
def RDn (N : Nat) (w : World) (A : Option Addr) (n c : Nat) (zs : List Int) : Prop := (n = 0 ∧ zs = []) ∨ (n = 1024 ∧ RD N w (.slice A 1024 c) zs)
theorem RDn.reads {N n c : Nat} {w : World} {A : Option Addr} {zs : List Int} (h : RDn N w A n c zs) (hN : N ≤ w.heap.size) : Reads w w.heap.size 1 A n (nums .u8 zs) := by
  rcases h with ⟨rfl, rfl⟩ | ⟨rfl, h⟩
  · exact Reads.none_
  · obtain ⟨A', c', e, hr⟩ := h.slice hN
    injection e with e1 _ e3
    subst e1 e3
    exact hr
theorem RDn.ext {N n c : Nat} {w w' : World} {A : Option Addr} {zs : List Int} (h : RDn N w A n c zs) (he : Ext w w') (hN : N ≤ w.heap.size) : RDn N w' A n c zs := h.imp id fun ⟨h1, h2⟩ => ⟨h1, h2.ext he hN⟩
/-- what a deed comes to -/
def DoR (r : Rk) (N : Nat) (x : Dd) (w : World) (e : Ending) (w' : World) : Prop :=
  ∃ (r' : Rk) (A : Option Addr) (n c : Nat), e = .returned (.tuple #[r'.v, .slice A n c, .int .i64 (r.abs.do_ x).2.2]) ∧ r'.At N w' ∧ r'.abs = (r.abs.do_ x).1 ∧ RDn N w' A n c (r.abs.do_ x).2.1 ∧ Ext w w' ∧ Fr r' r w
theorem _root_.Go.Proofs.Ytdmfikedojgjbaa.RD.own {N base e sz n : Nat} {w w' : World} {x v : Value} {zs : List Int} {xs : List Value} (h : RD N w x zs) (ho : w.ownsRow base e sz v n xs) (hg : w.grownBy w' v.ownBlock) (hb : N ≤ base) (hN : N ≤ w.heap.size) (he : e ≠ 5) : RD N w' x zs := by
  rcases h with h | ⟨A, c, rfl, h⟩
  · exact .inl (h.grown hg (fun g hg' ht => he ((own_isT ho hg').1.fun_ ht)))
  · refine .inr ⟨A, c, rfl, h.low ⟨hg.os, hg.tape, hg.output, hg.size, fun g hgl => ?_⟩ (Nat.le_refl _)⟩
    refine hg.block g (by omega) (fun hh => ?_)
    have := (own_isT ho hh.symm).2
    omega
theorem _root_.Go.Proofs.Ytdmfikedojgjbaa.RD.blk {N g e : Nat} {w w' : World} {x : Value} {zs : List Int} {cs : Array Value} (h : RD N w x zs) (hb : Blk w g e cs) (hg : w.grownBy w' (some g)) (hNg : N ≤ g) (hN : N ≤ w.heap.size) (he : e ≠ 5) : RD N w' x zs := by
  rcases h with h | ⟨A, c, rfl, h⟩
  · exact .inl (h.grown hg (fun g' hg' ht => by injection hg' with hg'; subst hg'; exact he (hb.isT.fun_ ht)))
  · refine .inr ⟨A, c, rfl, h.low ⟨hg.os, hg.tape, hg.output, hg.size, fun g' hgl => ?_⟩ (Nat.le_refl _)⟩
    refine hg.block g' (by omega) (fun hh => ?_)
    injection hh with hh
    omega
theorem At.blk {g : Nat} {cs : Array Value} (h : r.At N w) (hb : Blk w g 44 cs) (hg : w.grownBy w' (some g)) (hNg : N ≤ g) : r.At N w' :=
  ⟨h.hk.kept hg (.inr (own_blk_ne h.hk hb (by decide))), h.hp.kept hg (.inr (own_blk_ne h.hp hb (by decide))), fun x hx => (h.kd x hx).blk hb hg hNg h.hN (by decide), fun x hx => ⟨(h.pd x hx).1, (h.pd x hx).2.blk hb hg hNg h.hN (by decide)⟩, h.h1, Nat.le_trans h.hN hg.size⟩
/-- a reference's disk some of whose first pending writes are kept -/
abbrev rf (r : Rk) (i : Nat) (kA : Option Addr) (kc : Nat) : Rk := { r with left := Dk.dec1 r.left, fl := r.fl + 1, kA := kA, kc := kc, kp := keI (fun _ => true) r.kp c0 r.pp i }
abbrev rc (r : Rk) (l : List Bool) (i : Nat) (kA : Option Addr) (kc : Nat) : Rk := { r with kA := kA, kc := kc, kp := keI (Dk.kpF l) r.kp c0 r.pp i }
theorem At.do_ (h : r.At N w) {m : Nat} (hok : r.abs.Ok m) (hm : m ≤ 1000000) (x : Dm) (hx : x.At N w) (hdn : x.dn ≤ 1000000) (hkn : x.kn ≤ 1000000) :
    Calls Try.prog 70 #[r.v, x.v] w fun e w' => DoR r N x.dd w e w' := by
  have hmm := hok.hm
  have hll := hok.hl
  have hnn := hx.hn
  have hh1 := h.h1
  have hN0 := h.hN
  have hmm1 : r.pp.length ≤ 1000000 := by
    have : r.abs.pend.length = r.pp.length := by simp [Rk.abs, abs_]
    omega
  have hrd : 0 ≤ r.rd ∧ r.rd ≤ 1000000 := by
    have := hmm.2.1
    have e : r.abs.rd = r.rd := rfl
    omega
  have hwr : 0 ≤ r.wr ∧ r.wr ≤ 1000000 := by
    have := hmm.2.2.1
    have e : r.abs.wr = r.wr := rfl
    omega
  have hfl : 0 ≤ r.fl ∧ r.fl ≤ 1000000 := by
    have := hmm.2.2.2
    have e : r.abs.fl = r.fl := rfl
    omega
  have hll : -1 ≤ r.left ∧ r.left ≤ 9223372036854775807 := hll
  have hkl : r.abs.kept.length = r.kp.length := by simp [Rk.abs, abs_]
  refine enter Try.func70 rfl (by kernel_rfl) ?_
  refine J.seq ?_
  refine J.region ?_
  -- box
  refine L.boxA (l := [_, _, _, _, _, _, _]) rfl rfl ?_
  intro b2 w2 hb2 hs2 hk2 he2
  -- box
  refine L.boxA (l := [_, _, _, _, _]) rfl rfl ?_
  intro b3 w3 hb3 hs3 hk3 he3
  -- alloc
  refine L.alloc rfl zr_44 ?_
  intro b4 w4 hb4 hs4 hk4 he4
  replace hk2 := (hk2.ext he3).ext he4
  replace hk3 := hk3.ext he4
  have he04 : Ext w w4 := (he2.trans he3).trans he4
  have n23 : some b2 ≠ some b3 := by intro e; injection e with e; omega
  have n24 : some b2 ≠ some b4 := by intro e; injection e with e; omega
  have n34 : some b3 ≠ some b4 := by intro e; injection e with e; omega
  have g2 : ∀ g, some b2 = some g → w.heap.size ≤ g := by intro g hg; injection hg with hg; omega
  have g4 : ∀ g, some b4 = some g → w.heap.size ≤ g := by intro g hg; injection hg with hg; omega
  have H4 := h.ext he04
  refine L.va rfl (X.assign (by conv => lhs; whnf)) ?_
  refine L.va rfl (X.assign (by conv => lhs; whnf)) ?_
  refine L.nil ?_
  refine J.seq ?_
  refine J.seq ?_
  refine J.region ?_
  refine L.va rfl (X.fieldAddr rfl Try.underlying34 rfl sz_3 (by decide)) ?_
  refine L.va rfl (X.load rfl sc_3 (by first | exact Ld.blk hk2 rfl | exact Ld.blk hk3 rfl)) ?_
  refine L.va rfl (X.eql rfl rfl) ?_
  refine L.nil ?_
  -- cond
  refine J.dec rfl (fun h3 => ?_) (fun h3 => ?_)
  · have h3' : x.dd.kind = 3 := h3
    have e0 : r.abs.do_ x.dd = ({ r.abs with left := max x.n (-1) }, [], 0) := by unfold Ds.do_; rw [if_pos h3']; rfl
    -- t14
    refine J.seq ?_
    refine J.region ?_
    refine L.va rfl (X.fieldAddr rfl Try.underlying34 rfl sz_3 (by decide)) ?_
    refine L.va rfl (X.load rfl sc_3 (by first | exact Ld.blk hk2 rfl | exact Ld.blk hk3 rfl)) ?_
    refine L.va rfl (X.max2 rfl rfl) ?_
    refine L.va rfl (X.fieldAddr rfl Try.underlying44 rfl sz_3 (by decide)) ?_
    -- store
    refine L.store rfl rfl (by conv => lhs; whnf) rfl sz_3 (hk2) (by first | decide | exact Nat.le_of_ble_eq_true rfl) ?_
    intro w5 hk5 hg5 hs5
    have hk4' := hk4.grown hg5 n24.symm
    refine L.nil ?_
    refine J.seq ?_
    refine J.region ?_
    refine L.va rfl ((by first | exact X.loadAgg rfl (range_l hk5) Try.underlying44 rfl (by kernel_rfl) | exact X.loadAgg rfl (range_blk hk5) Try.underlying44 rfl (by kernel_rfl))) ?_
    -- store
    refine L.storeAgg (vs := [_, _, _, _, _, _, _]) rfl rfl rfl rfl sz_44 (hk4') rfl ?_
    intro w6 hk6 hg6 hs6
    refine L.va rfl (X.assign (by conv => lhs; whnf)) ?_
    refine L.va rfl (X.assign (by conv => lhs; whnf)) ?_
    refine L.nil ?_
    -- ret
    refine J.ret ?_
    refine thn_ret <| ?_
    -- results [['ResultVar.cell', 4, 44], ['ResultVar.tmp', 5], ['ResultVar.tmp', 6]]
    have he6 : Ext w w6 := (he04.grw hg5 g2).grw hg6 g4
    refine finCTT rfl (run_cell hk6 Try.underlying44 rfl (by kernel_rfl)) ?_
    unfold DoR
    rw [e0]
    have H6 := h.ext he6
    exact ⟨{ r with left := max x.n (-1) }, none, 0, 0, rfl, ⟨H6.hk, H6.hp, H6.kd, H6.pd, H6.h1, H6.hN⟩, rfl, .inl ⟨rfl, rfl⟩, he6, Fr.refl _ _⟩
  · have h3' : ¬ x.dd.kind = 3 := h3
    refine J.skip ?_
    refine J.seq ?_
    refine J.seq ?_
    refine J.region ?_
    refine L.va rfl (X.fieldAddr rfl Try.underlying34 rfl sz_3 (by decide)) ?_
    refine L.va rfl (X.load rfl sc_3 (by first | exact Ld.blk hk2 rfl | exact Ld.blk hk3 rfl)) ?_
    refine L.va rfl (X.eql rfl rfl) ?_
    refine L.nil ?_
    -- cond
    refine J.dec rfl (fun h4 => ?_) (fun h4 => ?_)
    · have h4' : x.dd.kind = 4 := h4
      have e0 : r.abs.do_ x.dd = ({ r.abs with kept := keI (Dk.kpF x.keep) r.abs.kept [] r.abs.pend r.abs.pend.length, pend := [], off := false, left := -1 }, [], 0) := by unfold Ds.do_; rw [if_neg h3', if_pos h4']; rfl
      refine J.seq ?_
      refine J.seq ?_
      refine J.region ?_
      refine L.va rfl (X.assign (by conv => lhs; whnf)) ?_
      refine L.nil ?_
      refine J.block ?_
      -- loop
      have hR4 : At (rc r x.keep 0 r.kA r.kc) N w4 := ⟨H4.hk, H4.hp, H4.kd, H4.pd, H4.h1, H4.hN⟩
      refine J.loop (X := Nat × Option Addr × Nat) [7, 20, 21, 22, 23, 24, 25, 26, 27, 28, 29, 30, 31, 32, 33, 34, 35, 36, 37, 38, 39, 40, 41, 42, 43, 44, 45, 46, 47, 48, 49, 50, 51, 52] (fun s => [(7, .int .i64 (s.1 : Int))]) (fun s w' => s.1 ≤ r.pp.length ∧ Blk w' b2 44 (rc r x.keep s.1 s.2.1 s.2.2).vals.toArray ∧ Blk w' b3 34 x.vals.toArray ∧ Blk w' b4 44 #[.slice none 0 0, .slice none 0 0, .bool false, .int .i64 0, .int .i64 0, .int .i64 0, .int .i64 0] ∧ At (rc r x.keep s.1 s.2.1 s.2.2) N w' ∧ Ext w w' ∧ Fr (rc r x.keep s.1 s.2.1 s.2.2) r w) (fun s => r.pp.length - s.1) ((0, r.kA, r.kc)) (At1 (by first | rfl | exact at_int rfl (by omega) | exact at_slice rfl (by omega) | exact at_int rfl (by simp))) ?_ ?_
      · exact ⟨Nat.zero_le _, hk2, hk3, hk4, hR4, he04, Fr.refl _ _⟩
      · rintro ⟨i, kA, kc⟩ g w9 ⟨hi, hk9, hk39, hk49, hR9, he09, hF9⟩
        dsimp only at hi hk9 hR9 hF9
        have q1 : ((i, kA, kc) : Nat × Option Addr × Nat).1 = i := rfl
        have hk9 : Blk w9 b2 44 #[.slice kA (keI (Dk.kpF x.keep) r.kp c0 r.pp i).length kc, .slice r.pA r.pp.length r.pc, .bool r.off, .int .i64 r.left, .int .i64 r.rd, .int .i64 r.wr, .int .i64 r.fl] := hk9
        have hk39 : Blk w9 b3 34 #[.int .i64 x.kind, .int .i64 x.n, .slice x.dA x.dn x.dc, .bool x.odd, .slice x.kA x.kn x.kc] := hk39
        have hll9 : x.keep.length = x.kn := by have := hx.hk.1; simpa using this
        refine J.seq ?_
        refine J.seq ?_
        refine J.region ?_
        refine L.va rfl (X.move (by conv => lhs; whnf)) ?_
        refine L.va rfl (X.fieldAddr rfl Try.underlying44 rfl sz_42 (by decide)) ?_
        refine L.va rfl (X.load rfl sc_42 (by first | exact Ld.blk hk9 rfl | exact Ld.blk hk39 rfl)) ?_
        refine L.va rfl (X.len rfl Try.underlying42) ?_
        refine L.va rfl (X.lss rfl rfl) ?_
        refine L.nil ?_
        -- cond
        refine J.dec rfl (fun hlt => ?_) (fun hlt => ?_)
        · have hil : i < r.pp.length := by dsimp only at hlt; omega
          have hpA : r.pA ≠ none := (show Reads w9 w9.heap.size 2 r.pA r.pp.length (pcs r.pp) from hR9.pRd).some_ (by omega)
          have hpd := hR9.pDat (i := i) hil
          have z09 := he09.le
          have hrl : Reads w9 N 1 x.kA x.kn (x.keep.map Value.bool) := (hx.low (Below.mono he09 h.hN)).hk
          have hstep : ∀ b : Bool, x.keep.getD i false = b → keI (Dk.kpF x.keep) r.kp c0 r.pp (i + 1) = if b = true then (keI (Dk.kpF x.keep) r.kp c0 r.pp i).set (r.pp.getD i p0).1 (r.pp.getD i p0).2 else keI (Dk.kpF x.keep) r.kp c0 r.pp i := fun b hb => by
            rw [← hb]
            rfl
          refine J.skip ?_
          refine J.seq ?_
          refine J.block ?_
          refine J.seq ?_
          refine J.region ?_
          refine L.va rfl (X.move (by conv => lhs; whnf)) ?_
          refine L.va rfl (X.fieldAddr rfl Try.underlying34 rfl sz_23 (by decide)) ?_
          refine L.va rfl (X.load rfl sc_23 (by first | exact Ld.blk hk9 rfl | exact Ld.blk hk39 rfl)) ?_
          refine L.va rfl (X.len rfl Try.underlying23) ?_
          refine L.va rfl (X.lss rfl rfl) ?_
          refine L.va rfl (X.move (by conv => lhs; whnf)) ?_
          -- case t32
          refine L.caseDec (k := 32) rfl (fun hlen => ?_) (fun hlen => ?_)
          · have hlen' : i < x.kn := by dsimp only at hlen; omega
            -- t37
            refine L.va rfl (X.fieldAddr rfl Try.underlying34 rfl sz_23 (by decide)) ?_
            refine L.va rfl (X.load rfl sc_23 (by first | exact Ld.blk hk9 rfl | exact Ld.blk hk39 rfl | exact Ld.rd hrl (by omega))) ?_
            refine L.va rfl (X.move (by conv => lhs; whnf)) ?_
            refine L.va rfl ((by first | exact X.index1n rfl rfl Try.underlying23 sz_4 (by first | exact Option.some_ne_none _ | exact hrl.some_ (by omega)) (by omega) | exact X.index1 rfl rfl Try.underlying23 sz_4 (by first | exact Option.some_ne_none _ | exact hrl.some_ (by omega)) (by omega))) ?_
            refine L.va rfl (X.load rfl sc_4 (Ld.bool hrl hlen')) ?_
            refine L.va rfl (X.pickT rfl (by conv => lhs; whnf)) ?_
            refine L.nil ?_
            -- cond
            cases hfl : x.keep.getD i false
            · refine J.iteF rfl ?_
              refine J.skip ?_
              refine J.region ?_
              refine L.va rfl (X.move (by conv => lhs; whnf)) ?_
              refine L.va rfl (X.add rfl rfl (by omega)) ?_
              refine L.va rfl (X.assign (by conv => lhs; whnf)) ?_
              refine L.nil ?_
              -- loopend
              refine ⟨(i + 1, kA, kc), At1 (by first | rfl | exact at_int rfl (by omega) | exact at_slice rfl (by omega) | exact at_int rfl (by simp)), (by (iterate 21 refine Agr.lk rfl ?_); exact Agr.lk rfl (Agr.hav rfl Agr.rfl')), ?_⟩
              have e := hstep _ hfl
              rw [if_neg (by decide)] at e
              refine ⟨⟨by dsimp only; omega, ?_, hk39, hk49, ?_, he09, ?_⟩, by dsimp only; omega⟩
              · show Blk w9 b2 44 #[.slice kA (keI (Dk.kpF x.keep) r.kp c0 r.pp (i + 1)).length kc, .slice r.pA r.pp.length r.pc, .bool r.off, .int .i64 r.left, .int .i64 r.rd, .int .i64 r.wr, .int .i64 r.fl]
                rw [e]
                exact hk9
              · show At (rc r x.keep (i + 1) kA kc) N w9
                unfold rc
                rw [e]
                exact hR9
              · show Fr (rc r x.keep (i + 1) kA kc) r w
                unfold rc
                rw [e]
                exact hF9
            · refine J.iteT rfl ?_
              refine J.draw (ℓ := 14) (S := Ext w9) mixed (fun w10 hS hS_h => ?_)
              -- t45
              -- t51
              refine D.va 0 rfl (by kernel_rfl) (fun _ _ _ h => h) rfl (fun w' hw => (by first | exact X.loadAgg rfl (range_l (hk9.ext hw)) Try.underlying44 rfl (by kernel_rfl) | exact X.loadAgg rfl (range_blk (hk9.ext hw)) Try.underlying44 rfl (by kernel_rfl) | exact X.loadAgg rfl (range_l (hk39.ext hw)) Try.underlying44 rfl (by kernel_rfl) | exact X.loadAgg rfl (range_blk (hk39.ext hw)) Try.underlying44 rfl (by kernel_rfl))) hS ?_
              refine D.va 1 rfl (by kernel_rfl) (fun _ _ _ h => h) rfl (fun w' hw => X.fieldAddr rfl Try.underlying44 rfl sz_42 (by decide)) hS ?_
              refine D.va 2 rfl (by kernel_rfl) (fun _ _ _ h => h) rfl (fun w' hw => X.load rfl sc_42 (by first | exact Ld.blk (hk9.ext hw) rfl | exact Ld.blk (hk39.ext hw) rfl | exact hpA)) hS ?_
              refine D.va 3 rfl (by kernel_rfl) (fun _ _ _ h => h) rfl (fun w' hw => X.move (by conv => lhs; whnf)) hS ?_
              refine D.va 4 rfl (by kernel_rfl) (fun _ _ _ h => h) rfl (fun w' hw => (by first | exact X.indexAddrn rfl rfl Try.underlying42 sz_178 (by first | exact Option.some_ne_none _ | exact hpA) (by omega) | exact X.indexAddr rfl rfl Try.underlying42 sz_178 (by first | exact Option.some_ne_none _ | exact hpA) (by omega))) hS ?_
              refine D.va 5 rfl (by kernel_rfl) (fun _ _ _ h => h) rfl (fun w' hw => X.fieldP rfl Try.underlying178 rfl sz_3 (by decide) (by first | exact Option.some_ne_none _ | exact hpA)) hS ?_
              refine D.va 6 rfl (by kernel_rfl) (fun _ _ _ h => h) rfl (fun w' hw => X.load rfl sc_3 ((hR9.ext hw).pLdA hil)) hS ?_
              refine D.va 7 rfl (by kernel_rfl) (fun _ _ _ h => h) rfl (fun w' hw => X.fieldAddr rfl Try.underlying44 rfl sz_42 (by decide)) hS ?_
              refine D.va 8 rfl (by kernel_rfl) (fun _ _ _ h => h) rfl (fun w' hw => X.load rfl sc_42 (by first | exact Ld.blk (hk9.ext hw) rfl | exact Ld.blk (hk39.ext hw) rfl | exact hpA)) hS ?_
              refine D.va 9 rfl (by kernel_rfl) (fun _ _ _ h => h) rfl (fun w' hw => X.move (by conv => lhs; whnf)) hS ?_
              refine D.va 10 rfl (by kernel_rfl) (fun _ _ _ h => h) rfl (fun w' hw => (by first | exact X.indexAddrn rfl rfl Try.underlying42 sz_178 (by first | exact Option.some_ne_none _ | exact hpA) (by omega) | exact X.indexAddr rfl rfl Try.underlying42 sz_178 (by first | exact Option.some_ne_none _ | exact hpA) (by omega))) hS ?_
              refine D.va 11 rfl (by kernel_rfl) (fun _ _ _ h => h) rfl (fun w' hw => X.fieldP rfl Try.underlying178 rfl sz_30 (by decide) (by first | exact Option.some_ne_none _ | exact hpA)) hS ?_
              refine D.va 12 rfl (by kernel_rfl) (fun _ _ _ h => h) rfl (fun w' hw => X.load rfl sc_30 ((hR9.ext hw).pLdB hil)) hS ?_
              -- callfn bushel/bushelref19.With
              refine D.one 13 (by kernel_rfl) rfl ?_
              refine L.call rfl en_102 rfl (((hR9.ext hS).with_ _ _ rfl hpd.1 (r.pp.getD i p0).2 (hpd.2.ext hS hR9.hN))) ?_
              rintro e w11 ⟨kA', kc', rfl, hR11, he11, hf11⟩
              refine ⟨_, rfl, ?_⟩
              have hS1 := hS.trans he11
              refine L.nil ?_
              refine ⟨fun _ => hS1, ?_⟩
              have hk9b := hk9.ext hS1
              have hk39b := hk39.ext hS1
              have hk49b := hk49.ext hS1
              -- store
              refine D.one 14 (by kernel_rfl) rfl ?_
              refine L.storeAgg (vs := [_, _, _, _, _, _, _]) rfl rfl rfl rfl sz_44 (hk9b) rfl ?_
              intro w12 hk12 hg12 hs12
              refine L.nil ?_
              refine ⟨fun h => absurd rfl h, ?_⟩
              refine D.done (by kernel_rfl) ?_
              refine J.region ?_
              refine L.va rfl (X.move (by conv => lhs; whnf)) ?_
              refine L.va rfl (X.add rfl rfl (by omega)) ?_
              refine L.va rfl (X.assign (by conv => lhs; whnf)) ?_
              refine L.nil ?_
              -- loopend
              refine ⟨(i + 1, kA', kc'), At1 (by first | rfl | exact at_int rfl (by omega) | exact at_slice rfl (by omega) | exact at_int rfl (by simp)), (by (iterate 35 refine Agr.lk rfl ?_); exact Agr.lk rfl (Agr.hav rfl Agr.rfl')), ?_⟩
              have e := hstep _ hfl
              rw [if_pos rfl] at e
              have he0 : Ext w w12 := (he09.trans hS1).grw hg12 g2
              have hR12 := hR11.blk hk9b hg12 (by have := g2 b2 rfl; omega)
              have hlen2 : (keI (Dk.kpF x.keep) r.kp c0 r.pp (i + 1)).length = (keI (Dk.kpF x.keep) r.kp c0 r.pp i).length := by rw [keI_length, keI_length]
              refine ⟨⟨by dsimp only; omega, ?_, (hk39b.grown hg12 n23.symm), (hk49b.grown hg12 n24.symm), ?_, he0, fun g hg => .inr ?_⟩, by dsimp only; omega⟩
              · show Blk w12 b2 44 #[.slice kA' (keI (Dk.kpF x.keep) r.kp c0 r.pp (i + 1)).length kc', .slice r.pA r.pp.length r.pc, .bool r.off, .int .i64 r.left, .int .i64 r.rd, .int .i64 r.wr, .int .i64 r.fl]
                rw [e]
                exact hk12
              · show At (rc r x.keep (i + 1) kA' kc') N w12
                unfold rc
                rw [e]
                exact hR12
              · have hg' : Value.ownBlock (.slice kA' (keI (Dk.kpF x.keep) r.kp c0 r.pp (i + 1)).length kc') = some g := hg
                rw [hlen2] at hg'
                have k1 := hf11 g hg'
                have := Ext.le hS
                omega
          · have hfl : x.keep.getD i false = false := by
              rw [List.getD, List.getElem?_eq_none (by dsimp only at hlen; omega)]
              rfl
            refine L.no rfl ?_
            refine L.no rfl ?_
            refine L.no rfl ?_
            refine L.no rfl ?_
            refine L.no rfl ?_
            refine L.va rfl (X.pickF rfl (by conv => lhs; whnf)) ?_
            refine L.nil ?_
            -- cond
            refine J.iteF rfl ?_
            refine J.skip ?_
            refine J.region ?_
            refine L.va rfl (X.move (by conv => lhs; whnf)) ?_
            refine L.va rfl (X.add rfl rfl (by omega)) ?_
            refine L.va rfl (X.assign (by conv => lhs; whnf)) ?_
            refine L.nil ?_
            -- loopend
            refine ⟨(i + 1, kA, kc), At1 (by first | rfl | exact at_int rfl (by omega) | exact at_slice rfl (by omega) | exact at_int rfl (by simp)), (by (iterate 21 refine Agr.lk rfl ?_); exact Agr.lk rfl (Agr.hav rfl Agr.rfl')), ?_⟩
            have e := hstep _ hfl
            rw [if_neg (by decide)] at e
            refine ⟨⟨by dsimp only; omega, ?_, hk39, hk49, ?_, he09, ?_⟩, by dsimp only; omega⟩
            · show Blk w9 b2 44 #[.slice kA (keI (Dk.kpF x.keep) r.kp c0 r.pp (i + 1)).length kc, .slice r.pA r.pp.length r.pc, .bool r.off, .int .i64 r.left, .int .i64 r.rd, .int .i64 r.wr, .int .i64 r.fl]
              rw [e]
              exact hk9
            · show At (rc r x.keep (i + 1) kA kc) N w9
              unfold rc
              rw [e]
              exact hR9
            · show Fr (rc r x.keep (i + 1) kA kc) r w
              unfold rc
              rw [e]
              exact hF9
        · obtain rfl : i = r.pp.length := by dsimp only at hlt; omega
          refine J.exit ?_
          refine J.seq ?_
          refine J.region ?_
          refine L.va rfl (X.fieldAddr rfl Try.underlying44 rfl sz_42 (by decide)) ?_
          -- store
          refine L.store rfl rfl (by conv => lhs; whnf) rfl sz_42 (hk9) (by first | decide | exact Nat.le_of_ble_eq_true rfl) ?_
          intro w10 hk10 hg10 hs10
          refine L.nil ?_
          refine J.seq ?_
          refine J.region ?_
          refine L.va rfl (X.fieldAddr rfl Try.underlying44 rfl sz_4 (by decide)) ?_
          -- store
          refine L.store rfl rfl (by conv => lhs; whnf) rfl sz_4 (hk10) (by first | decide | exact Nat.le_of_ble_eq_true rfl) ?_
          intro w11 hk11 hg11 hs11
          refine L.nil ?_
          refine J.seq ?_
          refine J.region ?_
          refine L.va rfl (X.fieldAddr rfl Try.underlying44 rfl sz_3 (by decide)) ?_
          -- store
          refine L.store rfl rfl (by conv => lhs; whnf) rfl sz_3 (hk11) (by first | decide | exact Nat.le_of_ble_eq_true rfl) ?_
          intro w12 hk12 hg12 hs12
          have g3 := grb_trans (grb_trans hg10 hg11) hg12
          have hk412 := hk49.grown g3 n24.symm
          refine L.nil ?_
          refine J.seq ?_
          refine J.region ?_
          refine L.va rfl ((by first | exact X.loadAgg rfl (range_l hk12) Try.underlying44 rfl (by kernel_rfl) | exact X.loadAgg rfl (range_blk hk12) Try.underlying44 rfl (by kernel_rfl))) ?_
          -- store
          refine L.storeAgg (vs := [_, _, _, _, _, _, _]) rfl rfl rfl rfl sz_44 (hk412) rfl ?_
          intro w13 hk13 hg13 hs13
          refine L.va rfl (X.assign (by conv => lhs; whnf)) ?_
          refine L.va rfl (X.assign (by conv => lhs; whnf)) ?_
          refine L.nil ?_
          -- ret
          refine J.ret ?_
          refine thn_ret <| ?_
          -- results [['ResultVar.cell', 4, 44], ['ResultVar.tmp', 5], ['ResultVar.tmp', 6]]
          have he13 : Ext w w13 := (he09.grw g3 g2).grw hg13 g4
          have hR13 := (hR9.blk hk9 g3 (by have := g2 b2 rfl; omega)).blk hk412 hg13 (by have := g4 b4 rfl; omega)
          refine finCTT rfl (run_cell hk13 Try.underlying44 rfl (by kernel_rfl)) ?_
          unfold DoR
          rw [e0]
          refine ⟨{ rc r x.keep r.pp.length kA kc with pA := none, pc := 0, pp := [], off := false, left := -1 }, none, 0, 0, rfl, ⟨hR13.hk, own_nil _ _ _ _, hR13.kd, (fun y hy => by cases hy), hR13.h1, hR13.hN⟩, ?_, .inl ⟨rfl, rfl⟩, he13, hF9⟩
          unfold Rk.abs abs_
          dsimp only
          rw [abs_ke]
          rfl
    · have h4' : ¬ x.dd.kind = 4 := h4
      refine J.skip ?_
      refine J.seq ?_
      refine J.seq ?_
      refine J.region ?_
      refine L.va rfl (X.fieldAddr rfl Try.underlying44 rfl sz_4 (by decide)) ?_
      refine L.va rfl (X.load rfl sc_4 (by first | exact Ld.blk hk2 rfl | exact Ld.blk hk3 rfl)) ?_
      refine L.nil ?_
      -- cond
      refine J.ite rfl (fun hoff => ?_) (fun hoff => ?_)
      · have e0 : r.abs.do_ x.dd = (r.abs, [], 14) := by unfold Ds.do_; rw [if_neg h3', if_neg h4', if_pos (show r.abs.off = true from hoff)]
        refine J.seq ?_
        refine J.region ?_
        refine L.va rfl ((by first | exact X.loadAgg rfl (range_l hk2) Try.underlying44 rfl (by kernel_rfl) | exact X.loadAgg rfl (range_blk hk2) Try.underlying44 rfl (by kernel_rfl) | exact X.loadAgg rfl (range_l hk3) Try.underlying44 rfl (by kernel_rfl) | exact X.loadAgg rfl (range_blk hk3) Try.underlying44 rfl (by kernel_rfl))) ?_
        -- store
        refine L.storeAgg (vs := [_, _, _, _, _, _, _]) rfl rfl rfl rfl sz_44 (hk4) rfl ?_
        intro w6 hk6 hg6 hs6
        refine L.va rfl (X.assign (by conv => lhs; whnf)) ?_
        refine L.va rfl (X.assign (by conv => lhs; whnf)) ?_
        refine L.nil ?_
        -- ret
        refine J.ret ?_
        refine thn_ret <| ?_
        -- results [['ResultVar.cell', 4, 44], ['ResultVar.tmp', 5], ['ResultVar.tmp', 6]]
        have he6 : Ext w w6 := he04.grw hg6 g4
        refine finCTT rfl (run_cell hk6 Try.underlying44 rfl (by kernel_rfl)) ?_
        unfold DoR
        rw [e0]
        exact ⟨r, none, 0, 0, rfl, h.ext he6, rfl, .inl ⟨rfl, rfl⟩, he6, Fr.refl _ _⟩
      · have hoff' : ¬ r.abs.off = true := by rw [show r.abs.off = r.off from rfl, hoff]; decide
        have e0 : r.abs.do_ x.dd = if x.dd.kind ≠ 2 ∧ (x.dd.n < 0 ∨ (r.abs.kept.length : Int) ≤ x.dd.n) then (r.abs, [], 2) else if x.dd.kind = 0 then ({ r.abs with rd := r.abs.rd + 1 }, r.abs.now x.dd.n.toNat, 0) else if x.dd.kind = 1 ∧ x.dd.bytes.length ≠ 1024 then (r.abs, [], 6) else if r.abs.left = 0 then ({ r.abs with off := true }, [], 14) else if x.dd.kind = 1 then ({ r.abs with left := Dk.dec1 r.abs.left, wr := r.abs.wr + 1, pend := r.abs.pend ++ [(x.dd.n.toNat, x.dd.bytes)] }, [], 0) else ({ r.abs with left := Dk.dec1 r.abs.left, fl := r.abs.fl + 1, kept := keI (fun _ => true) r.abs.kept [] r.abs.pend r.abs.pend.length, pend := [] }, [], 0) := by
          unfold Ds.do_
          rw [if_neg h3', if_neg h4', if_neg hoff']
        refine J.skip ?_
        -- until
        refine J.cut (X := Unit) [5, 6, 60, 61, 62, 63, 64, 65, 66, 67, 68, 69, 70, 71, 72, 73, 74, 75, 76] (fun _ => []) (fun _ w' => w' = w4 ∧ (¬ x.dd.kind = 2 → 0 ≤ x.n ∧ x.n < r.kp.length)) ?_ ?_
        · refine J.seq ?_
          refine J.region ?_
          refine L.va rfl (X.fieldAddr rfl Try.underlying34 rfl sz_3 (by decide)) ?_
          refine L.va rfl (X.load rfl sc_3 (by first | exact Ld.blk hk2 rfl | exact Ld.blk hk3 rfl)) ?_
          refine L.va rfl (X.neq rfl rfl) ?_
          refine L.va rfl (X.move (by conv => lhs; whnf)) ?_
          -- case t63
          refine L.caseNdec (k := 63) rfl (fun k2 => ?_) (fun k2 => ?_)
          · refine L.va rfl (X.fieldAddr rfl Try.underlying34 rfl sz_3 (by decide)) ?_
            refine L.va rfl (X.load rfl sc_3 (by first | exact Ld.blk hk2 rfl | exact Ld.blk hk3 rfl)) ?_
            refine L.va rfl (X.lss rfl rfl) ?_
            refine L.va rfl (X.move (by conv => lhs; whnf)) ?_
            -- case t67
            refine L.caseDec (k := 67) rfl (fun kn => ?_) (fun kn => ?_)
            · refine L.no rfl ?_
              refine L.no rfl ?_
              refine L.no rfl ?_
              refine L.no rfl ?_
              refine L.no rfl ?_
              refine L.no rfl ?_
              refine L.va rfl (X.pickT rfl (by conv => lhs; whnf)) ?_
              refine L.va rfl (X.pickT rfl (by conv => lhs; whnf)) ?_
              refine L.nil ?_
              -- cond
              refine J.iteT rfl ?_
              have e1 : r.abs.do_ x.dd = (r.abs, [], 2) := by rw [e0, if_pos ⟨k2, .inl kn⟩]
              refine J.seq ?_
              refine J.region ?_
              refine L.va rfl ((by first | exact X.loadAgg rfl (range_l hk2) Try.underlying44 rfl (by kernel_rfl) | exact X.loadAgg rfl (range_blk hk2) Try.underlying44 rfl (by kernel_rfl) | exact X.loadAgg rfl (range_l hk3) Try.underlying44 rfl (by kernel_rfl) | exact X.loadAgg rfl (range_blk hk3) Try.underlying44 rfl (by kernel_rfl))) ?_
              -- store
              refine L.storeAgg (vs := [_, _, _, _, _, _, _]) rfl rfl rfl rfl sz_44 (hk4) rfl ?_
              intro w6 hk6 hg6 hs6
              refine L.va rfl (X.assign (by conv => lhs; whnf)) ?_
              refine L.va rfl (X.assign (by conv => lhs; whnf)) ?_
              refine L.nil ?_
              -- ret
              refine J.ret ?_
              refine thn_ret <| ?_
              -- results [['ResultVar.cell', 4, 44], ['ResultVar.tmp', 5], ['ResultVar.tmp', 6]]
              have he6 : Ext w w6 := he04.grw hg6 g4
              refine finCTT rfl (run_cell hk6 Try.underlying44 rfl (by kernel_rfl)) ?_
              unfold DoR
              rw [e1]
              exact ⟨r, none, 0, 0, rfl, h.ext he6, rfl, .inl ⟨rfl, rfl⟩, he6, Fr.refl _ _⟩
            · refine L.va rfl (X.fieldAddr rfl Try.underlying34 rfl sz_3 (by decide)) ?_
              refine L.va rfl (X.load rfl sc_3 (by first | exact Ld.blk hk2 rfl | exact Ld.blk hk3 rfl)) ?_
              refine L.va rfl (X.fieldAddr rfl Try.underlying44 rfl sz_41 (by decide)) ?_
              refine L.va rfl (X.load rfl sc_41 (by first | exact Ld.blk hk2 rfl | exact Ld.blk hk3 rfl)) ?_
              refine L.va rfl (X.len rfl Try.underlying41) ?_
              refine L.va rfl (X.geq rfl rfl) ?_
              refine L.va rfl (X.pickF rfl (by conv => lhs; whnf)) ?_
              refine L.va rfl (X.pickT rfl (by conv => lhs; whnf)) ?_
              refine L.nil ?_
              -- cond
              refine J.dec rfl (fun kg => ?_) (fun kg => ?_)
              · have e1 : r.abs.do_ x.dd = (r.abs, [], 2) := by rw [e0, if_pos ⟨k2, .inr (by rw [hkl]; exact kg)⟩]
                refine J.seq ?_
                refine J.region ?_
                refine L.va rfl ((by first | exact X.loadAgg rfl (range_l hk2) Try.underlying44 rfl (by kernel_rfl) | exact X.loadAgg rfl (range_blk hk2) Try.underlying44 rfl (by kernel_rfl) | exact X.loadAgg rfl (range_l hk3) Try.underlying44 rfl (by kernel_rfl) | exact X.loadAgg rfl (range_blk hk3) Try.underlying44 rfl (by kernel_rfl))) ?_
                -- store
                refine L.storeAgg (vs := [_, _, _, _, _, _, _]) rfl rfl rfl rfl sz_44 (hk4) rfl ?_
                intro w6 hk6 hg6 hs6
                refine L.va rfl (X.assign (by conv => lhs; whnf)) ?_
                refine L.va rfl (X.assign (by conv => lhs; whnf)) ?_
                refine L.nil ?_
                -- ret
                refine J.ret ?_
                refine thn_ret <| ?_
                -- results [['ResultVar.cell', 4, 44], ['ResultVar.tmp', 5], ['ResultVar.tmp', 6]]
                have he6 : Ext w w6 := he04.grw hg6 g4
                refine finCTT rfl (run_cell hk6 Try.underlying44 rfl (by kernel_rfl)) ?_
                unfold DoR
                rw [e1]
                exact ⟨r, none, 0, 0, rfl, h.ext he6, rfl, .inl ⟨rfl, rfl⟩, he6, Fr.refl _ _⟩
              · refine J.skip ?_
                -- cutend
                refine ⟨(), At0 , (by (iterate 18 refine Agr.lk rfl ?_); exact Agr.rfl'), ?_⟩
                exact ⟨rfl, fun _ => by omega⟩
          · refine L.no rfl ?_
            refine L.no rfl ?_
            refine L.no rfl ?_
            refine L.no rfl ?_
            refine L.no rfl ?_
            refine L.no rfl ?_
            refine L.no rfl ?_
            refine L.no rfl ?_
            refine L.no rfl ?_
            refine L.no rfl ?_
            refine L.no rfl ?_
            refine L.va rfl (X.pickF rfl (by conv => lhs; whnf)) ?_
            refine L.nil ?_
            -- cond
            refine J.iteF rfl ?_
            refine J.skip ?_
            -- cutend
            refine ⟨(), At0 , (by (iterate 17 refine Agr.lk rfl ?_); exact Agr.rfl'), ?_⟩
            exact ⟨rfl, fun h => absurd k2 h⟩
        · rintro ⟨⟩ g w5 ⟨rfl, hrange⟩
          have he5 : Ext w5 w5 := Ext.refl _
          have hnr : ¬ (x.dd.kind ≠ 2 ∧ (x.dd.n < 0 ∨ (r.abs.kept.length : Int) ≤ x.dd.n)) := by
            rintro ⟨k1, k2⟩
            have := hrange k1
            rw [hkl] at k2
            have e : x.dd.n = x.n := rfl
            omega
          rw [if_neg hnr] at e0
          refine J.seq ?_
          refine J.seq ?_
          refine J.region ?_
          refine L.va rfl (X.fieldAddr rfl Try.underlying34 rfl sz_3 (by decide)) ?_
          refine L.va rfl (X.load rfl sc_3 (by first | exact Ld.blk hk2 rfl | exact Ld.blk hk3 rfl)) ?_
          refine L.va rfl (X.eql rfl rfl) ?_
          refine L.nil ?_
          -- cond
          refine J.dec rfl (fun k0 => ?_) (fun k0 => ?_)
          · have k0' : x.dd.kind = 0 := k0
            rw [if_pos k0'] at e0
            have hr0 := hrange (by omega)
            obtain ⟨i, hi⟩ := Int.eq_ofNat_of_zero_le hr0.1
            have hik : i < r.kp.length := by omega
            have e1 : r.abs.do_ x.dd = ({ r.abs with rd := r.abs.rd + 1 }, (nowI r.kp c0 r.pp i r.pp.length).2, 0) := by
              rw [e0, abs_now, show x.dd.n.toNat = i by show x.n.toNat = i; omega]
              rfl
            refine J.seq ?_
            refine J.region ?_
            refine L.va rfl (X.fieldAddr rfl Try.underlying44 rfl sz_3 (by decide)) ?_
            refine L.va rfl (X.load rfl sc_3 (by first | exact Ld.blk hk2 rfl | exact Ld.blk hk3 rfl)) ?_
            refine L.va rfl (X.add rfl rfl (by omega)) ?_
            refine L.va rfl (X.fieldAddr rfl Try.underlying44 rfl sz_3 (by decide)) ?_
            -- store
            refine L.store rfl rfl (by conv => lhs; whnf) rfl sz_3 (hk2) (by first | decide | exact Nat.le_of_ble_eq_true rfl) ?_
            intro w6 hk6 hg6 hs6
            have hk36 := hk3.grown hg6 n23.symm
            have hk46 := hk4.grown hg6 n24.symm
            have he06 : Ext w w6 := he04.grw hg6 g2
            have H6' := h.ext he06
            have H6 : At { r with rd := r.rd + 1 } N w6 := ⟨H6'.hk, H6'.hp, H6'.kd, H6'.pd, H6'.h1, H6'.hN⟩
            refine L.nil ?_
            refine J.seq ?_
            -- draw
            have hk6' : Blk w6 b2 44 (Rk.vals { r with rd := r.rd + 1 }).toArray := hk6
            have hk36' : Blk w6 b3 34 #[.int .i64 x.kind, .int .i64 x.n, .slice x.dA x.dn x.dc, .bool x.odd, .slice x.kA x.kn x.kc] := hk36
            refine J.draw (ℓ := 1000000) (S := (fun w' => Blk w' b2 44 (Rk.vals { r with rd := r.rd + 1 }).toArray ∧ Blk w' b3 34 #[.int .i64 x.kind, .int .i64 x.n, .slice x.dA x.dn x.dc, .bool x.odd, .slice x.kA x.kn x.kc] ∧ Below w.heap.size w6 w')) mixed (fun w7 hSE hS_h => ?_)
            have hS : ((fun w' => Blk w' b2 44 (Rk.vals { r with rd := r.rd + 1 }).toArray ∧ Blk w' b3 34 #[.int .i64 x.kind, .int .i64 x.n, .slice x.dA x.dn x.dc, .bool x.odd, .slice x.kA x.kn x.kc] ∧ Below w.heap.size w6 w')) w7 := ⟨hk6'.ext hSE, hk36'.ext hSE, Below.mono hSE he06.le⟩
            -- t84
            -- t85
            -- t87
            refine D.va 0 rfl (by kernel_rfl) (fun _ _ _ h => h) rfl (fun w' hw => X.loadAgg rfl (range_l hw.1) Try.underlying44 rfl (by kernel_rfl)) hS ?_
            refine D.va 1 rfl (by kernel_rfl) (fun _ _ _ h => h) rfl (fun w' hw => X.loadAgg rfl (range_l hw.1) Try.underlying44 rfl (by kernel_rfl)) hS ?_
            refine D.va 2 rfl (by kernel_rfl) (fun _ _ _ h => h) rfl (fun w' hw => X.fieldAddr rfl Try.underlying34 rfl sz_3 (by decide)) hS ?_
            refine D.va 3 rfl (by kernel_rfl) (fun _ _ _ h => h) rfl (fun w' hw => X.load rfl sc_3 (Ld.blk hw.2.1 rfl)) hS ?_
            -- callfn bushel/bushelref19.Now
            refine D.one 4 (by kernel_rfl) rfl ?_
            refine L.call rfl en_103 rfl (((H6.ext hSE).now_ x.n i hi hik hmm1)) ?_
            rintro e w8 ⟨rfl, he8⟩
            refine ⟨_, rfl, ?_⟩
            have hS1 := And.intro (hS.1.ext he8) (And.intro (hS.2.1.ext he8) (hS.2.2.trans (Below.mono he8 (by have := he06.le; have := Ext.le hSE; omega))))
            refine L.nil ?_
            refine ⟨fun _ => hS1, ?_⟩
            -- store
            refine D.one 5 (by kernel_rfl) rfl ?_
            refine L.storeAgg (vs := [_, _, _, _, _, _, _]) rfl rfl rfl rfl sz_44 (((hk46.ext hSE).ext he8)) rfl ?_
            intro w9 hk9 hg9 hs9
            have hS2 := And.intro (hS1.1.grown hg9 n24) (And.intro (hS1.2.1.grown hg9 n34) (hS1.2.2.grown hg9 (by have := he06.le; have := Ext.le hSE; have := Ext.le he8; omega) g4))
            refine L.nil ?_
            refine ⟨fun _ => hS2, ?_⟩
            refine D.va 6 rfl (by kernel_rfl) (fun _ _ _ h => h) rfl (fun w' hw => X.assign (by conv => lhs; whnf)) hS2 ?_
            refine D.va 7 rfl (by kernel_rfl) (fun _ _ _ h => h) rfl (fun w' hw => X.assign (by conv => lhs; whnf)) hS2 ?_
            refine D.done (by kernel_rfl) ?_
            -- ret
            refine J.ret ?_
            refine thn_ret <| ?_
            -- results [['ResultVar.cell', 4, 44], ['ResultVar.tmp', 5], ['ResultVar.tmp', 6]]
            have he9 : Ext w w9 := ((he06.trans hSE).trans he8).grw hg9 g4
            have H9' := h.ext he9
            have H9 : At { r with rd := r.rd + 1 } N w9 := ⟨H9'.hk, H9'.hp, H9'.kd, H9'.pd, H9'.h1, H9'.hN⟩
            obtain ⟨A9, c9, e9, hr9⟩ := (H9.nowDat (i := i) hik _ (Nat.le_refl _)).slice H9.hN
            refine finCTT rfl (run_cell hk9 Try.underlying44 rfl (by kernel_rfl)) ?_
            unfold DoR
            rw [e1]
            exact ⟨{ r with rd := r.rd + 1 }, A9, 1024, c9, by rw [← e9]; rfl, H9, rfl, .inr ⟨rfl, by rw [← e9]; exact H9.nowDat (i := i) hik _ (Nat.le_refl _)⟩, he9, Fr.refl _ _⟩
          · have k0' : ¬ x.dd.kind = 0 := k0
            rw [if_neg k0'] at e0
            refine J.skip ?_
            -- until
            refine J.cut (X := Unit) [5, 6, 89, 90, 91, 92, 93, 94, 95, 96, 97, 98] (fun _ => []) (fun _ w' => Ext w5 w' ∧ (x.dd.kind = 1 → x.dd.bytes.length = 1024)) ?_ ?_
            · refine J.seq ?_
              refine J.region ?_
              refine L.va rfl (X.fieldAddr rfl Try.underlying34 rfl sz_3 (by decide)) ?_
              refine L.va rfl (X.load rfl sc_3 (by first | exact Ld.blk hk2 rfl | exact Ld.blk hk3 rfl)) ?_
              refine L.va rfl (X.eql rfl rfl) ?_
              refine L.va rfl (X.move (by conv => lhs; whnf)) ?_
              -- case t92
              refine L.caseDec (k := 92) rfl (fun k1 => ?_) (fun k1 => ?_)
              · refine L.va rfl ((by first | exact X.loadAgg rfl (range_l hk2) Try.underlying34 rfl (by kernel_rfl) | exact X.loadAgg rfl (range_blk hk2) Try.underlying34 rfl (by kernel_rfl) | exact X.loadAgg rfl (range_l hk3) Try.underlying34 rfl (by kernel_rfl) | exact X.loadAgg rfl (range_blk hk3) Try.underlying34 rfl (by kernel_rfl))) ?_
                -- callfn bushel/bushelref19.Bytes
                refine L.call rfl en_24 rfl (((hx.low (Below.mono he04 h.hN)).bytes_ H4.hN hdn)) ?_
                rintro e w6 ⟨A, c, rfl, hrb, hD, he6⟩
                refine ⟨_, rfl, ?_⟩
                have he6 : Ext w5 w6 := he6
                replace hk2 := hk2.ext he6
                replace hk3 := hk3.ext he6
                have hk46 := hk4.ext he6
                refine L.va rfl (X.len rfl Try.underlying30) ?_
                refine L.va rfl (X.neq rfl rfl) ?_
                refine L.va rfl (X.pickT rfl (by conv => lhs; whnf)) ?_
                refine L.nil ?_
                -- cond
                refine J.ndec rfl (fun hl => ?_) (fun hl => ?_)
                · have hl' : x.dd.bytes.length ≠ 1024 := by omega
                  have e1 : r.abs.do_ x.dd = (r.abs, [], 6) := by rw [e0, if_pos ⟨k1, hl'⟩]
                  refine J.seq ?_
                  refine J.region ?_
                  refine L.va rfl ((by first | exact X.loadAgg rfl (range_l hk2) Try.underlying44 rfl (by kernel_rfl) | exact X.loadAgg rfl (range_blk hk2) Try.underlying44 rfl (by kernel_rfl) | exact X.loadAgg rfl (range_l hk3) Try.underlying44 rfl (by kernel_rfl) | exact X.loadAgg rfl (range_blk hk3) Try.underlying44 rfl (by kernel_rfl))) ?_
                  -- store
                  refine L.storeAgg (vs := [_, _, _, _, _, _, _]) rfl rfl rfl rfl sz_44 (hk46) rfl ?_
                  intro w7 hk7 hg7 hs7
                  refine L.va rfl (X.assign (by conv => lhs; whnf)) ?_
                  refine L.va rfl (X.assign (by conv => lhs; whnf)) ?_
                  refine L.nil ?_
                  -- ret
                  refine J.ret ?_
                  refine thn_ret <| ?_
                  -- results [['ResultVar.cell', 4, 44], ['ResultVar.tmp', 5], ['ResultVar.tmp', 6]]
                  have he7 : Ext w w7 := (he04.trans he6).grw hg7 g4
                  refine finCTT rfl (run_cell hk7 Try.underlying44 rfl (by kernel_rfl)) ?_
                  unfold DoR
                  rw [e1]
                  exact ⟨r, none, 0, 0, rfl, h.ext he7, rfl, .inl ⟨rfl, rfl⟩, he7, Fr.refl _ _⟩
                · refine J.skip ?_
                  -- cutend
                  refine ⟨(), At0 , (by (iterate 10 refine Agr.lk rfl ?_); exact Agr.rfl'), ?_⟩
                  exact ⟨he6, fun _ => by omega⟩
              · refine L.no rfl ?_
                refine L.no rfl ?_
                refine L.no rfl ?_
                refine L.no rfl ?_
                refine L.va rfl (X.pickF rfl (by conv => lhs; whnf)) ?_
                refine L.nil ?_
                -- cond
                refine J.iteF rfl ?_
                refine J.skip ?_
                -- cutend
                refine ⟨(), At0 , (by (iterate 10 refine Agr.lk rfl ?_); exact Agr.rfl'), ?_⟩
                exact ⟨Ext.refl _, fun h => absurd h k1⟩
            · rintro ⟨⟩ g w6 ⟨he6, hby⟩
              have hnb : ¬ (x.dd.kind = 1 ∧ x.dd.bytes.length ≠ 1024) := fun ⟨q1, q2⟩ => q2 (hby q1)
              rw [if_neg hnb] at e0
              have he6 : Ext w5 w6 := he6
              have he06 := he04.trans he6
              have hk26 := hk2.ext he6
              have hk36 := hk3.ext he6
              have hk46 := hk4.ext he6
              refine J.seq ?_
              refine J.seq ?_
              refine J.region ?_
              refine L.va rfl (X.fieldAddr rfl Try.underlying44 rfl sz_3 (by decide)) ?_
              refine L.va rfl (X.load rfl sc_3 (by first | exact Ld.blk hk26 rfl | exact Ld.blk hk36 rfl)) ?_
              refine L.va rfl (X.eql rfl rfl) ?_
              refine L.nil ?_
              -- cond
              refine J.dec rfl (fun hz => ?_) (fun hz => ?_)
              · have e1 : r.abs.do_ x.dd = ({ r.abs with off := true }, [], 14) := by rw [e0, if_pos (show r.abs.left = 0 from hz)]
                refine J.seq ?_
                refine J.region ?_
                refine L.va rfl (X.fieldAddr rfl Try.underlying44 rfl sz_4 (by decide)) ?_
                -- store
                refine L.store rfl rfl (by conv => lhs; whnf) rfl sz_4 (hk26) (by first | decide | exact Nat.le_of_ble_eq_true rfl) ?_
                intro w7 hk7 hg7 hs7
                have hk47 := hk46.grown hg7 n24.symm
                refine L.nil ?_
                refine J.seq ?_
                refine J.region ?_
                refine L.va rfl ((by first | exact X.loadAgg rfl (range_l hk7) Try.underlying44 rfl (by kernel_rfl) | exact X.loadAgg rfl (range_blk hk7) Try.underlying44 rfl (by kernel_rfl))) ?_
                -- store
                refine L.storeAgg (vs := [_, _, _, _, _, _, _]) rfl rfl rfl rfl sz_44 (hk47) rfl ?_
                intro w8 hk8 hg8 hs8
                refine L.va rfl (X.assign (by conv => lhs; whnf)) ?_
                refine L.va rfl (X.assign (by conv => lhs; whnf)) ?_
                refine L.nil ?_
                -- ret
                refine J.ret ?_
                refine thn_ret <| ?_
                -- results [['ResultVar.cell', 4, 44], ['ResultVar.tmp', 5], ['ResultVar.tmp', 6]]
                have he8 : Ext w w8 := (he06.grw hg7 g2).grw hg8 g4
                have H8 := h.ext he8
                refine finCTT rfl (run_cell hk8 Try.underlying44 rfl (by kernel_rfl)) ?_
                unfold DoR
                rw [e1]
                exact ⟨{ r with off := true }, none, 0, 0, rfl, ⟨H8.hk, H8.hp, H8.kd, H8.pd, H8.h1, H8.hN⟩, rfl, .inl ⟨rfl, rfl⟩, he8, Fr.refl _ _⟩
              · rw [if_neg (show ¬ r.abs.left = 0 from hz)] at e0
                refine J.skip ?_
                -- until
                refine J.cut (X := Unit) [104, 105, 106, 107, 108, 109, 110] (fun _ => []) (fun _ w' => Blk w' b2 44 #[r.K, r.P, .bool r.off, .int .i64 (Dk.dec1 r.left), .int .i64 r.rd, .int .i64 r.wr, .int .i64 r.fl] ∧ Blk w' b3 34 x.vals.toArray ∧ Blk w' b4 44 #[.slice none 0 0, .slice none 0 0, .bool false, .int .i64 0, .int .i64 0, .int .i64 0, .int .i64 0] ∧ Ext w w') ?_ ?_
                · refine J.seq ?_
                  refine J.region ?_
                  refine L.va rfl (X.fieldAddr rfl Try.underlying44 rfl sz_3 (by decide)) ?_
                  refine L.va rfl (X.load rfl sc_3 (by first | exact Ld.blk hk26 rfl | exact Ld.blk hk36 rfl)) ?_
                  refine L.va rfl (X.gtr rfl rfl) ?_
                  refine L.nil ?_
                  -- cond
                  refine J.dec rfl (fun hpos => ?_) (fun hpos => ?_)
                  · refine J.region ?_
                    refine L.va rfl (X.fieldAddr rfl Try.underlying44 rfl sz_3 (by decide)) ?_
                    refine L.va rfl (X.load rfl sc_3 (by first | exact Ld.blk hk26 rfl | exact Ld.blk hk36 rfl)) ?_
                    refine L.va rfl (X.sub rfl rfl (by omega)) ?_
                    refine L.va rfl (X.fieldAddr rfl Try.underlying44 rfl sz_3 (by decide)) ?_
                    -- store
                    refine L.store rfl rfl (by conv => lhs; whnf) rfl sz_3 (hk26) (by first | decide | exact Nat.le_of_ble_eq_true rfl) ?_
                    intro w7 hk7 hg7 hs7
                    refine L.nil ?_
                    -- cutend
                    refine ⟨(), At0 , (by (iterate 7 refine Agr.lk rfl ?_); exact Agr.rfl'), ?_⟩
                    refine ⟨?_, hk36.grown hg7 n23.symm, hk46.grown hg7 n24.symm, he06.grw hg7 g2⟩
                    rw [show Dk.dec1 r.left = r.left - 1 from if_pos hpos]
                    exact hk7
                  · refine J.skip ?_
                    -- cutend
                    refine ⟨(), At0 , (by (iterate 3 refine Agr.lk rfl ?_); exact Agr.rfl'), ?_⟩
                    refine ⟨?_, hk36, hk46, he06⟩
                    rw [show Dk.dec1 r.left = r.left from if_neg hpos]
                    exact hk26
                · rintro ⟨⟩ g w7 ⟨hk27, hk37, hk47, he07⟩
                  have hk37 : Blk w7 b3 34 #[.int .i64 x.kind, .int .i64 x.n, .slice x.dA x.dn x.dc, .bool x.odd, .slice x.kA x.kn x.kc] := hk37
                  refine J.seq ?_
                  refine J.seq ?_
                  refine J.region ?_
                  refine L.va rfl (X.fieldAddr rfl Try.underlying34 rfl sz_3 (by decide)) ?_
                  refine L.va rfl (X.load rfl sc_3 (by first | exact Ld.blk hk27 rfl | exact Ld.blk hk37 rfl)) ?_
                  refine L.va rfl (X.eql rfl rfl) ?_
                  refine L.nil ?_
                  -- cond
                  refine J.dec rfl (fun k1 => ?_) (fun k1 => ?_)
                  · have k1' : x.dd.kind = 1 := k1
                    rw [if_pos k1'] at e0
                    have hby1 := hby k1'
                    have hr0 := hrange (by omega)
                    obtain ⟨i, hi⟩ := Int.eq_ofNat_of_zero_le hr0.1
                    have hik : i < r.kp.length := by omega
                    refine J.seq ?_
                    refine J.region ?_
                    refine L.va rfl (X.fieldAddr rfl Try.underlying44 rfl sz_3 (by decide)) ?_
                    refine L.va rfl (X.load rfl sc_3 (by first | exact Ld.blk hk27 rfl | exact Ld.blk hk37 rfl)) ?_
                    refine L.va rfl (X.add rfl rfl (by omega)) ?_
                    refine L.va rfl (X.fieldAddr rfl Try.underlying44 rfl sz_3 (by decide)) ?_
                    -- store
                    refine L.store rfl rfl (by conv => lhs; whnf) rfl sz_3 (hk27) (by first | decide | exact Nat.le_of_ble_eq_true rfl) ?_
                    intro w8 hk8 hg8 hs8
                    have hk38 := hk37.grown hg8 n23.symm
                    have hk48 := hk47.grown hg8 n24.symm
                    have he08 : Ext w w8 := he07.grw hg8 g2
                    have H8 := h.ext he08
                    have X8 := hx.low (Below.mono he08 h.hN)
                    have hk8 : Blk w8 b2 44 #[r.K, r.P, .bool r.off, .int .i64 (Dk.dec1 r.left), .int .i64 r.rd, .int .i64 (r.wr + 1), .int .i64 r.fl] := hk8
                    have hN8 := H8.hN
                    have hpone := h.pone
                    refine L.nil ?_
                    -- until
                    refine J.cut (X := Option Addr × Nat × Value) [118, 119, 120, 121, 122, 123, 124, 125, 126, 127, 128, 129] (fun _ => []) (fun y w' => Blk w' b2 44 #[r.K, .slice y.1 (r.pp.length + 1) y.2.1, .bool r.off, .int .i64 (Dk.dec1 r.left), .int .i64 r.rd, .int .i64 (r.wr + 1), .int .i64 r.fl] ∧ w'.ownsRow N 178 2 (.slice y.1 (r.pp.length + 1) y.2.1) (r.pp.length + 1) (pcs (r.pp ++ [(i, (y.2.2, x.dd.bytes))])) ∧ RD N w' y.2.2 x.dd.bytes ∧ Blk w' b4 44 #[.slice none 0 0, .slice none 0 0, .bool false, .int .i64 0, .int .i64 0, .int .i64 0, .int .i64 0] ∧ Ext w w') ?_ ?_
                    · -- draw
                      refine J.draw (ℓ := 12) (S := Ext w8) mixed (fun w9 hS hS_h => ?_)
                      have z9 := hS.le
                      refine D.va 1 rfl (by kernel_rfl) (fun _ _ _ h => h) rfl (fun w' hw => X.fieldAddr rfl Try.underlying44 rfl sz_42 (by decide)) hS ?_
                      refine D.va 2 rfl (by kernel_rfl) (fun _ _ _ h => h) rfl (fun w' hw => X.load rfl sc_42 (by first | exact Ld.blk (hk8.ext hw) rfl | exact Ld.blk (hk38.ext hw) rfl)) hS ?_
                      refine D.va 4 rfl (by kernel_rfl) (fun _ _ _ h => h) rfl (fun w' hw => X.fieldAddr rfl Try.underlying34 rfl sz_3 (by decide)) hS ?_
                      refine D.va 5 rfl (by kernel_rfl) (fun _ _ _ h => h) rfl (fun w' hw => X.load rfl sc_3 (by first | exact Ld.blk (hk8.ext hw) rfl | exact Ld.blk (hk38.ext hw) rfl)) hS ?_
                      refine D.va 6 rfl (by kernel_rfl) (fun _ _ _ h => h) rfl (fun w' hw => (by first | exact X.loadAgg rfl (range_l (hk8.ext hw)) Try.underlying34 rfl (by kernel_rfl) | exact X.loadAgg rfl (range_blk (hk8.ext hw)) Try.underlying34 rfl (by kernel_rfl) | exact X.loadAgg rfl (range_l (hk38.ext hw)) Try.underlying34 rfl (by kernel_rfl) | exact X.loadAgg rfl (range_blk (hk38.ext hw)) Try.underlying34 rfl (by kernel_rfl))) hS ?_
                      have z18 := (hS).le
                      refine D.one 0 (by kernel_rfl) rfl ?_
                      refine L.bsliceR (ls := []) rfl Evs.nil rfl rfl rfl rfl Try.underlying42 sz_178 zr_178 (by decide) ?_
                      intro bA wA hbA hsA hkA heA
                      have hS1 := (hS).trans heA
                      refine L.nil ?_
                      refine ⟨fun _ => hS1, ?_⟩
                      have hoA : wA.ownsRow w8.heap.size 178 2 (.slice (some ⟨bA, 0, none⟩) 0 0) 0 [] := blk_own (size := 2) hkA (by omega : w8.heap.size ≤ bA) (Nat.le_refl _) (by decide) rfl
                      try replace hDB := hDB.ext heA (by omega)
                      try replace hkC := hkC.ext heA
                      have z21 := (hS1).le
                      refine D.one 3 (by kernel_rfl) rfl ?_
                      refine L.appendV (q := r.pp.length) (ys := pcs r.pp) rfl rfl rfl Try.underlying42 el_178 (hoA) ((H8.ext hS1).pRd) (by first | rfl | exact strs_ones _ | assumption) (by omega) (by simp) (by unfold maxLen; omega) (by omega) ?_
                      intro A1 c1 w1 ho1 hg1 hb1 hor1
                      have hS2 := (hS1).grw hg1 (fun g hg ↦ (own_isT hoA hg).2)
                      refine L.nil ?_
                      refine ⟨fun _ => hS2, ?_⟩
                      try replace hDB := hDB.own hoA hg1 hN8 (by omega) (by decide)
                      try replace hkC := hkC.grown hg1 (show some bC ≠ some bA from by intro e; injection e with e; omega)
                      have z1 := hg1.size
                      have z25 := (hS2).le
                      refine D.one 7 (by kernel_rfl) rfl ?_
                      refine L.call rfl en_24 rfl (((X8.low (Below.mono hS2 hN8)).bytes_ (by omega) hdn)) ?_
                      rintro e wB ⟨AB, cB, rfl, hrB, hDB, heB⟩
                      refine ⟨_, rfl, ?_⟩
                      have hS3 := (hS2).trans heB
                      refine L.nil ?_
                      refine ⟨fun _ => hS3, ?_⟩
                      have heB : Ext _ wB := heB
                      replace hDB := hDB hby1
                      rw [hby1]
                      have zB := heB.le
                      try replace hoA := hoA.ext heB
                      try replace ho1 := ho1.ext heB
                      refine D.va 8 rfl (by kernel_rfl) (fun _ _ _ h => h) rfl (fun w' hw => X.build (l := [_, _]) (Evs.cons (by conv => lhs; whnf) (Evs.cons (by conv => lhs; whnf) Evs.nil)) (bld_run Try.underlying178 (bp_178 Try.underlying178) zr_178 rfl)) hS3 ?_
                      have z27 := (hS3).le
                      refine D.one 9 (by kernel_rfl) rfl ?_
                      refine L.bslice1 (l := [_, _]) rfl rfl rfl Try.underlying42 sz_178 zr_178 rfl ?_
                      intro bC wC hbC hsC hkC heC
                      have hS4 := (hS3).trans heC
                      refine L.nil ?_
                      refine ⟨fun _ => hS4, ?_⟩
                      replace hDB := hDB.ext heC (by omega)
                      try replace hoA := hoA.ext heC
                      try replace ho1 := ho1.ext heC
                      have z28 := (hS4).le
                      refine D.one 10 (by kernel_rfl) rfl ?_
                      refine L.appendV (q := r.pp.length + 1) (ys := pcs r.pp ++ [.int .i64 x.n, .slice AB 1024 cB]) rfl rfl rfl Try.underlying42 el_178 (ho1) ((blk_readsN (sz := 2) (q := 1) (l := [.int .i64 x.n, .slice AB 1024 cB]) hkC hkC.lt rfl)) (by first | rfl | exact strs_ones _ | assumption) (by omega) (by simp) (by unfold maxLen; omega) (by omega) ?_
                      intro A2 c2 w2 ho2 hg2 hb2 hor2
                      have hS5 := (hS4).grw hg2 (fun g hg ↦ (own_isT ho1 hg).2)
                      refine L.nil ?_
                      refine ⟨fun _ => hS5, ?_⟩
                      replace hDB := hDB.own ho1 hg2 hN8 (by omega) (by decide)
                      have hkF := hk8.ext hS5
                      have hkG := hk48.ext hS5
                      have heF := he08.trans hS5
                      refine D.va 11 rfl (by kernel_rfl) (fun _ _ _ h => h) rfl (fun w' hw => X.fieldAddr rfl Try.underlying44 rfl sz_42 (by decide)) hS5 ?_
                      refine D.one 12 (by kernel_rfl) rfl ?_
                      refine L.store rfl rfl (by conv => lhs; whnf) rfl sz_42 (hkF) (by first | decide | exact Nat.le_of_ble_eq_true rfl) ?_
                      intro w3 hk3 hg3 hs3
                      refine L.nil ?_
                      refine ⟨fun h => absurd rfl h, ?_⟩
                      refine D.done (by kernel_rfl) ?_
                      replace hk8 := hk8.ext hS5
                      replace hk38 := hk38.ext hS5
                      refine ⟨(A2, c2, .slice AB 1024 cB), At0 , (by (iterate 12 refine Agr.lk rfl ?_); exact Agr.rfl'), ?_⟩
                      refine ⟨hk3, ?_, ?_, hkG.grown hg3 n24.symm, heF.grw hg3 g2⟩
                      · have := (ho2.kept hg3 (.inr (own_blk_ne ho2 hkF (by decide)))).mono hN8
                        rw [← pcs_append]
                        rw [hi] at this
                        exact this
                      · exact hDB.blk hkF hg3 (by have := g2 b2 rfl; omega) (by have := heF.le; omega) (by decide)
                    · rintro ⟨A2, c2, xB⟩ g w9 ⟨hk9, ho9, hD9, hk49, he09⟩
                      dsimp only at hk9 ho9 hD9
                      refine J.seq ?_
                      refine J.region ?_
                      refine L.va rfl ((by first | exact X.loadAgg rfl (range_l hk9) Try.underlying44 rfl (by kernel_rfl) | exact X.loadAgg rfl (range_blk hk9) Try.underlying44 rfl (by kernel_rfl))) ?_
                      -- store
                      refine L.storeAgg (vs := [_, _, _, _, _, _, _]) rfl rfl rfl rfl sz_44 (hk49) rfl ?_
                      intro w10 hk10 hg10 hs10
                      refine L.va rfl (X.assign (by conv => lhs; whnf)) ?_
                      refine L.va rfl (X.assign (by conv => lhs; whnf)) ?_
                      refine L.nil ?_
                      -- ret
                      refine J.ret ?_
                      refine thn_ret <| ?_
                      -- results [['ResultVar.cell', 4, 44], ['ResultVar.tmp', 5], ['ResultVar.tmp', 6]]
                      have he10 : Ext w w10 := he09.grw hg10 g4
                      have H10 := h.ext he10
                      have hlen : (r.pp ++ [(i, (xB, x.dd.bytes))]).length = r.pp.length + 1 := by simp
                      have hin : x.dd.n.toNat = i := by show x.n.toNat = i; omega
                      refine finCTT rfl (run_cell hk10 Try.underlying44 rfl (by kernel_rfl)) ?_
                      unfold DoR
                      rw [e0]
                      refine ⟨{ r with left := Dk.dec1 r.left, wr := r.wr + 1, pA := A2, pc := c2, pp := r.pp ++ [(i, (xB, x.dd.bytes))] }, none, 0, 0, ?_, ⟨H10.hk, ?_, H10.kd, fun y hy => ?_, H10.h1, H10.hN⟩, ?_, .inl ⟨rfl, rfl⟩, he10, Fr.refl _ _⟩
                      · unfold Rk.v Rk.vals Rk.P
                        dsimp only
                        rw [hlen]
                        rfl
                      · unfold Rk.P
                        dsimp only
                        rw [hlen]
                        exact ho9.kept hg10 (.inr (own_blk_ne ho9 hk49 (by decide)))
                      · rcases List.mem_append.1 hy with hy | hy
                        · exact H10.pd y hy
                        · obtain rfl : y = (i, (xB, x.dd.bytes)) := by simpa using hy
                          exact ⟨hik, hD9.blk hk49 hg10 (by have := g4 b4 rfl; omega) (by have := he09.le; omega) (by decide)⟩
                      · unfold Rk.abs abs_
                        dsimp only
                        rw [List.map_append, hin]
                        rfl
                  · have k1' : ¬ x.dd.kind = 1 := k1
                    rw [if_neg k1'] at e0
                    refine J.skip ?_
                    refine J.seq ?_
                    refine J.region ?_
                    refine L.va rfl (X.fieldAddr rfl Try.underlying44 rfl sz_3 (by decide)) ?_
                    refine L.va rfl (X.load rfl sc_3 (by first | exact Ld.blk hk27 rfl | exact Ld.blk hk37 rfl)) ?_
                    refine L.va rfl (X.add rfl rfl (by omega)) ?_
                    refine L.va rfl (X.fieldAddr rfl Try.underlying44 rfl sz_3 (by decide)) ?_
                    -- store
                    refine L.store rfl rfl (by conv => lhs; whnf) rfl sz_3 (hk27) (by first | decide | exact Nat.le_of_ble_eq_true rfl) ?_
                    intro w8 hk8 hg8 hs8
                    have hk48 := hk47.grown hg8 n24.symm
                    have he08 : Ext w w8 := he07.grw hg8 g2
                    have H8 := h.ext he08
                    have hk8 : Blk w8 b2 44 (rf r 0 r.kA r.kc).vals.toArray := hk8
                    have hR8 : At (rf r 0 r.kA r.kc) N w8 := ⟨H8.hk, H8.hp, H8.kd, H8.pd, H8.h1, H8.hN⟩
                    refine L.nil ?_
                    refine J.seq ?_
                    refine J.seq ?_
                    refine J.region ?_
                    refine L.va rfl (X.assign (by conv => lhs; whnf)) ?_
                    refine L.nil ?_
                    refine J.block ?_
                    -- loop
                    refine J.loop (X := Nat × Option Addr × Nat) [8, 135, 136, 137, 138, 139, 140, 141, 142, 143, 144, 145, 146, 147, 148, 149, 150, 151, 152, 153, 154, 155] (fun s => [(8, .int .i64 (s.1 : Int))]) (fun s w' => s.1 ≤ r.pp.length ∧ Blk w' b2 44 (rf r s.1 s.2.1 s.2.2).vals.toArray ∧ Blk w' b4 44 #[.slice none 0 0, .slice none 0 0, .bool false, .int .i64 0, .int .i64 0, .int .i64 0, .int .i64 0] ∧ At (rf r s.1 s.2.1 s.2.2) N w' ∧ Ext w w' ∧ Fr (rf r s.1 s.2.1 s.2.2) r w) (fun s => r.pp.length - s.1) ((0, r.kA, r.kc)) (At1 (by first | rfl | exact at_int rfl (by omega) | exact at_slice rfl (by omega) | exact at_int rfl (by simp))) ?_ ?_
                    · exact ⟨Nat.zero_le _, hk8, hk48, hR8, he08, Fr.refl _ _⟩
                    · rintro ⟨i, kA, kc⟩ g w9 ⟨hi, hk9, hk49, hR9, he09, hF9⟩
                      dsimp only at hi hk9 hR9 hF9
                      have q1 : ((i, kA, kc) : Nat × Option Addr × Nat).1 = i := rfl
                      have hk9 : Blk w9 b2 44 #[.slice kA (keI (fun _ => true) r.kp c0 r.pp i).length kc, .slice r.pA r.pp.length r.pc, .bool r.off, .int .i64 (Dk.dec1 r.left), .int .i64 r.rd, .int .i64 r.wr, .int .i64 (r.fl + 1)] := hk9
                      refine J.seq ?_
                      refine J.seq ?_
                      refine J.region ?_
                      refine L.va rfl (X.move (by conv => lhs; whnf)) ?_
                      refine L.va rfl (X.fieldAddr rfl Try.underlying44 rfl sz_42 (by decide)) ?_
                      refine L.va rfl (X.load rfl sc_42 (by first | exact Ld.blk hk9 rfl)) ?_
                      refine L.va rfl (X.len rfl Try.underlying42) ?_
                      refine L.va rfl (X.lss rfl rfl) ?_
                      refine L.nil ?_
                      -- cond
                      refine J.dec rfl (fun hlt => ?_) (fun hlt => ?_)
                      · have hil : i < r.pp.length := by dsimp only at hlt; omega
                        have hpA : r.pA ≠ none := (show Reads w9 w9.heap.size 2 r.pA r.pp.length (pcs r.pp) from hR9.pRd).some_ (by omega)
                        have hpd := hR9.pDat (i := i) hil
                        have z09 := he09.le
                        refine J.skip ?_
                        refine J.seq ?_
                        refine J.block ?_
                        -- draw
                        refine J.draw (ℓ := 14) (S := Ext w9) mixed (fun w10 hS hS_h => ?_)
                        -- t148
                        -- t154
                        refine D.va 0 rfl (by kernel_rfl) (fun _ _ _ h => h) rfl (fun w' hw => (by first | exact X.loadAgg rfl (range_l (hk9.ext hw)) Try.underlying44 rfl (by kernel_rfl) | exact X.loadAgg rfl (range_blk (hk9.ext hw)) Try.underlying44 rfl (by kernel_rfl))) hS ?_
                        refine D.va 1 rfl (by kernel_rfl) (fun _ _ _ h => h) rfl (fun w' hw => X.fieldAddr rfl Try.underlying44 rfl sz_42 (by decide)) hS ?_
                        refine D.va 2 rfl (by kernel_rfl) (fun _ _ _ h => h) rfl (fun w' hw => X.load rfl sc_42 (by first | exact Ld.blk (hk9.ext hw) rfl | exact hpA)) hS ?_
                        refine D.va 3 rfl (by kernel_rfl) (fun _ _ _ h => h) rfl (fun w' hw => X.move (by conv => lhs; whnf)) hS ?_
                        refine D.va 4 rfl (by kernel_rfl) (fun _ _ _ h => h) rfl (fun w' hw => (by first | exact X.indexAddrn rfl rfl Try.underlying42 sz_178 (by first | exact Option.some_ne_none _ | exact hpA) (by omega) | exact X.indexAddr rfl rfl Try.underlying42 sz_178 (by first | exact Option.some_ne_none _ | exact hpA) (by omega))) hS ?_
                        refine D.va 5 rfl (by kernel_rfl) (fun _ _ _ h => h) rfl (fun w' hw => X.fieldP rfl Try.underlying178 rfl sz_3 (by decide) (by first | exact Option.some_ne_none _ | exact hpA)) hS ?_
                        refine D.va 6 rfl (by kernel_rfl) (fun _ _ _ h => h) rfl (fun w' hw => X.load rfl sc_3 ((hR9.ext hw).pLdA hil)) hS ?_
                        refine D.va 7 rfl (by kernel_rfl) (fun _ _ _ h => h) rfl (fun w' hw => X.fieldAddr rfl Try.underlying44 rfl sz_42 (by decide)) hS ?_
                        refine D.va 8 rfl (by kernel_rfl) (fun _ _ _ h => h) rfl (fun w' hw => X.load rfl sc_42 (by first | exact Ld.blk (hk9.ext hw) rfl | exact hpA)) hS ?_
                        refine D.va 9 rfl (by kernel_rfl) (fun _ _ _ h => h) rfl (fun w' hw => X.move (by conv => lhs; whnf)) hS ?_
                        refine D.va 10 rfl (by kernel_rfl) (fun _ _ _ h => h) rfl (fun w' hw => (by first | exact X.indexAddrn rfl rfl Try.underlying42 sz_178 (by first | exact Option.some_ne_none _ | exact hpA) (by omega) | exact X.indexAddr rfl rfl Try.underlying42 sz_178 (by first | exact Option.some_ne_none _ | exact hpA) (by omega))) hS ?_
                        refine D.va 11 rfl (by kernel_rfl) (fun _ _ _ h => h) rfl (fun w' hw => X.fieldP rfl Try.underlying178 rfl sz_30 (by decide) (by first | exact Option.some_ne_none _ | exact hpA)) hS ?_
                        refine D.va 12 rfl (by kernel_rfl) (fun _ _ _ h => h) rfl (fun w' hw => X.load rfl sc_30 ((hR9.ext hw).pLdB hil)) hS ?_
                        -- callfn bushel/bushelref19.With
                        refine D.one 13 (by kernel_rfl) rfl ?_
                        refine L.call rfl en_102 rfl (((hR9.ext hS).with_ _ _ rfl hpd.1 (r.pp.getD i p0).2 (hpd.2.ext hS hR9.hN))) ?_
                        rintro e w11 ⟨kA', kc', rfl, hR11, he11, hf11⟩
                        refine ⟨_, rfl, ?_⟩
                        have hS1 := hS.trans he11
                        refine L.nil ?_
                        refine ⟨fun _ => hS1, ?_⟩
                        have hk9b := hk9.ext hS1
                        have hk49b := hk49.ext hS1
                        -- store
                        refine D.one 14 (by kernel_rfl) rfl ?_
                        refine L.storeAgg (vs := [_, _, _, _, _, _, _]) rfl rfl rfl rfl sz_44 (hk9b) rfl ?_
                        intro w12 hk12 hg12 hs12
                        refine L.nil ?_
                        refine ⟨fun h => absurd rfl h, ?_⟩
                        refine D.done (by kernel_rfl) ?_
                        refine J.region ?_
                        refine L.va rfl (X.move (by conv => lhs; whnf)) ?_
                        refine L.va rfl (X.add rfl rfl (by omega)) ?_
                        refine L.va rfl (X.assign (by conv => lhs; whnf)) ?_
                        refine L.nil ?_
                        -- loopend
                        refine ⟨(i + 1, kA', kc'), At1 (by first | rfl | exact at_int rfl (by omega) | exact at_slice rfl (by omega) | exact at_int rfl (by simp)), (by (iterate 22 refine Agr.lk rfl ?_); exact Agr.lk rfl (Agr.hav rfl Agr.rfl')), ?_⟩
                        have he0 : Ext w w12 := (he09.trans hS1).grw hg12 g2
                        have hR12 := hR11.blk hk9b hg12 (by have := g2 b2 rfl; omega)
                        have hlen : (keI (fun _ => true) r.kp c0 r.pp (i + 1)).length = (keI (fun _ => true) r.kp c0 r.pp i).length := by rw [keI_length, keI_length]
                        refine ⟨⟨by dsimp only; omega, ?_, (hk49b.grown hg12 n24.symm), hR12, he0, fun g hg => .inr ?_⟩, by dsimp only; omega⟩
                        · exact hk12
                        · have hg' : Value.ownBlock (.slice kA' (keI (fun _ => true) r.kp c0 r.pp (i + 1)).length kc') = some g := hg
                          rw [hlen] at hg'
                          have k1 := hf11 g hg'
                          have := Ext.le hS
                          omega
                      · obtain rfl : i = r.pp.length := by dsimp only at hlt; omega
                        refine J.exit ?_
                        refine J.seq ?_
                        refine J.region ?_
                        refine L.va rfl (X.fieldAddr rfl Try.underlying44 rfl sz_42 (by decide)) ?_
                        -- store
                        refine L.store rfl rfl (by conv => lhs; whnf) rfl sz_42 (hk9) (by first | decide | exact Nat.le_of_ble_eq_true rfl) ?_
                        intro w10 hk10 hg10 hs10
                        have hk410 := hk49.grown hg10 n24.symm
                        refine L.nil ?_
                        refine J.seq ?_
                        refine J.region ?_
                        refine L.va rfl ((by first | exact X.loadAgg rfl (range_l hk10) Try.underlying44 rfl (by kernel_rfl) | exact X.loadAgg rfl (range_blk hk10) Try.underlying44 rfl (by kernel_rfl))) ?_
                        -- store
                        refine L.storeAgg (vs := [_, _, _, _, _, _, _]) rfl rfl rfl rfl sz_44 (hk410) rfl ?_
                        intro w11 hk11 hg11 hs11
                        refine L.va rfl (X.assign (by conv => lhs; whnf)) ?_
                        refine L.va rfl (X.assign (by conv => lhs; whnf)) ?_
                        refine L.nil ?_
                        -- ret
                        refine J.ret ?_
                        -- results [['ResultVar.cell', 4, 44], ['ResultVar.tmp', 5], ['ResultVar.tmp', 6]]
                        have he11 : Ext w w11 := (he09.grw hg10 g2).grw hg11 g4
                        have hR11 := (hR9.blk hk9 hg10 (by have := g2 b2 rfl; omega)).blk hk410 hg11 (by have := g4 b4 rfl; omega)
                        refine finCTT rfl (run_cell hk11 Try.underlying44 rfl (by kernel_rfl)) ?_
                        unfold DoR
                        rw [e0]
                        refine ⟨{ rf r r.pp.length kA kc with pA := none, pc := 0, pp := [] }, none, 0, 0, rfl, ⟨hR11.hk, own_nil _ _ _ _, hR11.kd, (fun y hy => by cases hy), hR11.h1, hR11.hN⟩, ?_, .inl ⟨rfl, rfl⟩, he11, hF9⟩
                        unfold Rk.abs abs_
                        dsimp only
                        rw [abs_ke]
                        rfl
end Rk
end Go.Proofs.Ytdmfikedojgjbaa
