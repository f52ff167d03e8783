/-
  schema.Get, walked.
-/
import Derived.Test.YtlohbkcedpkjaaaWSchH
namespace Go.Proofs.Ytlohbkcedpkjaaa
set_option maxRecDepth 100000
open Go.RowKit H
open Byts Cod
set_option linter.unusedVariables false
def dS (x : List Int × Int) : ByteArray × Int := (strOfNums x.1, x.2)
def z0 : SC := ⟨[], [], [], []⟩
/-- why a schema that is read isn't right -/
def scode (c : SC) : Int := chk c.d.length c.i.length c.n.length c.v.length (c.d.map dS) (c.i.map strOfNums) (c.n.map strOfNums) c.v
def gE (zs : List Int) : Int := if rdE zs (sg3 zs).2 ≠ 0 then rdE zs (sg3 zs).2 else scode (sg zs)
def gC (zs : List Int) : SC := if gE zs ≠ 0 then z0 else sg zs
namespace Sch
def Is (s : Sch) (c : SC) : Prop := s.ds = c.d.map dS ∧ s.s1 = c.i.map strOfNums ∧ s.s2 = c.n.map strOfNums ∧ s.zs = c.v
end Sch
def SGot (zs : List Int) (w : World) (e : Ending) (w' : World) : Prop :=
  ∃ s : Sch, e = .returned (.tuple #[s.val, .int .i64 (gE zs)]) ∧ s.Here w' ∧ s.Is (gC zs) ∧ Ext w w'
def sNil : Sch := ⟨none, 0, 0, none, 0, 0, none, 0, 0, none, 0, 0, [], [], [], []⟩
theorem sNil_here (w : World) : sNil.Here w := ⟨Reads.none_, Reads.none_, Reads.none_, Reads.none_, fun i => by simp [sNil], by decide⟩
theorem SGot_bad {zs : List Int} {w w' : World} {c : Int} (h : gE zs = c) (hc : c ≠ 0) (he : Ext w w') : SGot zs w (.returned (.tuple #[.agg #[.slice none 0 0, .slice none 0 0, .slice none 0 0, .slice none 0 0], .int .i64 c])) w' := by
  refine ⟨sNil, by rw [h]; rfl, sNil_here _, ?_, he⟩
  unfold gC
  rw [if_pos (by rw [h]; exact hc)]
  exact ⟨rfl, rfl, rfl, rfl⟩
theorem dimsV_snoc (l : List (List Int × Int)) (x : List Int × Int) : dimsV ((l ++ [x]).map dS) = dimsV (l.map dS) ++ [.string (strOfNums x.1), .int .i64 x.2] := by simp [dimsV, dS]
theorem rdLD_next (zs : List Int) (k : Nat) (s : RS) : rdL (fD zs) (k + 1) s = ((rdL (fD zs) k s).1 ++ [((rdT zs 16 (rdL (fD zs) k s).2).1, (rdU zs 4096 (rdT zs 16 (rdL (fD zs) k s).2).2).1)], (rdU zs 4096 (rdT zs 16 (rdL (fD zs) k s).2).2).2) := rfl
theorem rdLU_next (zs : List Int) (k : Nat) (s : RS) : rdL (fun s => rdU zs 4294967295 s) (k + 1) s = ((rdL (fun s => rdU zs 4294967295 s) k s).1 ++ [(rdU zs 4294967295 (rdL (fun s => rdU zs 4294967295 s) k s).2).1], (rdU zs 4294967295 (rdL (fun s => rdU zs 4294967295 s) k s).2).2) := rfl
theorem nums_snoc32 (l : List Int) (x : Int) : nums .u32 (l ++ [x]) = nums .u32 l ++ [.int .u32 x] := by simp [nums]
theorem own_or {w : World} {b1 b2 e1 e2 s1 s2 n1 n2 : Nat} {v1 v2 : Value} {x1 x2 : List Value} (h1 : w.ownsRow b1 e1 s1 v1 n1 x1) (h2 : w.ownsRow b2 e2 s2 v2 n2 x2) (hne : e1 ≠ e2) : v1.ownBlock = none ∨ v1.ownBlock ≠ v2.ownBlock := by
  cases h : v1.ownBlock with
  | none => exact .inl rfl
  | some g => exact .inr (fun e => own_apart h1 h2 hne h e.symm)
theorem here_sg {zs : List Int} (hz : ∀ z ∈ zs, 0 ≤ z ∧ z < 256) {w : World} {Ad A1 A2 Av : Option Addr} {cd c1 c2 cv : Nat}
    (hd : Reads w w.heap.size 2 Ad (sg0 zs).1.length (dimsV ((sg0 zs).1.map dS))) (h1 : Reads w w.heap.size 1 A1 (sg1 zs).1.length (strs ((sg1 zs).1.map strOfNums))) (h2 : Reads w w.heap.size 1 A2 (sg2 zs).1.length (strs ((sg2 zs).1.map strOfNums))) (hv : Reads w w.heap.size 1 Av (sg3 zs).1.length (nums .u32 (sg3 zs).1)) :
    (Sch.mk Ad (sg0 zs).1.length cd A1 (sg1 zs).1.length c1 A2 (sg2 zs).1.length c2 Av (sg3 zs).1.length cv ((sg0 zs).1.map dS) ((sg1 zs).1.map strOfNums) ((sg2 zs).1.map strOfNums) (sg3 zs).1).Here w := by
  have f0 := sg0_fit hz
  have f1 := sg1_fit hz
  have f2 := sg2_fit hz
  have f3 := sg3_fit hz
  refine ⟨hd, h1, h2, hv, fun i => ?_, ?_⟩
  · show 0 ≤ (sg3 zs).1.getD i 0 ∧ (sg3 zs).1.getD i 0 < 4294967296
    rcases Nat.lt_or_ge i (sg3 zs).1.length with h | h
    · rw [List.getD, List.getElem?_eq_getElem h]
      have := f3.2.2 _ (List.getElem_mem h)
      show 0 ≤ (sg3 zs).1[i] ∧ (sg3 zs).1[i] < 4294967296
      omega
    · rw [List.getD, List.getElem?_eq_none h]; decide
  · show (sg0 zs).1.length ≤ 100 ∧ (sg1 zs).1.length ≤ 100 ∧ (sg2 zs).1.length ≤ 100 ∧ (sg3 zs).1.length ≤ 100
    omega
theorem sget_ (A : Option Addr) (n c : Nat) (zs : List Int) (w : World) (hr : Reads w w.heap.size 1 A n (nums .u8 zs)) (hz : ∀ z ∈ zs, 0 ≤ z ∧ z < 256) (hn : n ≤ 1000000) :
    Calls Try.prog 37 #[.slice A n c] w (SGot zs w) := by
  have f0 := rdU_fit hz 6 (by decide) (sfit0 zs)
  have g0 := sg0_fit hz
  have g1 := sg1_fit hz
  have g2 := sg2_fit hz
  have g3 := sg3_n hz
  have g4 := sg3_fit hz
  obtain ⟨k0, hk0⟩ : ∃ k : Nat, (rdU zs 6 (0, 0)).1 = (k : Int) := ⟨(rdU zs 6 (0, 0)).1.toNat, by omega⟩
  have er0 : sg0 zs = rdL (fD zs) k0 (rdU zs 6 (0, 0)).2 := by unfold sg0; rw [hk0, Int.toNat_natCast]
  obtain ⟨k3, hk3⟩ : ∃ k : Nat, (rdU zs 15 (sg2 zs).2).1 = (k : Int) := ⟨(rdU zs 15 (sg2 zs).2).1.toNat, by omega⟩
  have er3 : sg3 zs = rdL (fun s => rdU zs 4294967295 s) k3 (rdU zs 15 (sg2 zs).2).2 := by unfold sg3; rw [hk3, Int.toNat_natCast]
  refine enter Try.func37 rfl (by kernel_rfl) ?_
  refine J.seq ?_
  refine J.region ?_
  -- alloc
  refine L.alloc rfl zr_34 ?_
  intro b2 w1 hb2 hs1 hk2 he1
  refine L.va rfl (X.assign (by conv => lhs; whnf)) ?_
  refine L.nil ?_
  refine J.seq ?_
  refine J.region ?_
  -- alloc
  refine L.alloc rfl zr_34 ?_
  intro b4 w2 hb4 hs2 hk4 he2
  have he02 := he1.trans he2
  have hk22 := hk2.ext he2
  refine L.nil ?_
  refine J.seq ?_
  refine J.region ?_
  refine L.va rfl (X.move (by conv => lhs; whnf)) ?_
  -- callfn bushel/buf.NewIn
  refine L.call rfl en_77 rfl (InB.new ((hr.ext he02).here (by decide)) hz hn) ?_
  rintro e w3 ⟨b, A3, c3, rfl, hI3, hb3, he3⟩
  refine ⟨_, rfl, ?_⟩
  have hk43 := hk4.ext he3
  have hk23 := hk22.ext he3
  have z3 := he3.le
  have bl3 := hI3.hk.lt
  refine L.va rfl (X.assign (by conv => lhs; whnf)) ?_
  refine L.nil ?_
  refine J.seq ?_
  refine J.seq ?_
  refine J.region ?_
  refine L.va rfl (X.move (by conv => lhs; whnf)) ?_
  -- callfn (*bushel/buf.In).U
  refine L.call rfl en_78 rfl (hI3.U 6 (by decide)) ?_
  rintro e w4 ⟨rfl, hI4, hc4⟩
  refine ⟨_, rfl, ?_⟩
  have hk44 := hc4.blk hk43 (by omega)
  have hk24 := hc4.blk hk23 (by omega)
  have z4 := hc4.size
  rw [hk0]
  have hx4 : Ext w w4 := (he02.trans he3).low (hc4.below (B := w1.heap.size) (by omega) (fun g hg => by omega)) (by omega)
  refine L.va rfl (X.move (by conv => lhs; whnf)) ?_
  refine L.nil ?_
  refine J.block ?_
  -- loop
  refine J.loop (X := Nat) [6, 12, 13, 14, 15, 16, 17, 18, 19, 20, 21, 22, 23, 24, 25, 26, 27] (fun i => [(12, .int .u64 (i : Int))]) (fun i w' => i ≤ k0 ∧ InB w' b A3 n c3 zs (rdL (fD zs) i (rdU zs 6 (0, 0)).2).2 ∧ (∃ A c, Blk w' b4 34 #[.slice A i c, .slice none 0 0, .slice none 0 0, .slice none 0 0] ∧ w'.ownsRow w1.heap.size 88 2 (.slice A i c) i (dimsV ((rdL (fD zs) i (rdU zs 6 (0, 0)).2).1.map dS))) ∧ Below w1.heap.size w4 w') (fun i => k0 - i) (0) (At1 (by first | rfl | exact at_int rfl (by omega) | exact at_slice rfl (by omega) | exact at_int rfl (by simp))) ?_ ?_
  · exact ⟨Nat.zero_le _, hI4, ⟨none, 0, hk44, own_nil _ _ _ _⟩, Below.refl _ _⟩
  · rintro i g w9 ⟨hi, hI9, ⟨A9, c9, hk9, ho9⟩, hc9⟩
    have hk29 := hk24.low hc9 (by omega)
    have z9 := hc9.size
    refine J.seq ?_
    refine J.region ?_
    refine L.va rfl (X.lss rfl rfl) ?_
    refine L.nil ?_
    refine J.seq ?_
    -- cond
    refine J.dec rfl (fun hlt => ?_) (fun hlt => ?_)
    · have f0 := hI9.hf
      have f1 := rdT_fit hz 16 (by decide) f0
      have f2 := rdU_fit hz 4096 (by decide) f1.1
      have bd1 := hI9.hk.lt
      refine J.skip ?_
      refine J.seq ?_
      refine J.block ?_
      refine J.seq ?_
      refine J.region ?_
      refine L.va rfl (X.move (by conv => lhs; whnf)) ?_
      -- callfn (*bushel/buf.In).T
      refine L.call rfl en_79 rfl (hI9.T 16 (by decide)) ?_
      rintro e wa ⟨rfl, hIa, hca⟩
      refine ⟨_, rfl, ?_⟩
      have hka := hca.blk hk9 (by omega)
      have hka2 := hca.blk hk29 (by omega)
      have hoa := hca.own ho9 (fun g hg e => own_blkne ho9 hI9.hk (by decide) (e ▸ hg))
      have za := hca.size
      have h7lt := hka.lt
      refine L.va rfl (X.build (l := [_, _]) (Evs.cons (by conv => lhs; whnf) Evs.nil) (bld_run Try.underlying88 (bp_88 Try.underlying88) zr_88 rfl)) ?_
      -- alloc
      refine L.alloc rfl zr_88 ?_
      intro b8 wb hb8 hsb hkb heb
      have hIb := hIa.ext heb
      -- store
      refine L.storeAgg (vs := [_, _]) rfl rfl rfl rfl sz_88 (hkb) rfl ?_
      intro wc hkc hgc hsc
      have hkc : Blk wc b8 88 #[.string (strOfNums (rdT zs 16 (rdL (fD zs) i (rdU zs 6 (0, 0)).2).2).1), .int .i64 0] := hkc
      have hec : Ext wa wc := heb.grw hgc (by intro g hg; injection hg with hg; omega)
      have hIc := hIa.ext hec
      replace hka := hka.ext hec
      replace hka2 := hka2.ext hec
      have hoc := hoa.ext hec
      refine L.nil ?_
      refine J.seq ?_
      refine J.region ?_
      refine L.va rfl (X.move (by conv => lhs; whnf)) ?_
      -- callfn (*bushel/buf.In).U
      refine L.call rfl en_78 rfl (hIc.U 4096 (by decide)) ?_
      rintro e wd ⟨rfl, hId, hcd⟩
      refine ⟨_, rfl, ?_⟩
      have hkd := hcd.blk hkc (by have := hIa.hk.lt; omega)
      have hkd7 := hcd.blk hka (by omega)
      have hkd2 := hcd.blk hka2 (by omega)
      have hod := hcd.own hoc (fun g hg e => own_blkne hoc hIc.hk (by decide) (e ▸ hg))
      have zd := hcd.size
      refine L.va rfl ((by first | exact X.convI rfl is_73 Try.underlying3 (by omega) | exact X.convw rfl is_73 Try.underlying3)) ?_
      refine L.va rfl (X.fieldAddr rfl Try.underlying88 rfl sz_3 (by decide)) ?_
      -- store
      refine L.store rfl rfl (by conv => lhs; whnf) rfl sz_3 (hkd) (by first | decide | exact Nat.le_of_ble_eq_true rfl) ?_
      intro we hke hge hse
      have hke : Blk we b8 88 #[.string (strOfNums (rdT zs 16 (rdL (fD zs) i (rdU zs 6 (0, 0)).2).2).1), .int .i64 (rdU zs 4096 (rdT zs 16 (rdL (fD zs) i (rdU zs 6 (0, 0)).2).2).2).1] := hke
      have hIe := hId.chg (S := (· = b8)) (.of_grown hge (fun g e => by injection e with e; exact e.symm)) (by have := hIa.hk.lt; omega) (fun g hg e => own_blkne hId.ho hkd (by decide) (e ▸ hg))
      have hoe := hod.kept hge (.inr (fun e => by have := hoa.lt _ e; omega))
      have hke7 := hkd7.grown hge (by intro e; injection e with e; omega)
      have hke2 := hkd2.grown hge (by intro e; injection e with e; omega)
      refine L.nil ?_
      refine J.region ?_
      refine L.va rfl (X.fieldAddr rfl Try.underlying34 rfl sz_30 (by decide)) ?_
      refine L.va rfl (X.load rfl sc_30 (by first | exact Ld.blk hke rfl | exact Ld.blk hke7 rfl | exact Ld.blk hke2 rfl)) ?_
      refine L.va rfl ((by first | exact X.loadAgg rfl (range_l hke) Try.underlying88 rfl (by kernel_rfl) | exact X.loadAgg rfl (range_blk hke) Try.underlying88 rfl (by kernel_rfl) | exact X.loadAgg rfl (range_l hke7) Try.underlying88 rfl (by kernel_rfl) | exact X.loadAgg rfl (range_blk hke7) Try.underlying88 rfl (by kernel_rfl) | exact X.loadAgg rfl (range_l hke2) Try.underlying88 rfl (by kernel_rfl) | exact X.loadAgg rfl (range_blk hke2) Try.underlying88 rfl (by kernel_rfl))) ?_
      -- buildSlice
      refine L.bslice1 (l := [_, _]) rfl rfl rfl Try.underlying30 sz_88 zr_88 rfl ?_
      intro b9 wf hb9 hsf hkf hef
      have hof := hoe.ext hef
      have hIf := hIe.ext hef
      replace hke := hke.ext hef
      replace hke7 := hke7.ext hef
      replace hke2 := hke2.ext hef
      -- append
      refine L.appendV (q := i + 1) (ys := _) rfl rfl rfl Try.underlying30 el_88 (hof) (blk_readsN (sz := 2) (q := 1) (l := [.string (strOfNums (rdT zs 16 (rdL (fD zs) i (rdU zs 6 (0, 0)).2).2).1), .int .i64 (rdU zs 4096 (rdT zs 16 (rdL (fD zs) i (rdU zs 6 (0, 0)).2).2).2).1]) hkf hkf.lt rfl) (by first | rfl | exact strs_ones _ | assumption) (by omega) rfl (by unfold maxLen; omega) (by omega) ?_
      intro Ag cg wg hog hgg hbg horg
      have hIg := hIf.chg (S := fun g => (Value.slice A9 i c9).ownBlock = some g) (.of_grown hgg (fun g e => e)) (own_blkne hof hIf.hk (by decide)) (fun g hg e => own_apart hIf.ho hof (by decide) hg e)
      have hkg7 := hke7.grown hgg (fun e => own_blkne hof hke7 (by decide) e.symm)
      have hkg2 := hke2.grown hgg (fun e => own_blkne hof hke2 (by decide) e.symm)
      refine L.va rfl (X.fieldAddr rfl Try.underlying34 rfl sz_30 (by decide)) ?_
      -- store
      refine L.store rfl rfl (by conv => lhs; whnf) rfl sz_30 (hkg7) (by first | decide | exact Nat.le_of_ble_eq_true rfl) ?_
      intro wh hkh hgh hsh
      have hkh : Blk wh b4 34 #[.slice Ag (i + 1) cg, .slice none 0 0, .slice none 0 0, .slice none 0 0] := hkh
      have ezr : dimsV ((rdL (fD zs) (i + 1) (rdU zs 6 (0, 0)).2).1.map dS) = dimsV ((rdL (fD zs) i (rdU zs 6 (0, 0)).2).1.map dS) ++ [.string (strOfNums (rdT zs 16 (rdL (fD zs) i (rdU zs 6 (0, 0)).2).2).1), .int .i64 (rdU zs 4096 (rdT zs 16 (rdL (fD zs) i (rdU zs 6 (0, 0)).2).2).2).1] := dimsV_snoc _ (_, _)
      rw [← ezr] at hog
      have hIh := hIg.chg (S := (· = b4)) (.of_grown hgh (fun g e => by injection e with e; exact e.symm)) (by omega) (fun g hg e => own_blkne hIg.ho hkg7 (by decide) (e ▸ hg))
      have hoh := hog.kept hgh (.inr (fun e => own_blkne hog hkg7 (by decide) e))
      refine L.nil ?_
      refine J.region ?_
      refine L.va rfl (X.addU rfl rfl (by omega)) ?_
      refine L.va rfl (X.move (by conv => lhs; whnf)) ?_
      refine L.nil ?_
      -- loopend
      refine ⟨i + 1, At1 (by first | rfl | exact at_int rfl (by omega) | exact at_slice rfl (by omega) | exact at_int rfl (by simp)), (by (iterate 17 refine Agr.lk rfl ?_); exact Agr.lk rfl (Agr.hav rfl Agr.rfl')), ?_⟩
      refine ⟨⟨by omega, hIh, ⟨Ag, cg, hkh, hoh⟩, ?_⟩, by omega⟩
      have y1 : Below w1.heap.size w9 wc := (hca.below (by omega) (fun g hg => by omega)).trans (Below.mono hec (by omega))
      have y1z := y1.size
      have y2 : Below w1.heap.size wc wd := hcd.below (by omega) (fun g hg => by omega)
      have y3 : Below w1.heap.size w9 we := Below.grown (y1.trans y2) hge (by omega) (by intro g hg; injection hg with hg; omega)
      have y3z := y3.size
      have y4 : Below w1.heap.size w9 wf := y3.trans (Below.mono hef (by omega))
      have y5 : Below w1.heap.size w9 wg := y4.trans hbg
      have y5z := y5.size
      exact hc9.trans (Below.grown y5 hgh (by omega) (by intro g hg; injection hg with hg; omega))
    · obtain rfl : i = k0 := by omega
      rw [← er0] at hI9 ho9
      have hx9 := hx4.low hc9 (by omega)
      have el : i = (sg0 zs).1.length := by rw [er0, rdL_length]
      have b9l := hI9.hk.lt
      have b49 := hk9.lt
      refine J.exit ?_
      refine J.seq ?_
      refine J.region ?_
      refine L.va rfl (X.move (by conv => lhs; whnf)) ?_
      -- callfn bushel/schema.texts
      refine L.call rfl en_80 rfl (hI9.texts 3 (by decide)) ?_
      rintro e wa ⟨A1, c1, rfl, ho1a, hIa, hca⟩
      refine ⟨_, rfl, ?_⟩
      have hka := hca.blk hk9 (by omega)
      have hka2 := hca.blk hk29 (by omega)
      have hoa := hca.own ho9 (fun g hg e => own_blkne ho9 hI9.hk (by decide) (e ▸ hg))
      have za := hca.size
      refine L.va rfl (X.fieldAddr rfl Try.underlying34 rfl sz_31 (by decide)) ?_
      -- store
      refine L.store rfl rfl (by conv => lhs; whnf) rfl sz_31 (hka) (by first | decide | exact Nat.le_of_ble_eq_true rfl) ?_
      intro wb hkb hgb hsb
      have hkb : Blk wb b4 34 #[.slice A9 i c9, .slice A1 (sg1 zs).1.length c1, .slice none 0 0, .slice none 0 0] := hkb
      have hIb := hIa.chg (S := (· = b4)) (.of_grown hgb (fun g e => by injection e with e; exact e.symm)) (by omega) (fun g hg e => own_blkne hIa.ho hka (by decide) (e ▸ hg))
      have hkb2 := hka2.grown hgb (by intro e; injection e with e; omega)
      have hob := hoa.kept hgb (.inr (fun e => own_blkne hoa hka (by decide) e))
      have ho1b := ho1a.kept hgb (.inr (fun e => own_blkne ho1a hka (by decide) e))
      refine L.nil ?_
      refine J.seq ?_
      refine J.region ?_
      refine L.va rfl (X.move (by conv => lhs; whnf)) ?_
      -- callfn bushel/schema.texts
      refine L.call rfl en_80 rfl (hIb.texts 2 (by decide)) ?_
      rintro e wc ⟨A2, c2, rfl, ho2c, hIc, hcc⟩
      refine ⟨_, rfl, ?_⟩
      have hkc := hcc.blk hkb (by omega)
      have hkc2 := hcc.blk hkb2 (by omega)
      have hoc := hcc.own hob (fun g hg e => own_blkne hob hIb.hk (by decide) (e ▸ hg))
      have ho1c := hcc.own ho1b (fun g hg e => own_blkne ho1b hIb.hk (by decide) (e ▸ hg))
      have zc := hcc.size
      refine L.va rfl (X.fieldAddr rfl Try.underlying34 rfl sz_31 (by decide)) ?_
      -- store
      refine L.store rfl rfl (by conv => lhs; whnf) rfl sz_31 (hkc) (by first | decide | exact Nat.le_of_ble_eq_true rfl) ?_
      intro wd hkd hgd hsd
      have hkd : Blk wd b4 34 #[.slice A9 i c9, .slice A1 (sg1 zs).1.length c1, .slice A2 (sg2 zs).1.length c2, .slice none 0 0] := hkd
      have hId := hIc.chg (S := (· = b4)) (.of_grown hgd (fun g e => by injection e with e; exact e.symm)) (by omega) (fun g hg e => own_blkne hIc.ho hkc (by decide) (e ▸ hg))
      have hkd2 := hkc2.grown hgd (by intro e; injection e with e; omega)
      have hod := hoc.kept hgd (.inr (fun e => own_blkne hoc hkc (by decide) e))
      have ho1d := ho1c.kept hgd (.inr (fun e => own_blkne ho1c hkc (by decide) e))
      have ho2d := ho2c.kept hgd (.inr (fun e => own_blkne ho2c hkc (by decide) e))
      refine L.nil ?_
      refine J.seq ?_
      refine J.seq ?_
      refine J.region ?_
      refine L.va rfl (X.move (by conv => lhs; whnf)) ?_
      -- callfn (*bushel/buf.In).U
      refine L.call rfl en_78 rfl (hId.U 15 (by decide)) ?_
      rintro e we ⟨rfl, hIe, hce⟩
      refine ⟨_, rfl, ?_⟩
      have hke := hce.blk hkd (by omega)
      have hke2 := hce.blk hkd2 (by omega)
      have hoe := hce.own hod (fun g hg e => own_blkne hod hId.hk (by decide) (e ▸ hg))
      have ho1e := hce.own ho1d (fun g hg e => own_blkne ho1d hId.hk (by decide) (e ▸ hg))
      have ho2e := hce.own ho2d (fun g hg e => own_blkne ho2d hId.hk (by decide) (e ▸ hg))
      have ze := hce.size
      have e15 : (rdU zs 15 (rdX zs 2 (rdX zs 3 (sg0 zs).2).2).2).1 = (k3 : Int) := hk3
      rw [e15]
      have y1 : Below w1.heap.size w9 wb := (hca.below (by omega) (fun g hg => by omega)).grown hgb (by omega) (by intro g hg; injection hg with hg; omega)
      have y2 : Below w1.heap.size w9 wd := (y1.trans (hcc.below (by omega) (fun g hg => by omega))).grown hgd (by omega) (by intro g hg; injection hg with hg; omega)
      have y3 : Below w1.heap.size w9 we := y2.trans (hce.below (by omega) (fun g hg => by omega))
      have hxe := hx9.low y3 (by omega)
      have zxe := hxe.le
      have z9e := y3.size
      -- from here on the rows are only read
      have lwe : w1.heap.size ≤ we.heap.size := by omega
      refine L.va rfl (X.move (by conv => lhs; whnf)) ?_
      refine L.nil ?_
      refine J.block ?_
      -- loop
      refine J.loop (X := Nat) [36, 37, 38, 39, 40, 41, 42, 43, 44, 45, 46] (fun j => [(36, .int .u64 (j : Int))]) (fun j w' => j ≤ k3 ∧ InB w' b A3 n c3 zs (rdL (fun s => rdU zs 4294967295 s) j (rdU zs 15 (sg2 zs).2).2).2 ∧ w'.ownsRow w1.heap.size 88 2 (.slice A9 i c9) i (dimsV ((sg0 zs).1.map dS)) ∧ w'.ownsRow w9.heap.size 9 1 (.slice A1 (sg1 zs).1.length c1) (sg1 zs).1.length (strs ((sg1 zs).1.map strOfNums)) ∧ w'.ownsRow wb.heap.size 9 1 (.slice A2 (sg2 zs).1.length c2) (sg2 zs).1.length (strs ((sg2 zs).1.map strOfNums)) ∧ (∃ A c, Blk w' b4 34 #[.slice A9 i c9, .slice A1 (sg1 zs).1.length c1, .slice A2 (sg2 zs).1.length c2, .slice A j c] ∧ w'.ownsRow w1.heap.size 35 1 (.slice A j c) j (nums .u32 (rdL (fun s => rdU zs 4294967295 s) j (rdU zs 15 (sg2 zs).2).2).1)) ∧ Below w1.heap.size we w') (fun j => k3 - j) (0) (At1 (by first | rfl | exact at_int rfl (by omega) | exact at_slice rfl (by omega) | exact at_int rfl (by simp))) ?_ ?_
      · exact ⟨Nat.zero_le _, hIe, hoe, ho1e, ho2e, ⟨none, 0, hke, own_nil _ _ _ _⟩, Below.refl _ _⟩
      · rintro j g wf ⟨hj, hIf, hof, ho1f, ho2f, ⟨Af, cf, hkf, hovf⟩, hcf⟩
        have hkf2 := hke2.low hcf (by omega)
        have zf := hcf.size
        have blf := hIf.hk.lt
        have b4f := hkf.lt
        refine J.seq ?_
        refine J.region ?_
        refine L.va rfl (X.lss rfl rfl) ?_
        refine L.nil ?_
        refine J.seq ?_
        -- cond
        refine J.dec rfl (fun hlt2 => ?_) (fun hlt2 => ?_)
        · have f0 := hIf.hf
          have f1 := rdU_fit hz 4294967295 (by decide) f0
          refine J.skip ?_
          refine J.seq ?_
          refine J.block ?_
          -- draw
          refine J.draw (ℓ := 8) (S := (fun w' => Blk w' b4 34 #[.slice A9 i c9, .slice A1 (sg1 zs).1.length c1, .slice A2 (sg2 zs).1.length c2, .slice Af j cf])) mixed (fun wg hSE hS_h => ?_)
          have hS : ((fun w' => Blk w' b4 34 #[.slice A9 i c9, .slice A1 (sg1 zs).1.length c1, .slice A2 (sg2 zs).1.length c2, .slice Af j cf])) wg := hkf.ext hSE
          -- t39
          have hIg := hIf.ext hSE
          have zg := hSE.le
          have hovg := hovf.ext hSE
          have hog := hof.ext hSE
          have ho1g := ho1f.ext hSE
          have ho2g := ho2f.ext hSE
          refine D.va 0 rfl (by kernel_rfl) (fun _ _ _ h => h) rfl (fun w' hw => X.fieldAddr rfl Try.underlying34 rfl sz_32 (by decide)) hS ?_
          refine D.va 1 rfl (by kernel_rfl) (fun _ _ _ h => h) rfl (fun w' hw => X.load rfl sc_32 (Ld.blk hw rfl)) hS ?_
          refine D.va 2 rfl (by kernel_rfl) (fun _ _ _ h => h) rfl (fun w' hw => X.move (by conv => lhs; whnf)) hS ?_
          -- callfn (*bushel/buf.In).U
          refine D.one 3 (by kernel_rfl) rfl ?_
          refine L.call rfl en_78 rfl (hIg.U 4294967295 (by decide)) ?_
          rintro e wh ⟨rfl, hIh, hch⟩
          refine ⟨_, rfl, ?_⟩
          have hS1 := hch.blk hS (by omega)
          refine L.nil ?_
          refine ⟨fun _ => hS1, ?_⟩
          have zh := hch.size
          have hovh := hch.own hovg (fun g hg e => own_blkne hovg hIg.hk (by decide) (e ▸ hg))
          have hoh := hch.own hog (fun g hg e => own_blkne hog hIg.hk (by decide) (e ▸ hg))
          have ho1h := hch.own ho1g (fun g hg e => own_blkne ho1g hIg.hk (by decide) (e ▸ hg))
          have ho2h := hch.own ho2g (fun g hg e => own_blkne ho2g hIg.hk (by decide) (e ▸ hg))
          refine D.va 4 rfl (by kernel_rfl) (fun _ _ _ h => h) rfl (fun w' hw => (by first | exact X.conv32 rfl is_73 Try.underlying35 (by omega) | exact X.convw rfl is_73 Try.underlying35)) hS1 ?_
          -- buildSlice
          refine D.one 5 (by kernel_rfl) rfl ?_
          refine L.bslice (vs := [_]) rfl (Evs.cons (by conv => lhs; whnf) Evs.nil) rfl rfl rfl rfl Try.underlying32 sz_35 zr_35 (by decide) ?_
          intro bi wi hbi hsi hki hei
          have hS2 := hS1.ext hei
          refine L.nil ?_
          refine ⟨fun _ => hS2, ?_⟩
          have hovi := hovh.ext hei
          have zi := hei.le
          have hoi := hoh.ext hei
          have ho1i := ho1h.ext hei
          have ho2i := ho2h.ext hei
          have hIi := hIh.ext hei
          -- append
          refine D.one 6 (by kernel_rfl) rfl ?_
          refine L.appendQ (q := j + 1) (ys := (rdL (fun s => rdU zs 4294967295 s) j (rdU zs 15 (sg2 zs).2).2).1 ++ [(rdU zs 4294967295 (rdL (fun s => rdU zs 4294967295 s) j (rdU zs 15 (sg2 zs).2).2).2).1]) rfl rfl rfl Try.underlying32 el_35 (hovi) (blk_readsN (sz := 1) (q := 1) (l := nums .u32 [(rdU zs 4294967295 (rdL (fun s => rdU zs 4294967295 s) j (rdU zs 15 (sg2 zs).2).2).2).1]) hki hki.lt rfl) (by omega) (by simp) (by unfold maxLen; omega) (by omega) ?_
          intro Aj cj wj hoj hgj hbj horj
          have hS3 := hS2.grown hgj (fun e ↦ own_blkne hovi hS2 (by decide) e.symm)
          refine L.nil ?_
          refine ⟨fun _ => hS3, ?_⟩
          have zj := hbj.size
          have hIj := hIi.chg (S := fun g => (Value.slice Af j cf).ownBlock = some g) (.of_grown hgj (fun g e => e)) (own_blkne hovi hIi.hk (by decide)) (fun g hg e => own_apart hIi.ho hovi (by decide) hg e)
          have hgj : wi.grownBy wj (Value.slice Af j cf).ownBlock := hgj
          have hoj0 := hoi.kept hgj (own_or hoi hovi (by decide))
          have ho1j := ho1i.kept hgj (own_or ho1i hovi (by decide))
          have ho2j := ho2i.kept hgj (own_or ho2i hovi (by decide))
          refine D.va 7 rfl (by kernel_rfl) (fun _ _ _ h => h) rfl (fun w' hw => X.fieldAddr rfl Try.underlying34 rfl sz_32 (by decide)) hS3 ?_
          -- store
          refine D.one 8 (by kernel_rfl) rfl ?_
          refine L.store rfl rfl (by conv => lhs; whnf) rfl sz_32 (hS3) (by first | decide | exact Nat.le_of_ble_eq_true rfl) ?_
          intro wk hkk hgk hsk
          refine L.nil ?_
          refine ⟨fun h => absurd rfl h, ?_⟩
          have hkk : Blk wk b4 34 #[.slice A9 i c9, .slice A1 (sg1 zs).1.length c1, .slice A2 (sg2 zs).1.length c2, .slice Aj (j + 1) cj] := hkk
          refine D.done (by kernel_rfl) ?_
          refine J.region ?_
          refine L.va rfl (X.addU rfl rfl (by omega)) ?_
          refine L.va rfl (X.move (by conv => lhs; whnf)) ?_
          refine L.nil ?_
          -- loopend
          refine ⟨j + 1, At1 (by first | rfl | exact at_int rfl (by omega) | exact at_slice rfl (by omega) | exact at_int rfl (by simp)), (by (iterate 11 refine Agr.lk rfl ?_); exact Agr.lk rfl (Agr.hav rfl Agr.rfl')), ?_⟩
          have k1 : Below w1.heap.size wf wi := ((Below.mono hSE (by omega)).trans (hch.below (by omega) (fun g hg => by omega))).trans (Below.mono hei (by omega))
          have k1z := k1.size
          have k2 : Below w1.heap.size wf wk := (k1.trans hbj).grown hgk (by omega) (by intro g hg; injection hg with hg; omega)
          exact ⟨⟨by omega, hIj.chg (S := (· = b4)) (.of_grown hgk (fun g e => by injection e with e; exact e.symm)) (by omega) (fun g hg e => own_blkne hIj.ho hS3 (by decide) (e ▸ hg)), hoj0.kept hgk (.inr (fun e => own_blkne hoj0 hS3 (by decide) e)), ho1j.kept hgk (.inr (fun e => own_blkne ho1j hS3 (by decide) e)), ho2j.kept hgk (.inr (fun e => own_blkne ho2j hS3 (by decide) e)), ⟨Aj, cj, hkk, hoj.kept hgk (.inr (fun e => own_blkne hoj hS3 (by decide) e))⟩, hcf.trans k2⟩, by omega⟩
        · obtain rfl : j = k3 := by omega
          rw [← er3] at hIf hovf
          have el3 : j = (sg3 zs).1.length := by rw [er3, rdL_length]
          subst el3
          subst el
          have hxf := hxe.low hcf (by omega)
          refine J.exit ?_
          refine J.seq ?_
          refine J.region ?_
          refine L.va rfl (X.move (by conv => lhs; whnf)) ?_
          -- callfn (*bushel/buf.In).End
          refine L.call rfl en_81 rfl (hIf.End) ?_
          rintro e wg ⟨rfl, hIg, hcg⟩
          refine ⟨_, rfl, ?_⟩
          have hkg := hcg.blk hkf (by omega)
          have hkg2 := hcg.blk hkf2 (by omega)
          have hog := hcg.own hof (fun g hg e => own_blkne hof hIf.hk (by decide) (e ▸ hg))
          have ho1g := hcg.own ho1f (fun g hg e => own_blkne ho1f hIf.hk (by decide) (e ▸ hg))
          have ho2g := hcg.own ho2f (fun g hg e => own_blkne ho2f hIf.hk (by decide) (e ▸ hg))
          have hovg := hcg.own hovf (fun g hg e => own_blkne hovf hIf.hk (by decide) (e ▸ hg))
          have hxg := hxf.low (hcg.below (B := w1.heap.size) (by omega) (fun g hg => by omega)) (by omega)
          have zg := hcg.size
          have HH := here_sg hz (cd := c9) (c1 := c1) (c2 := c2) (cv := cf) (Reads.of_own hog) (Reads.of_own ho1g) (Reads.of_own ho2g) (Reads.of_own hovg)
          refine L.va rfl (X.assign (by conv => lhs; whnf)) ?_
          refine L.nil ?_
          refine J.seq ?_
          refine J.seq ?_
          refine J.region ?_
          refine L.va rfl (X.move (by conv => lhs; whnf)) ?_
          refine L.va rfl (X.eql rfl rfl) ?_
          refine L.nil ?_
          -- cond
          refine J.dec rfl (fun h3 => ?_) (fun h3 => ?_)
          · refine J.region ?_
            refine L.va rfl ((by first | exact X.loadAgg rfl (range_l hkg) Try.underlying34 rfl (by kernel_rfl) | exact X.loadAgg rfl (range_blk hkg) Try.underlying34 rfl (by kernel_rfl) | exact X.loadAgg rfl (range_l hkg2) Try.underlying34 rfl (by kernel_rfl) | exact X.loadAgg rfl (range_blk hkg2) Try.underlying34 rfl (by kernel_rfl))) ?_
            -- callfn bushel/schema.Check
            refine L.call rfl en_74 rfl (HH.check) ?_
            rintro e wh ⟨rfl, heh⟩
            refine ⟨_, rfl, ?_⟩
            have hkh := hkg.ext heh
            have hkh2 := hkg2.ext heh
            have eg : gE zs = scode (sg zs) := by unfold gE; rw [if_neg (fun hh => hh h3)]
            have ec : (Sch.mk A9 (sg0 zs).1.length c9 A1 (sg1 zs).1.length c1 A2 (sg2 zs).1.length c2 Af (sg3 zs).1.length cf ((sg0 zs).1.map dS) ((sg1 zs).1.map strOfNums) ((sg2 zs).1.map strOfNums) (sg3 zs).1).code = gE zs := eg.symm
            rw [ec]
            refine L.va rfl (X.assign (by conv => lhs; whnf)) ?_
            refine L.nil ?_
            refine J.seq ?_
            refine J.seq ?_
            refine J.region ?_
            refine L.va rfl (X.move (by conv => lhs; whnf)) ?_
            refine L.va rfl (X.neq rfl rfl) ?_
            refine L.nil ?_
            -- cond
            refine J.ndec rfl (fun h4 => ?_) (fun h4 => ?_)
            · refine J.seq ?_
              refine J.region ?_
              refine L.va rfl (X.build (l := [_, _, _, _]) Evs.nil (bld_run Try.underlying34 (bp_34 Try.underlying34) zr_34 rfl)) ?_
              refine L.va rfl (X.move (by conv => lhs; whnf)) ?_
              -- store
              refine L.storeAgg (vs := [_, _, _, _]) rfl rfl rfl rfl sz_34 (hkh2) rfl ?_
              intro wi hki hgi hsi
              refine L.va rfl (X.assign (by conv => lhs; whnf)) ?_
              refine L.nil ?_
              -- ret
              refine J.ret ?_
              refine thn_ret <| ?_
              -- results [['ResultVar.cell', 2, 34], ['ResultVar.tmp', 3]]
              refine finCT rfl (run_cell hki Try.underlying34 rfl (by kernel_rfl)) ?_
              exact SGot_bad rfl h4 ((hxg.trans heh).grw hgi (by intro g hg; injection hg with hg; omega))
            · refine J.skip ?_
              refine J.seq ?_
              refine J.region ?_
              refine L.va rfl ((by first | exact X.loadAgg rfl (range_l hkh) Try.underlying34 rfl (by kernel_rfl) | exact X.loadAgg rfl (range_blk hkh) Try.underlying34 rfl (by kernel_rfl) | exact X.loadAgg rfl (range_l hkh2) Try.underlying34 rfl (by kernel_rfl) | exact X.loadAgg rfl (range_blk hkh2) Try.underlying34 rfl (by kernel_rfl))) ?_
              -- store
              refine L.storeAgg (vs := [_, _, _, _]) rfl rfl rfl rfl sz_34 (hkh2) rfl ?_
              intro wi hki hgi hsi
              refine L.va rfl (X.assign (by conv => lhs; whnf)) ?_
              refine L.nil ?_
              -- ret
              refine J.ret ?_
              -- results [['ResultVar.cell', 2, 34], ['ResultVar.tmp', 3]]
              refine finCT rfl (run_cell hki Try.underlying34 rfl (by kernel_rfl)) ?_
              have h4' : gE zs = 0 := h4
              refine ⟨_, by rw [h4']; rfl, here_sg hz (Reads.of_own ((hog.ext heh).kept hgi (.inr (fun e => by have := hog.lt _ e; omega)))) (Reads.of_own ((ho1g.ext heh).kept hgi (.inr (fun e => by have := ho1g.lt _ e; omega)))) (Reads.of_own ((ho2g.ext heh).kept hgi (.inr (fun e => by have := ho2g.lt _ e; omega)))) (Reads.of_own ((hovg.ext heh).kept hgi (.inr (fun e => by have := hovg.lt _ e; omega)))), ?_, (hxg.trans heh).grw hgi (by intro g hg; injection hg with hg; omega)⟩
              unfold gC
              rw [if_neg (fun hh => hh h4')]
              exact ⟨rfl, rfl, rfl, rfl⟩
          · have eg : gE zs = rdE zs (sg3 zs).2 := by unfold gE; rw [if_pos h3]
            refine J.skip ?_
            refine J.seq ?_
            refine J.seq ?_
            refine J.region ?_
            refine L.va rfl (X.move (by conv => lhs; whnf)) ?_
            refine L.va rfl (X.neq rfl rfl) ?_
            refine L.nil ?_
            -- cond
            refine J.ndecT rfl (by exact h3) ?_
            refine J.seq ?_
            refine J.region ?_
            refine L.va rfl (X.build (l := [_, _, _, _]) Evs.nil (bld_run Try.underlying34 (bp_34 Try.underlying34) zr_34 rfl)) ?_
            refine L.va rfl (X.move (by conv => lhs; whnf)) ?_
            -- store
            refine L.storeAgg (vs := [_, _, _, _]) rfl rfl rfl rfl sz_34 (hkg2) rfl ?_
            intro wi hki hgi hsi
            refine L.va rfl (X.assign (by conv => lhs; whnf)) ?_
            refine L.nil ?_
            -- ret
            refine J.ret ?_
            refine thn_ret <| ?_
            -- results [['ResultVar.cell', 2, 34], ['ResultVar.tmp', 3]]
            refine finCT rfl (run_cell hki Try.underlying34 rfl (by kernel_rfl)) ?_
            exact SGot_bad eg h3 (hxg.grw hgi (by intro g hg; injection hg with hg; omega))
end Go.Proofs.Ytlohbkcedpkjaaa
