/-
  A schema as one thing; Full, Keys and Views, in the program and in the reference.
-/
import Derived.Test.YtlipeplfjkgamaaWSchF
import Derived.Test.YtlipeplfjkgamaaWMasks
import Derived.Test.YtlipeplfjkgamaaLogic
namespace Go.Proofs.Ytlipeplfjkgamaa
set_option maxRecDepth 100000
open Go.RowKit H
set_option linter.unusedVariables false
/-- a schema: its slices, and what they hold -/
structure Sch where
  (Ad : Option Addr) (nd cd : Nat) (A1 : Option Addr) (n1 c1 : Nat) (A2 : Option Addr) (n2 c2 : Nat) (Av : Option Addr) (nv cv : Nat) (ds : List (ByteArray × Int)) (s1 s2 : List ByteArray) (zs : List Int)
namespace Sch
abbrev val (s : Sch) : Value := .agg #[.slice s.Ad s.nd s.cd, .slice s.A1 s.n1 s.c1, .slice s.A2 s.n2 s.c2, .slice s.Av s.nv s.cv]
def code (s : Sch) : Int := chk s.nd s.n1 s.n2 s.nv s.ds s.s1 s.s2 s.zs
/-- the full set's number -/
def F (s : Sch) : Int := ((2 ^ s.nd - 1 : Nat) : Int)
structure Here (s : Sch) (w : World) : Prop where
  hd : Reads w w.heap.size 2 s.Ad s.nd (dimsV s.ds)
  h1 : Reads w w.heap.size 1 s.A1 s.n1 (strs s.s1)
  h2 : Reads w w.heap.size 1 s.A2 s.n2 (strs s.s2)
  hv : Reads w w.heap.size 1 s.Av s.nv (nums .u32 s.zs)
  hzs : ∀ i, 0 ≤ s.zs.getD i 0 ∧ s.zs.getD i 0 < 4294967296
  hle : s.nd ≤ 100 ∧ s.n1 ≤ 100 ∧ s.n2 ≤ 100 ∧ s.nv ≤ 100
theorem Here.ext {s : Sch} {w w' : World} (h : s.Here w) (he : Ext w w') : s.Here w' :=
  ⟨(h.hd.ext he).here (by decide), (h.h1.ext he).here (by decide), (h.h2.ext he).here (by decide), (h.hv.ext he).here (by decide), h.hzs, h.hle⟩
theorem Here.len {s : Sch} {w : World} (h : s.Here w) : s.ds.length = s.nd := by have := h.hd.1; rw [dimsV_length] at this; omega
theorem Here.zlen {s : Sch} {w : World} (h : s.Here w) : s.zs.length = s.nv := by have := h.hv.1; simpa [nums] using this
theorem Here.check {s : Sch} {w : World} (h : s.Here w) : Calls Try.prog 107 #[s.val] w fun e w' => e = .returned (.int .i64 s.code) ∧ Ext w w' :=
  check_any _ _ _ _ _ _ _ _ _ _ _ _ _ _ _ _ w h.hd h.h1 h.h2 h.hv h.hzs (by have := h.hle; unfold maxLen; omega)
theorem Here.rcheck {s : Sch} {w : World} (h : s.Here w) : Calls Try.prog 97 #[s.val] w fun e w' => e = .returned (.int .i64 s.code) ∧ Ext w w' :=
  rcheck_any _ _ _ _ _ _ _ _ _ _ _ _ _ _ _ _ w h.hd h.h1 h.h2 h.hv h.hzs (by have := h.hle; unfold maxLen; omega)
theorem good {s : Sch} (h : s.code = 0) : (1 ≤ s.nd ∧ s.nd ≤ 6 ∧ s.n1 ≤ 3 ∧ s.n2 ≤ 2 ∧ s.nv ≤ 15) ∧ szB s.ds s.nd = true := ⟨(chk_ok h).1, (chk_ok h).2.1⟩
theorem F_bd {s : Sch} (h : s.code = 0) : 1 ≤ s.F ∧ s.F ≤ 63 := by
  have g := (good h).1
  have hp := pw6 g.2.1
  have h2 : 2 ^ 1 ≤ 2 ^ s.nd := Nat.pow_le_pow_right (by decide) g.1
  unfold F
  omega
theorem Here.rfull {s : Sch} {w : World} (h : s.Here w) (hc : s.code = 0) : Calls Try.prog 51 #[s.val] w fun e w' => e = .returned (.int .u32 s.F) ∧ Ext w w' :=
  rfull_any _ _ _ _ _ _ w (by have := (good hc).1; omega)
theorem Here.full_ok {s : Sch} {w : World} (h : s.Here w) (hc : s.code = 0) : Calls Try.prog 90 #[s.val] w fun e w' => e = .returned (.int .u32 s.F) ∧ Ext w w' := by
  have g := (good hc).1
  have hp := pw6 g.2.1
  have hsl := shl_full g.2.1
  have hF : s.F = ((2 ^ s.nd - 1 : Nat) : Int) := rfl
  have hsub : IntKind.u32.wrap (((2 ^ s.nd : Nat) : Int) - 1) = s.F := by rw [w32 (by omega), hF]; omega
  refine enter Try.func90 rfl (by kernel_rfl) ?_
  refine J.seq ?_
  refine J.region ?_
  -- box
  refine L.boxA (l := [_, _, _, _]) rfl rfl ?_
  intro b1 w1 hb1 hs1 hk1 he1
  refine L.va rfl (X.assign (by conv => lhs; whnf)) ?_
  refine L.nil ?_
  refine J.seq ?_
  refine J.seq ?_
  refine J.region ?_
  refine L.va rfl ((by first | exact X.loadAgg rfl (range_l hk1) Try.underlying49 rfl (by kernel_rfl) | exact X.loadAgg rfl (range_blk hk1) Try.underlying49 rfl (by kernel_rfl))) ?_
  -- callfn bushel/schema.Check
  refine L.call rfl en_107 rfl ((h.ext he1).check) ?_
  rintro e w2 ⟨rfl, he2⟩
  refine ⟨_, rfl, ?_⟩
  have he2 : Ext w1 w2 := he2
  replace hk1 := hk1.ext he2
  refine L.va rfl (X.neq rfl rfl) ?_
  refine L.nil ?_
  -- cond
  rw [hc]
  refine J.iteF rfl ?_
  refine J.skip ?_
  refine J.seq ?_
  refine J.region ?_
  refine L.va rfl (X.fieldAddr rfl Try.underlying49 rfl sz_45 (by decide)) ?_
  refine L.va rfl (X.load rfl sc_45 (by first | exact Ld.blk hk1 rfl)) ?_
  refine L.va rfl (X.len rfl Try.underlying45) ?_
  refine L.va rfl (X.shl rfl rfl (by omega)) ?_
  refine L.va rfl (X.subw rfl rfl) ?_
  refine L.va rfl (X.assign (by conv => lhs; whnf)) ?_
  refine L.nil ?_
  -- ret
  refine J.ret ?_
  refine fin1 ?_
  rw [hsl, hsub]
  exact ⟨rfl, he1.trans he2⟩
theorem Here.full_no {s : Sch} {w : World} (h : s.Here w) (hc : s.code ≠ 0) : Calls Try.prog 90 #[s.val] w fun e w' => e = .returned (.int .u32 0) ∧ Ext w w' := by
  refine enter Try.func90 rfl (by kernel_rfl) ?_
  refine J.seq ?_
  refine J.region ?_
  -- box
  refine L.boxA (l := [_, _, _, _]) rfl rfl ?_
  intro b1 w1 hb1 hs1 hk1 he1
  refine L.va rfl (X.assign (by conv => lhs; whnf)) ?_
  refine L.nil ?_
  refine J.seq ?_
  refine J.seq ?_
  refine J.region ?_
  refine L.va rfl ((by first | exact X.loadAgg rfl (range_l hk1) Try.underlying49 rfl (by kernel_rfl) | exact X.loadAgg rfl (range_blk hk1) Try.underlying49 rfl (by kernel_rfl))) ?_
  -- callfn bushel/schema.Check
  refine L.call rfl en_107 rfl ((h.ext he1).check) ?_
  rintro e w2 ⟨rfl, he2⟩
  refine ⟨_, rfl, ?_⟩
  have he2 : Ext w1 w2 := he2
  replace hk1 := hk1.ext he2
  refine L.va rfl (X.neq rfl rfl) ?_
  refine L.nil ?_
  -- cond
  refine J.ndecT rfl (by exact hc) ?_
  refine J.seq ?_
  refine J.region ?_
  refine L.va rfl (X.assign (by conv => lhs; whnf)) ?_
  refine L.nil ?_
  -- ret
  refine J.ret ?_
  refine thn_ret <| ?_
  refine fin1 ?_
  exact ⟨rfl, he1.trans he2⟩
/-- a set lies in the full one -/
def sub (s : Sch) (m : Int) : Prop := m ≤ s.F
theorem andNot_full {s : Sch} {m : Nat} (hm : m < 4294967296) (hn : s.nd ≤ 6) : bits .andNot .u32 (m : Int) s.F = 0 ↔ (m : Int) ≤ s.F := by
  have hp := pw6 hn
  unfold F
  rw [u32_andNot_nat m (2 ^ s.nd - 1) hm (by omega)]
  have := Mk.andNot_zero hm (show 2 ^ s.nd - 1 < 4294967296 by omega)
  rw [sb_full hm hn, decide_eq_true_iff] at this
  omega
theorem bit_and {m i : Nat} (hm : m < 4294967296) (hi : i ≤ 32) : bits .and .u32 ((m : Int) / 2 ^ min ((i : Int)).toNat IntKind.u32.bits) 1 = if m.testBit i then 1 else 0 := by
  have hb : IntKind.u32.bits = 32 := rfl
  rw [hb, show min ((i : Int)).toNat 32 = i by omega]
  have e : ((2 : Int) ^ i) = ((2 ^ i : Nat) : Int) := by simp
  have e2 : (m : Int) / ((2 ^ i : Nat) : Int) = ((m / 2 ^ i : Nat) : Int) := rfl
  have hlt : m / 2 ^ i < 4294967296 := Nat.lt_of_le_of_lt (Nat.div_le_self _ _) hm
  have h1 := u32_and_nat (m / 2 ^ i) 1 hlt (by decide)
  rw [e, e2]
  rw [show ((1 : Nat) : Int) = 1 from rfl] at h1
  rw [h1, Nat.and_one_is_mod, Nat.testBit_eq_decide_div_mod_eq]
  by_cases hd : m / 2 ^ i % 2 = 1
  · simp [hd]
  · have : m / 2 ^ i % 2 = 0 := by omega
    simp [this]
theorem Here.keys_ok {s : Sch} {w : World} (h : s.Here w) (hc : s.code = 0) {m : Nat} (hm : (m : Int) ≤ s.F) : Calls Try.prog 196 #[s.val, .int .u32 (m : Int)] w fun e w' => e = .returned (.tuple #[.int .u64 (kyP s.ds m s.nd), .bool true]) ∧ Ext w w' := by
  obtain ⟨g0, g1⟩ := good hc
  have hF := F_bd hc
  have hm32 : m < 4294967296 := by omega
  have han := (andNot_full (s := s) hm32 g0.2.1).2 hm
  have hl := h.len
  have hk := kyP_bd m g1
  refine enter Try.func196 rfl (by kernel_rfl) ?_
  refine J.seq ?_
  refine J.region ?_
  -- box
  refine L.boxA (l := [_, _, _, _]) rfl rfl ?_
  intro b1 w1 hb1 hs1 hk1 he1
  refine L.va rfl (X.assign (by conv => lhs; whnf)) ?_
  refine L.va rfl (X.assign (by conv => lhs; whnf)) ?_
  refine L.nil ?_
  refine J.seq ?_
  refine J.region ?_
  refine L.va rfl ((by first | exact X.loadAgg rfl (range_l hk1) Try.underlying49 rfl (by kernel_rfl) | exact X.loadAgg rfl (range_blk hk1) Try.underlying49 rfl (by kernel_rfl))) ?_
  -- callfn bushel/schema.Full
  refine L.call rfl en_90 rfl ((h.ext he1).full_ok hc) ?_
  rintro e w2 ⟨rfl, he2⟩
  refine ⟨_, rfl, ?_⟩
  have he2 : Ext w1 w2 := he2
  have he02 := he1.trans he2
  have hk2 := hk1.ext he2
  have hd2 := h.hd.ext he02
  refine L.va rfl (X.assign (by conv => lhs; whnf)) ?_
  refine L.nil ?_
  refine J.seq ?_
  refine J.seq ?_
  refine J.region ?_
  refine L.va rfl (X.move (by conv => lhs; whnf)) ?_
  refine L.va rfl (X.eql rfl rfl) ?_
  refine L.va rfl (X.move (by conv => lhs; whnf)) ?_
  -- case t14
  refine L.caseDecF (k := 14) rfl (by omega) ?_
  refine L.va rfl (X.move (by conv => lhs; whnf)) ?_
  refine L.va rfl (X.move (by conv => lhs; whnf)) ?_
  refine L.va rfl (X.andNot rfl rfl) ?_
  refine L.va rfl (X.neq rfl rfl) ?_
  refine L.va rfl (X.pickF rfl (by conv => lhs; whnf)) ?_
  refine L.nil ?_
  -- cond
  rw [han]
  refine J.iteF rfl ?_
  refine J.skip ?_
  refine J.seq ?_
  refine J.region ?_
  refine L.va rfl (X.assign (by conv => lhs; whnf)) ?_
  refine L.nil ?_
  refine J.seq ?_
  refine J.seq ?_
  refine J.region ?_
  refine L.va rfl (X.fieldAddr rfl Try.underlying49 rfl sz_45 (by decide)) ?_
  refine L.va rfl (X.load rfl sc_45 (by first | exact Ld.blk hk2 rfl | exact Ld.rd hd2 (by omega))) ?_
  refine L.va rfl (X.len rfl Try.underlying45) ?_
  refine L.va rfl (X.move (by conv => lhs; whnf)) ?_
  refine L.nil ?_
  refine J.block ?_
  -- loop
  -- loop
  refine J.loop (X := Nat × Int) [7, 8, 9, 23, 24, 25, 26, 27, 28, 29, 30, 31, 32, 33, 34, 35, 36, 37, 38] (fun x => [(23, .int .i64 (x.1 : Int)), (7, .int .u64 x.2)]) (fun x w' => Ext w2 w' ∧ x.1 ≤ s.nd ∧ x.2 = kyP s.ds m x.1) (fun x => s.nd - x.1) ((0, 1)) (At2 (by first | rfl | exact at_int rfl (by omega) | exact at_slice rfl (by omega) | exact at_int rfl (by simp)) (by first | rfl | exact at_int rfl (by omega) | exact at_slice rfl (by omega) | exact at_int rfl (by simp))) ?_ ?_
  · exact ⟨Ext.refl _, by dsimp only; omega, rfl⟩
  · rintro ⟨i, z⟩ g w3 ⟨he3, hi, hz⟩
    dsimp only at hi hz
    have q1 : ((i, z) : Nat × Int).1 = i := rfl
    have q2 : ((i, z) : Nat × Int).2 = z := rfl
    have hk3 := hk2.ext he3
    have hd3 := hd2.ext he3
    have he03 := he02.trans he3
    refine J.seq ?_
    refine J.region ?_
    refine L.va rfl (X.lss rfl rfl) ?_
    refine L.nil ?_
    refine J.seq ?_
    -- cond
    refine J.dec rfl (fun hlt => ?_) (fun hlt => ?_)
    · have hil : i < s.nd := by dsimp only at hlt; omega
      have hb := hk (i + 1) (by omega)
      have hn : kyP s.ds m (i + 1) = if m.testBit i then kyP s.ds m i * (s.ds.getD i d0).2 else kyP s.ds m i := rfl
      have hbd := szB_at (mono_b (szB_s s.ds) (by omega : i + 1 ≤ s.nd) g1)
      have hrow := dims_row (l := s.ds) (i := i) (by omega)
      have hba := bit_and (m := m) (i := i) hm32 (by omega)
      generalize hdv : (s.ds.getD i d0).2 = dv at *
      -- t27
      refine J.skip ?_
      refine J.seq ?_
      refine J.block ?_
      refine J.seq ?_
      refine J.region ?_
      refine L.va rfl (X.move (by conv => lhs; whnf)) ?_
      refine L.va rfl ((by first | exact X.indexAddrn rfl rfl Try.underlying45 sz_128 (by first | exact Option.some_ne_none _ | exact hd3.some_ (by omega)) (by omega) | exact X.indexAddr rfl rfl Try.underlying45 sz_128 (by first | exact Option.some_ne_none _ | exact hd3.some_ (by omega)) (by omega))) ?_
      refine L.va rfl (X.loadRow (cs := [.string (s.ds.getD i d0).1, .int .i64 dv]) rfl hd3 hrow (Nat.zero_lt_succ _) Try.underlying128 rfl (by kernel_rfl)) ?_
      -- alloc
      refine L.alloc rfl zr_128 ?_
      intro b4 w4 hb4 hs4 hk4 he4
      refine L.va rfl (X.assign (by conv => lhs; whnf)) ?_
      -- store
      refine L.storeAgg (vs := [_, _]) rfl rfl rfl rfl sz_128 (hk4) rfl ?_
      intro w5 hk5 hg5 hs5
      have hz3 := he03.le
      have he35 : Ext w3 w5 := he4.grw hg5 (by intro g hg; injection hg with hg; omega)
      refine L.nil ?_
      refine J.seq ?_
      refine J.region ?_
      refine L.va rfl (X.move (by conv => lhs; whnf)) ?_
      refine L.va rfl (X.move (by conv => lhs; whnf)) ?_
      refine L.va rfl (X.shr rfl rfl (by omega)) ?_
      refine L.va rfl (X.and rfl rfl) ?_
      refine L.va rfl (X.eql rfl rfl) ?_
      refine L.nil ?_
      -- cond
      rw [hba]
      cases ht : m.testBit i
      · rw [ht] at hn
        refine J.iteF rfl ?_
        refine J.skip ?_
        refine J.region ?_
        refine L.va rfl (X.add rfl rfl (by omega)) ?_
        refine L.va rfl (X.move (by conv => lhs; whnf)) ?_
        refine L.nil ?_
        -- loopend
        refine ⟨(i + 1, z), At2 (by first | rfl | exact at_int rfl (by omega) | exact at_slice rfl (by omega) | exact at_int rfl (by simp)) (by first | rfl | exact at_int rfl (by omega) | exact at_slice rfl (by omega) | exact at_int rfl (by simp)), (by (iterate 13 refine Agr.lk rfl ?_); exact Agr.lk rfl (Agr.hav rfl Agr.rfl')), ?_⟩
        exact ⟨⟨he3.trans he35, by dsimp only; omega, by dsimp only; rw [hn, hz]; rfl⟩, by dsimp only; omega⟩
      · rw [ht, if_pos rfl, ← hz] at hn
        rw [hn] at hb
        have hbd' : 1 ≤ dv ∧ dv ≤ 4096 := ⟨hbd.1, hbd.2.1⟩
        have hb' : 0 ≤ ((i, z) : Nat × Int).2 * dv ∧ ((i, z) : Nat × Int).2 * dv ≤ 1099511627776 := hb
        refine J.iteT rfl ?_
        refine J.region ?_
        refine L.va rfl (X.move (by conv => lhs; whnf)) ?_
        refine L.va rfl (X.fieldAddr rfl Try.underlying128 rfl sz_3 (by decide)) ?_
        refine L.va rfl (X.load rfl sc_3 (by first | exact Ld.blk hk5 rfl)) ?_
        refine L.va rfl ((by first | exact X.convU rfl is_3 Try.underlying90 (by omega) | exact X.convw rfl is_3 Try.underlying90)) ?_
        refine L.va rfl (X.mulU rfl rfl (by omega)) ?_
        refine L.va rfl (X.assign (by conv => lhs; whnf)) ?_
        refine L.nil ?_
        refine J.region ?_
        refine L.va rfl (X.add rfl rfl (by omega)) ?_
        refine L.va rfl (X.move (by conv => lhs; whnf)) ?_
        refine L.nil ?_
        -- loopend
        refine ⟨(i + 1, z * dv), At2 (by first | rfl | exact at_int rfl (by omega) | exact at_slice rfl (by omega) | exact at_int rfl (by simp)) (by first | rfl | exact at_int rfl (by omega) | exact at_slice rfl (by omega) | exact at_int rfl (by simp)), (by (iterate 19 refine Agr.lk rfl ?_); exact Agr.lk rfl (Agr.hav rfl Agr.rfl')), ?_⟩
        exact ⟨⟨he3.trans he35, by dsimp only; omega, hn.symm⟩, by dsimp only; omega⟩
    · obtain rfl : i = s.nd := by dsimp only at hlt; omega
      rw [← hz]
      refine J.exit ?_
      refine J.seq ?_
      refine J.region ?_
      refine L.va rfl (X.move (by conv => lhs; whnf)) ?_
      refine L.va rfl (X.assign (by conv => lhs; whnf)) ?_
      refine L.va rfl (X.assign (by conv => lhs; whnf)) ?_
      refine L.nil ?_
      -- ret
      refine J.ret ?_
      refine fin2 ?_
      exact ⟨rfl, he03⟩
theorem Here.keys_no {s : Sch} {w : World} (h : s.Here w) {m : Nat} (hm32 : m < 4294967296) (hc : s.code = 0 → ¬ (m : Int) ≤ s.F) : Calls Try.prog 196 #[s.val, .int .u32 (m : Int)] w fun e w' => e = .returned (.tuple #[.int .u64 0, .bool false]) ∧ Ext w w' := by
  refine enter Try.func196 rfl (by kernel_rfl) ?_
  refine J.seq ?_
  refine J.region ?_
  -- box
  refine L.boxA (l := [_, _, _, _]) rfl rfl ?_
  intro b1 w1 hb1 hs1 hk1 he1
  refine L.va rfl (X.assign (by conv => lhs; whnf)) ?_
  refine L.va rfl (X.assign (by conv => lhs; whnf)) ?_
  refine L.nil ?_
  refine J.seq ?_
  refine J.region ?_
  refine L.va rfl ((by first | exact X.loadAgg rfl (range_l hk1) Try.underlying49 rfl (by kernel_rfl) | exact X.loadAgg rfl (range_blk hk1) Try.underlying49 rfl (by kernel_rfl))) ?_
  -- callfn bushel/schema.Full
  by_cases hcc : s.code = 0
  · have g0 := (good hcc).1
    have hF := F_bd hcc
    have han := andNot_full (s := s) hm32 g0.2.1
    have hno := hc hcc
    refine L.call rfl en_90 rfl ((h.ext he1).full_ok hcc) ?_
    rintro e w2 ⟨rfl, he2⟩
    refine ⟨_, rfl, ?_⟩
    have he2 : Ext w1 w2 := he2
    refine L.va rfl (X.assign (by conv => lhs; whnf)) ?_
    refine L.nil ?_
    refine J.seq ?_
    refine J.seq ?_
    refine J.region ?_
    refine L.va rfl (X.move (by conv => lhs; whnf)) ?_
    refine L.va rfl (X.eql rfl rfl) ?_
    refine L.va rfl (X.move (by conv => lhs; whnf)) ?_
    -- case t14
    refine L.caseDecF (k := 14) rfl (by omega) ?_
    refine L.va rfl (X.move (by conv => lhs; whnf)) ?_
    refine L.va rfl (X.move (by conv => lhs; whnf)) ?_
    refine L.va rfl (X.andNot rfl rfl) ?_
    refine L.va rfl (X.neq rfl rfl) ?_
    refine L.va rfl (X.pickF rfl (by conv => lhs; whnf)) ?_
    refine L.nil ?_
    -- cond
    refine J.ndecT rfl (by omega) ?_
    refine J.seq ?_
    refine J.region ?_
    refine L.va rfl (X.assign (by conv => lhs; whnf)) ?_
    refine L.va rfl (X.assign (by conv => lhs; whnf)) ?_
    refine L.nil ?_
    -- ret
    refine J.ret ?_
    refine thn_ret <| ?_
    refine fin2 ?_
    exact ⟨rfl, he1.trans he2⟩
  · refine L.call rfl en_90 rfl ((h.ext he1).full_no hcc) ?_
    rintro e w2 ⟨rfl, he2⟩
    refine ⟨_, rfl, ?_⟩
    have he2 : Ext w1 w2 := he2
    refine L.va rfl (X.assign (by conv => lhs; whnf)) ?_
    refine L.nil ?_
    refine J.seq ?_
    refine J.seq ?_
    refine J.region ?_
    refine L.va rfl (X.move (by conv => lhs; whnf)) ?_
    refine L.va rfl (X.eql rfl rfl) ?_
    refine L.va rfl (X.move (by conv => lhs; whnf)) ?_
    -- case t14
    refine L.caseDecT (k := 14) rfl (by rfl) ?_
    refine L.no rfl ?_
    refine L.no rfl ?_
    refine L.no rfl ?_
    refine L.no rfl ?_
    refine L.va rfl (X.pickT rfl (by conv => lhs; whnf)) ?_
    refine L.nil ?_
    -- cond
    refine J.iteT rfl ?_
    refine J.seq ?_
    refine J.region ?_
    refine L.va rfl (X.assign (by conv => lhs; whnf)) ?_
    refine L.va rfl (X.assign (by conv => lhs; whnf)) ?_
    refine L.nil ?_
    -- ret
    refine J.ret ?_
    refine thn_ret <| ?_
    refine fin2 ?_
    exact ⟨rfl, he1.trans he2⟩
/-- what Keys answers -/
def kv (s : Sch) (m : Nat) : Int := if s.code = 0 ∧ (m : Int) ≤ s.F then kyP s.ds m s.nd else 0
def kb (s : Sch) (m : Nat) : Bool := decide (s.code = 0 ∧ (m : Int) ≤ s.F)
theorem Here.keys {s : Sch} {w : World} (h : s.Here w) {m : Nat} (hm : m < 4294967296) : Calls Try.prog 196 #[s.val, .int .u32 (m : Int)] w fun e w' => e = .returned (.tuple #[.int .u64 (s.kv m), .bool (s.kb m)]) ∧ Ext w w' := by
  by_cases hc : s.code = 0 ∧ (m : Int) ≤ s.F
  · rw [kv, kb, if_pos hc, decide_eq_true hc]
    exact h.keys_ok hc.1 hc.2
  · rw [kv, kb, if_neg hc, decide_eq_false hc]
    exact h.keys_no hm (fun h1 h2 => hc ⟨h1, h2⟩)
theorem Here.rsub {s : Sch} {w : World} (hc : s.code = 0) {m : Nat} (hm : m < 4294967296) : Calls Try.prog 98 #[.int .u32 (m : Int), .int .u32 s.F] w fun e w' => e = .returned (.bool (decide ((m : Int) ≤ s.F))) ∧ w = w' :=
  rsub_full _ _ s.nd w (by omega) (good hc).1.2.1 rfl
/-- a schema of any size -/
structure Any (s : Sch) (w : World) : Prop where
  hd : Reads w w.heap.size 2 s.Ad s.nd (dimsV s.ds)
  h1 : Reads w w.heap.size 1 s.A1 s.n1 (strs s.s1)
  h2 : Reads w w.heap.size 1 s.A2 s.n2 (strs s.s2)
  hv : Reads w w.heap.size 1 s.Av s.nv (nums .u32 s.zs)
  hzs : ∀ i, 0 ≤ s.zs.getD i 0 ∧ s.zs.getD i 0 < 4294967296
theorem Any.ext {s : Sch} {w w' : World} (h : s.Any w) (he : Ext w w') : s.Any w' :=
  ⟨(h.hd.ext he).here (by decide), (h.h1.ext he).here (by decide), (h.h2.ext he).here (by decide), (h.hv.ext he).here (by decide), h.hzs⟩
theorem Any.here {s : Sch} {w : World} (h : s.Any w) (hle : s.nd ≤ 100 ∧ s.n1 ≤ 100 ∧ s.n2 ≤ 100 ∧ s.nv ≤ 100) : s.Here w := ⟨h.hd, h.h1, h.h2, h.hv, h.hzs, hle⟩
theorem Any.light {s : Sch} {w : World} (h : s.Any w) : Calls Try.prog 29 #[s.val] w fun e w' => ∃ b, e = .returned (.bool b) ∧ (b = true → s.nd ≤ 100 ∧ s.n1 ≤ 100 ∧ s.n2 ≤ 100 ∧ s.nv ≤ 100) ∧ Ext w w' :=
  light11 _ _ _ _ _ _ _ _ _ _ _ _ s.ds s.s1 s.s2 w h.hd h.h1 h.h2
end Sch
/-- a schema that is handed in -/
theorem sch_of {w : World} {vs : List Value} {x : (List (Str × Nm .i64)) × List Str × List Str × List (Nm .u32)} (h : Lay.lies w w.heap.size vs x) :
    ∃ s : Sch, vs = [.slice s.Ad s.nd s.cd, .slice s.A1 s.n1 s.c1, .slice s.A2 s.n2 s.c2, .slice s.Av s.nv s.cv] ∧ s.Any w := by
  obtain ⟨Ad, nd, cd, A1, n1, c1, A2, n2, c2, Av, nv, cv, rfl, g1, g2, g3, g4, hd, h1, h2, hv⟩ := schema4 h
  refine ⟨⟨Ad, nd, cd, A1, n1, c1, A2, n2, c2, Av, nv, cv, _, _, _, zsOf x.2.2.2⟩, rfl, hd, h1, h2, hv, fun i => ?_⟩
  obtain ⟨vs, hvz, hvs⟩ := u32_list x.2.2.2
  show 0 ≤ (zsOf x.2.2.2).getD i 0 ∧ (zsOf x.2.2.2).getD i 0 < 4294967296
  rw [hvz, zl_getD]
  have h3 : vs.getD i 0 < 4294967296 := by
    rcases Nat.lt_or_ge i vs.length with h | h
    · rw [List.getD, List.getElem?_eq_getElem h]; exact hvs _ (List.getElem_mem h)
    · rw [List.getD, List.getElem?_eq_none h]; decide
  omega
def aA : ByteArray := { data := #[97] }
def aB : ByteArray := { data := #[98] }
end Go.Proofs.Ytlipeplfjkgamaa
