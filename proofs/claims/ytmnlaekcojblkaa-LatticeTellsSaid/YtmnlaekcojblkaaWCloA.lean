/-
  Sets closed under what they have in common: lattice.Close, walked.
-/
import Derived.Test.YtmnlaekcojblkaaCloPlain
import Derived.Test.YtmnlaekcojblkaaMapKeys
import Derived.Test.YtmnlaekcojblkaaSrtUF
import Derived.Test.YtmnlaekcojblkaaWMasks
namespace Go.Proofs.Ytmnlaekcojblkaa
set_option maxRecDepth 100000
open Go.RowKit H
open Mk Clo Srt
open Go.MapKept Go.ChangeMaps Go.WideMaps Go.Maps
set_option linter.unusedVariables false
theorem keyU {z : Nat} (h : z < 4294967296) : keyOf Try.prog 53 (.int .u32 (z : Int)) = some (.int .u32 (z : Int)) :=
  keyOf_int_mk Try.underlying53 (by simp [Lit.wf, IntKind.min, IntKind.max, IntKind.signed, IntKind.bits]; omega)
theorem andU (a b : Nat) (ha : a < 4294967296) (hb : b < 4294967296) : bits .and .u32 (a : Int) (b : Int) = ((a &&& b : Nat) : Int) := u32_and_nat a b ha hb
/-- the sets that were met -/
def Sq (o : List Nat) (v : Value) : Prop := ∃ z ∈ o, v = .int .u32 (z : Int)
theorem Sq.at {o : List Nat} {z : Nat} : Sq o (.int .u32 (z : Int)) ↔ z ∈ o := by
  constructor
  · rintro ⟨y, hy, e⟩
    injection e with _ e
    have : y = z := by omega
    rwa [← this]
  · exact fun h => ⟨z, h, rfl⟩
theorem Sq.snoc (o : List Nat) (z : Nat) (v : Value) : (v = .int .u32 (z : Int) ∨ Sq o v) ↔ Sq (o ++ [z]) v := by
  constructor
  · rintro (rfl | ⟨y, hy, e⟩)
    · exact ⟨z, by simp, rfl⟩
    · exact ⟨y, List.mem_append_left _ hy, e⟩
  · rintro ⟨y, hy, e⟩
    rcases List.mem_append.1 hy with hy | hy
    · exact .inr ⟨y, hy, e⟩
    · rw [List.mem_singleton] at hy
      subst hy
      exact .inl e
def Closed (l : List Nat) (w : World) (e : Ending) (w' : World) : Prop :=
  (12 < l.length ∧ e = .returned (.tuple #[.slice none 0 0, .int .i64 3]) ∧ Ext w w') ∨
  (l.length ≤ 12 ∧ ∃ (A : Option Addr) (q c : Nat) (o : List Int), e = .returned (.tuple #[.slice A q c, .int .i64 0]) ∧ w'.ownsRow w.heap.size 53 1 (.slice A q c) q (nums .u32 o) ∧ o.Nodup ∧ In o 0 q ∧ q ≤ 4096 ∧ (∀ z : Int, z ∈ o ↔ ∃ y : Nat, z = (y : Int) ∧ Cm l y) ∧ Ext w w')
theorem own_grow {w : World} {N e1 s1 n1 n2 n3 cB cD g : Nat} {B D : Option Addr} {v1 : Value} {x1 : List Value} (h1 : w.ownsRow N e1 s1 v1 n1 x1) (hg : v1.ownBlock = some g) (hne : Value.ownBlock (.slice B n2 cB) ≠ some g)
    (hor : Value.ownBlock (.slice D n3 cD) = Value.ownBlock (.slice B n2 cB) ∨ Value.ownBlock (.slice D n3 cD) = some w.heap.size) : Value.ownBlock (.slice D n3 cD) ≠ some g := by
  rcases hor with e | e
  · rw [e]; exact hne
  · rw [e]
    intro hc
    injection hc with hc
    have := (h1.lt g hg).2
    omega
theorem zl_nodup {o : List Nat} (h : o.Nodup) : (zl o).Nodup := by
  unfold zl
  rw [List.nodup_iff_pairwise_ne, List.pairwise_map]
  exact (List.nodup_iff_pairwise_ne.1 h).imp fun hne e => hne (by omega)
theorem mem_zl {o : List Nat} {z : Int} : z ∈ zl o ↔ ∃ y : Nat, z = (y : Int) ∧ y ∈ o := by
  unfold zl
  rw [List.mem_map]
  exact ⟨fun ⟨y, hy, e⟩ => ⟨y, e.symm, hy⟩, fun ⟨y, e, hy⟩ => ⟨y, hy, e.symm⟩⟩
theorem close_any (A : Option Addr) (n c : Nat) (l : List Nat) (w : World) (hr : Reads w w.heap.size 1 A n (nums .u32 (zl l))) (hl : ∀ x ∈ l, x < 4294967296) :
    Calls Try.prog 48 #[.slice A n c] w (Closed l w) := by
  have hln : l.length = n := by have := hr.1; simpa [nums, zl] using this
  refine enter Try.func48 rfl (by kernel_rfl) ?_
  refine J.seq ?_
  refine J.region ?_
  refine L.va rfl (X.assign (by conv => lhs; whnf)) ?_
  refine L.va rfl (X.assign (by conv => lhs; whnf)) ?_
  refine L.nil ?_
  refine J.seq ?_
  refine J.seq ?_
  refine J.region ?_
  refine L.va rfl (X.move (by conv => lhs; whnf)) ?_
  refine L.va rfl (X.len rfl Try.underlying54) ?_
  refine L.va rfl (X.gtr rfl rfl) ?_
  refine L.nil ?_
  -- cond
  refine J.dec rfl (fun hgt => ?_) (fun hgt => ?_)
  · refine J.seq ?_
    refine J.region ?_
    refine L.va rfl (X.assign (by conv => lhs; whnf)) ?_
    refine L.va rfl (X.assign (by conv => lhs; whnf)) ?_
    refine L.nil ?_
    -- ret
    refine J.ret ?_
    refine thn_ret <| ?_
    refine fin2 ?_
    exact .inl ⟨by omega, rfl, Ext.refl _⟩
  · refine J.skip ?_
    refine J.seq ?_
    refine J.region ?_
    -- makeMap
    refine L.makeMapKN (k := 53) (e := 3) rfl ?_
    intro b w1 hb hs1 hm1 he1
    have hm1 : MapK Try.prog 53 3 w1 b ([] : List Nat).length (Sq []) := hm1.same fun v => ⟨False.elim, fun ⟨_, h, _⟩ => by cases h⟩
    have hz : ∀ w : World, (zeroValue 3).run Try.prog w = .ok (.int .i64 0) w := fun _ => rfl
    have K1 : Keyed Try.prog 53 := int_keyed Try.underlying53
    have hbw : w.heap.size ≤ b := by omega
    have z1 := he1.le
    refine L.va rfl (X.assign (by conv => lhs; whnf)) ?_
    refine L.nil ?_
    refine J.seq ?_
    refine J.region ?_
    refine L.va rfl (X.assign (by conv => lhs; whnf)) ?_
    refine L.nil ?_
    refine J.seq ?_
    refine J.seq ?_
    refine J.region ?_
    refine L.va rfl (X.move (by conv => lhs; whnf)) ?_
    refine L.va rfl (X.len rfl Try.underlying54) ?_
    refine L.va rfl (X.move (by conv => lhs; whnf)) ?_
    refine L.nil ?_
    refine J.block ?_
    -- loop
    refine J.loop (X := Nat × List Nat × Option Addr × Nat × Nat) [5, 7, 9, 10, 11, 18, 19, 20, 21, 22, 23, 24, 25, 26, 27, 28, 29, 30, 31, 32, 33, 34, 35, 36, 37, 38, 39, 40, 41, 42, 43, 44, 45, 46, 47, 48, 49, 50, 51, 52, 53, 54] (fun (i, o, B, q, d) => [(18, .int .i64 (i : Int)), (5, .slice B q d)]) (fun (i, o, B, q, d) w' => i ≤ n ∧ q = o.length ∧ q + 1 ≤ 2 ^ i ∧ o.Nodup ∧ (∀ z, z ∈ o ↔ Cm (l.take i) z) ∧ MapK Try.prog 53 3 w' b q (Sq o) ∧ w'.ownsRow w.heap.size 53 1 (.slice B q d) q (nums .u32 (zl o)) ∧ Ext w w') (fun (i, _) => n - i) ((0, [], none, 0, 0)) (At2 (by first | rfl | exact at_int rfl (by omega) | exact at_slice rfl (by omega) | exact at_int rfl (by simp)) (by first | rfl | exact at_int rfl (by omega) | exact at_slice rfl (by omega) | exact at_int rfl (by simp))) ?_ ?_
    · refine ⟨Nat.zero_le _, rfl, by decide, List.nodup_nil, fun z => ⟨(fun h => by cases h), fun h => ?_⟩, hm1, own_nilN _ _ _ _, he1⟩
      obtain ⟨⟨s, hs, _⟩, _⟩ := h
      cases hs
    · rintro ⟨i, o, B, q, d⟩ g w2 ⟨hi, hq, hqb, hnd, hmem, hm2, ho2, he2⟩
      have z2 := he2.le
      have hp12 : ∀ j, j ≤ 12 → 2 ^ j ≤ 4096 := fun j hj => by
        have := Nat.pow_le_pow_right (n := 2) (by decide) hj
        have h4 : (2 : Nat) ^ 12 = 4096 := by decide
        omega
      have hpi := hp12 i (by omega)
      refine J.seq ?_
      refine J.region ?_
      refine L.va rfl (X.lss rfl rfl) ?_
      refine L.nil ?_
      refine J.seq ?_
      -- cond
      refine J.dec rfl (fun hlt => ?_) (fun hlt => ?_)
      · have hin : i < n := by omega
        have hr2 := hr.ext he2
        have hA := hr2.some_ (by omega)
        obtain ⟨x, hx⟩ : ∃ x, x = l.getD i 0 := ⟨_, rfl⟩
        have hxm : x ∈ l := by rw [hx, List.getD, List.getElem?_eq_getElem (by omega)]; exact List.getElem_mem _
        have hx32 := hl x hxm
        have hld : Ld w2 (pA A i) (.int .u32 (x : Int)) := by have := Ld.num hr2 hin; rwa [zl_getD, ← hx] at this
        have htk : l.take (i + 1) = l.take i ++ [x] := by
          rw [List.take_add_one, List.getElem?_eq_getElem (show i < l.length by omega), hx, List.getD, List.getElem?_eq_getElem (show i < l.length by omega)]
          rfl
        have hpi1 := hp12 (i + 1) (by omega)
        have hps : 2 ^ (i + 1) = 2 * 2 ^ i := by rw [Nat.pow_succ]; omega
        refine J.skip ?_
        refine J.seq ?_
        refine J.block ?_
        refine J.seq ?_
        refine J.region ?_
        refine L.va rfl ((by first | exact X.index1n rfl rfl Try.underlying54 sz_53 (by first | exact Option.some_ne_none _ | exact hA | exact hld) (by omega) | exact X.index1 rfl rfl Try.underlying54 sz_53 (by first | exact Option.some_ne_none _ | exact hA | exact hld) (by omega))) ?_
        refine L.va rfl (X.load rfl sc_53 (by first | exact hA | exact hld)) ?_
        refine L.va rfl (X.assign (by conv => lhs; whnf)) ?_
        refine L.nil ?_
        refine J.seq ?_
        refine J.region ?_
        refine L.va rfl (X.move (by conv => lhs; whnf)) ?_
        -- buildSlice
        refine L.bslice (vs := [_]) rfl (Evs.cons (by conv => lhs; whnf) Evs.nil) rfl rfl rfl rfl Try.underlying54 sz_53 zr_53 (by decide) ?_
        intro b3 w3 hb3 hs3 hk3 he3
        have ho3 : w3.ownsRow w2.heap.size 53 1 (.slice (some ⟨b3, 0, none⟩) 1 1) 1 (nums .u32 [(x : Int)]) := blk_own1 (q := 1) hk3 (by omega) (by unfold maxLen; omega) rfl
        have hoo := ho2.ext he3
        refine L.va rfl (X.move (by conv => lhs; whnf)) ?_
        -- append
        refine L.appendQ (q := 1 + q) (ys := (x : Int) :: zl o) rfl rfl rfl Try.underlying54 el_53 (ho3) (Reads.of_own hoo) (by omega) (by simp) (by unfold maxLen; omega) (by omega) ?_
        intro A4 c4 w4 hT hg4 hb4 hor4
        have hOo := hoo.kept hg4 (by
          cases e : Value.ownBlock (.slice B q d) with
          | none => exact .inl rfl
          | some g =>
            refine .inr fun e2 => ?_
            have h1 := (ho2.lt g e).2
            have h2 : some b3 = some g := e2.symm
            injection h2 with h2
            omega)
        have hm4 := (hm2.ext he3).kept hg4 (by intro hh; injection hh with hh; have := hm2.lt; have h2 : b = b3 := hh; omega)
        have he4 : Ext w w4 := (he2.trans he3).low hb4 z2
        obtain ⟨gT, hgT⟩ : ∃ gT, Value.ownBlock (.slice A4 (1 + q) c4) = some gT := by
          rcases hor4 with e | e
          · exact ⟨_, e⟩
          · exact ⟨_, e⟩
        have hTge : w2.heap.size ≤ gT := (hT.lt gT hgT).1
        have hne4 : Value.ownBlock (.slice B q d) ≠ some gT := fun e => by have := (ho2.lt gT e).2; omega
        have hT : w4.ownsRow w2.heap.size 53 1 (.slice A4 (1 + q) c4) (1 + q) (nums .u32 (zl (x :: o))) := hT
        refine L.va rfl (X.len rfl Try.underlying54) ?_
        refine L.va rfl (X.move (by conv => lhs; whnf)) ?_
        refine L.nil ?_
        refine J.block ?_
        -- loop
        refine J.loop (X := Nat × List Nat × Option Addr × Nat × Nat) [5, 9, 10, 11, 27, 28, 29, 30, 31, 32, 33, 34, 35, 36, 37, 38, 39, 40, 41, 42, 43, 44, 45, 46, 47, 48, 49, 50, 51, 52, 53] (fun (j, p, B, q, d) => [(27, .int .i64 (j : Int)), (5, .slice B q d)]) (fun (j, p, B, q', d) w' => j ≤ 1 + q ∧ q' = p.length ∧ q' ≤ q + j ∧ p.Nodup ∧ (∀ z, z ∈ p ↔ z ∈ o ∨ ∃ y ∈ (x :: o).take j, z = x &&& y) ∧ MapK Try.prog 53 3 w' b q' (Sq p) ∧ w'.ownsRow w.heap.size 53 1 (.slice B q' d) q' (nums .u32 (zl p)) ∧ w'.ownsRow w2.heap.size 53 1 (.slice A4 (1 + q) c4) (1 + q) (nums .u32 (zl (x :: o))) ∧ Value.ownBlock (.slice B q' d) ≠ some gT ∧ Ext w w') (fun (j, _) => 1 + q - j) ((0, o, B, q, d)) (At2 (by first | rfl | exact at_int rfl (by omega) | exact at_slice rfl (by omega) | exact at_int rfl (by simp)) (by first | rfl | exact at_int rfl (by omega) | exact at_slice rfl (by omega) | exact at_int rfl (by simp))) ?_ ?_
        · exact ⟨Nat.zero_le _, hq, by omega, hnd, fun z => by simp, hm4, hOo, hT, hne4, he4⟩
        · rintro ⟨j, p, B, q', d⟩ g w5 ⟨hj, hq', hqj, hnd, hmp, hm5, ho5, hT5, hne5, he5⟩
          have z5 := he5.le
          refine J.seq ?_
          refine J.region ?_
          refine L.va rfl (X.lss rfl rfl) ?_
          refine L.nil ?_
          refine J.seq ?_
          -- cond
          refine J.dec rfl (fun hltj => ?_) (fun hltj => ?_)
          · have hj1 : j < 1 + q := by omega
            have hrT := Reads.of_own hT5
            have hAT := hrT.some_ (by omega)
            obtain ⟨y, hy⟩ : ∃ y, y = (x :: o).getD j 0 := ⟨_, rfl⟩
            have hjl : j < (x :: o).length := by simp only [List.length_cons]; omega
            have hyg : (x :: o)[j] = y := by rw [hy, List.getD, List.getElem?_eq_getElem hjl]; rfl
            have hym : y ∈ x :: o := by rw [← hyg]; exact List.getElem_mem _
            have hy32 : y < 4294967296 := by
              rcases List.mem_cons.1 hym with e | h
              · rw [e]; exact hx32
              · exact ((hmem y).1 h).lt
            have hldy : Ld w5 (pA A4 j) (.int .u32 (y : Int)) := by have := Ld.num hrT hj1; rwa [zl_getD, ← hy] at this
            have hz32 : x &&& y < 4294967296 := Nat.lt_of_le_of_lt Nat.and_le_left hx32
            have eand := andU x y hx32 hy32
            obtain ⟨v0, β, hlook, hβ⟩ := hm5.look K1 Try.underlying138 Try.underlying3 (hz _) (keyU hz32)
            rw [Sq.at] at hβ
            have htj : (x :: o).take (j + 1) = (x :: o).take j ++ [y] := by rw [List.take_add_one, List.getElem?_eq_getElem hjl, hyg]; rfl
            have hmz : ∀ z, (z ∈ p ∨ z = x &&& y) ↔ z ∈ o ∨ ∃ y ∈ (x :: o).take (j + 1), z = x &&& y := fun z => by
              rw [hmp, htj]
              constructor
              · rintro ((h | ⟨y', h1, h2⟩) | h)
                · exact .inl h
                · exact .inr ⟨y', List.mem_append_left _ h1, h2⟩
                · exact .inr ⟨y, by simp, h⟩
              · rintro (h | ⟨y', h1, h2⟩)
                · exact .inl (.inl h)
                · rcases List.mem_append.1 h1 with h1 | h1
                  · exact .inl (.inr ⟨y', h1, h2⟩)
                  · rw [List.mem_singleton] at h1
                    subst h1
                    exact .inr h2
            -- t35
            -- t36
            -- t44
            -- t50
            refine J.skip ?_
            refine J.seq ?_
            refine J.block ?_
            refine J.seq ?_
            refine J.region ?_
            refine L.va rfl ((by first | exact X.index1n rfl rfl Try.underlying54 sz_53 (by first | exact Option.some_ne_none _ | exact hAT | exact hldy) (by omega) | exact X.index1 rfl rfl Try.underlying54 sz_53 (by first | exact Option.some_ne_none _ | exact hAT | exact hldy) (by omega))) ?_
            refine L.va rfl (X.load rfl sc_53 (by first | exact hAT | exact hldy)) ?_
            refine L.va rfl (X.assign (by conv => lhs; whnf)) ?_
            refine L.nil ?_
            refine J.seq ?_
            refine J.region ?_
            refine L.va rfl (X.move (by conv => lhs; whnf)) ?_
            refine L.va rfl (X.move (by conv => lhs; whnf)) ?_
            refine L.va rfl (X.move (by conv => lhs; whnf)) ?_
            refine L.va rfl (X.andEU rfl rfl eand) ?_
            refine L.va rfl (X.lookR rfl rfl hlook) ?_
            refine L.va rfl (X.move (by conv => lhs; whnf)) ?_
            refine L.va rfl (X.extract rfl rfl) ?_
            refine L.va rfl (X.extract rfl rfl) ?_
            refine L.va rfl (X.assign (by conv => lhs; whnf)) ?_
            refine L.va rfl (X.assign (by conv => lhs; whnf)) ?_
            refine L.nil ?_
            refine J.seq ?_
            refine J.region ?_
            refine L.va rfl (X.move (by conv => lhs; whnf)) ?_
            refine L.va rfl (X.not rfl) ?_
            refine L.nil ?_
            -- cond
            by_cases hin : x &&& y ∈ p
            · rw [hβ.2 hin]
              refine J.iteF rfl ?_
              refine J.skip ?_
              refine J.region ?_
              refine L.va rfl (X.add rfl rfl (by omega)) ?_
              refine L.va rfl (X.move (by conv => lhs; whnf)) ?_
              refine L.nil ?_
              -- loopend
              refine ⟨(j + 1, p, B, q', d), At2 (by first | rfl | exact at_int rfl (by omega) | exact at_slice rfl (by omega) | exact at_int rfl (by simp)) (by first | rfl | exact at_int rfl (by omega) | exact at_slice rfl (by omega) | exact at_int rfl (by simp)), (by (iterate 18 refine Agr.lk rfl ?_); exact Agr.lk rfl (Agr.hav rfl Agr.rfl')), ?_⟩
              exact ⟨⟨by omega, hq', by omega, hnd, fun z => by rw [← hmz]; exact ⟨.inl, fun h => h.elim id fun h => h ▸ hin⟩, hm5, ho5, hT5, hne5, he5⟩, by show 1 + q - (j + 1) < 1 + q - j; omega⟩
            · have hβf : β = false := by
                cases β
                · rfl
                · exact absurd (hβ.1 rfl) hin
              rw [hβf]
              have hqm : q' + 1 ≤ 5000 := by omega
              refine J.iteT rfl ?_
              refine J.seq ?_
              refine J.region ?_
              refine L.va rfl (X.move (by conv => lhs; whnf)) ?_
              refine L.va rfl (X.move (by conv => lhs; whnf)) ?_
              refine L.va rfl (X.move (by conv => lhs; whnf)) ?_
              refine L.va rfl (X.andEU rfl rfl eand) ?_
              refine L.va rfl (X.move (by conv => lhs; whnf)) ?_
              refine L.va rfl (X.len rfl Try.underlying54) ?_
              -- mapUpdate
              refine L.mapPutK rfl rfl rfl rfl hm5 K1 Try.underlying138 Try.underlying3 (by unfold maxLen; omega) (keyU hz32) (wf64 (by omega)) ?_
              intro w6 hm6 hg6
              have ho6 := ho5.kept hg6 (.inr (hm5.ne_row ho5))
              have hT6 := hT5.kept hg6 (.inr (hm5.ne_row hT5))
              have he6 : Ext w w6 := he5.grw hg6 (by intro g hg; injection hg with hg; omega)
              have z6 := he6.le
              have hz26 : w2.heap.size ≤ w6.heap.size := by have := (hT6.lt gT hgT).2; omega
              refine L.nil ?_
              refine J.region ?_
              refine L.va rfl (X.move (by conv => lhs; whnf)) ?_
              refine L.va rfl (X.move (by conv => lhs; whnf)) ?_
              refine L.va rfl (X.move (by conv => lhs; whnf)) ?_
              refine L.va rfl (X.andEU rfl rfl eand) ?_
              -- buildSlice
              refine L.bslice (vs := [_]) rfl (Evs.cons (by conv => lhs; whnf) Evs.nil) rfl rfl rfl rfl Try.underlying54 sz_53 zr_53 (by decide) ?_
              intro b7 w7 hb7 hs7 hk7 he7
              have ho7 := ho6.ext he7
              have hT7 := hT6.ext he7
              have hm7 := hm6.ext he7
              -- append
              refine L.appendQ (q := q' + 1) (ys := zl p ++ [((x &&& y : Nat) : Int)]) rfl rfl rfl Try.underlying54 el_53 (ho7) (blk_readsN (sz := 1) (q := 1) (l := nums .u32 [((x &&& y : Nat) : Int)]) hk7 hk7.lt rfl) (by omega) (by simp) (by unfold maxLen; omega) (by omega) ?_
              intro A8 c8 w8 ho8 hg8 hb8 hor8
              rw [← zl_snoc] at ho8
              have hT8 := hT7.kept hg8 (.inr (by rw [hgT]; exact fun e => hne5 e.symm))
              have hm8 := (hm7.kept hg8 (fun e => hm7.ne_row ho7 e.symm)).same (Sq.snoc p (x &&& y))
              have he8 : Ext w w8 := (he6.trans he7).low hb8 (Nat.le_refl _)
              have hne8 := own_grow hT7 hgT hne5 hor8
              refine L.va rfl (X.assign (by conv => lhs; whnf)) ?_
              refine L.nil ?_
              refine J.region ?_
              refine L.va rfl (X.add rfl rfl (by omega)) ?_
              refine L.va rfl (X.move (by conv => lhs; whnf)) ?_
              refine L.nil ?_
              -- loopend
              refine ⟨(j + 1, p ++ [x &&& y], A8, q' + 1, c8), At2 (by first | rfl | exact at_int rfl (by omega) | exact at_slice rfl (by omega) | exact at_int rfl (by simp)) (by first | rfl | exact at_int rfl (by omega) | exact at_slice rfl (by omega) | exact at_int rfl (by simp)), (by (iterate 31 refine Agr.lk rfl ?_); exact Agr.lk rfl (Agr.hav rfl Agr.rfl')), ?_⟩
              refine ⟨⟨by omega, by rw [List.length_append, ← hq']; rfl, by omega, ?_, fun z => ?_, hm8, ho8, hT8, hne8, he8⟩, by show 1 + q - (j + 1) < 1 + q - j; omega⟩
              · rw [List.nodup_append]
                refine ⟨hnd, by simp, fun a ha b hb e => ?_⟩
                rw [List.mem_singleton] at hb
                subst hb
                subst e
                exact hin ha
              · rw [← hmz, List.mem_append, List.mem_singleton]
          · have hjq : (x :: o).take j = x :: o := List.take_of_length_le (by simp only [List.length_cons]; omega)
            rw [hjq] at hmp
            refine J.exit ?_
            refine J.region ?_
            refine L.va rfl (X.add rfl rfl (by omega)) ?_
            refine L.va rfl (X.move (by conv => lhs; whnf)) ?_
            refine L.nil ?_
            -- loopend
            refine ⟨(i + 1, p, B, q', d), At2 (by first | rfl | exact at_int rfl (by omega) | exact at_slice rfl (by omega) | exact at_int rfl (by simp)) (by first | rfl | exact at_int rfl (by omega) | exact at_slice rfl (by omega) | exact at_int rfl (by simp)), (by (iterate 3 refine Agr.lk rfl ?_); refine Agr.lk rfl ?_; refine Agr.hav rfl ?_; (iterate 10 refine Agr.lk rfl ?_); exact Agr.lk rfl (Agr.hav rfl Agr.rfl')), ?_⟩
            refine ⟨⟨by omega, hq', by omega, hnd, fun z => ?_, hm5, ho5, he5⟩, by show n - (i + 1) < n - i; omega⟩
            rw [hmp, htk, Cm.snoc hx32, hmem]
            constructor
            · rintro (h | ⟨y, hy, e⟩)
              · exact .inl h
              · rcases List.mem_cons.1 hy with rfl | hy
                · exact .inr ⟨y, .inl rfl, e⟩
                · exact .inr ⟨y, .inr ((hmem y).1 hy), e⟩
            · rintro (h | ⟨y, rfl | hy, e⟩)
              · exact .inl h
              · exact .inr ⟨y, by simp, e⟩
              · exact .inr ⟨y, List.mem_cons_of_mem _ ((hmem y).2 hy), e⟩
      · obtain rfl : i = n := by omega
        rw [List.take_of_length_le (by omega)] at hmem
        have hpi := hp12 i (by omega)
        refine J.exit ?_
        refine J.seq ?_
        refine J.region ?_
        refine L.va rfl (X.move (by conv => lhs; whnf)) ?_
        -- callfn slices.Sort[[]uint32,uint32]
        refine L.call rfl en_107 rfl (sortU B q d w.heap.size (zl o) w2 ho2 (by omega)) ?_
        rintro e w3 ⟨rfl, o', ho3, hg3, hpm, hI⟩
        refine ⟨_, rfl, ?_⟩
        have he3 : Ext w w3 := he2.grw hg3 (fun g hg => (ho2.lt g hg).1)
        refine L.nil ?_
        refine J.seq ?_
        refine J.region ?_
        refine L.va rfl (X.move (by conv => lhs; whnf)) ?_
        refine L.va rfl (X.assign (by conv => lhs; whnf)) ?_
        refine L.va rfl (X.assign (by conv => lhs; whnf)) ?_
        refine L.nil ?_
        -- ret
        refine J.ret ?_
        refine fin2 ?_
        exact .inr ⟨by omega, B, q, d, o', rfl, ho3, hpm.nodup_iff.2 (zl_nodup hnd), hI, by omega, fun z => by rw [hpm.mem_iff, mem_zl]; exact ⟨fun ⟨y, e, hy⟩ => ⟨y, e, (hmem y).1 hy⟩, fun ⟨y, e, hy⟩ => ⟨y, e, (hmem y).2 hy⟩⟩, he3⟩
end Go.Proofs.Ytmnlaekcojblkaa
