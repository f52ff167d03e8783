/-
  The reference's disk: data, Block, Bytes, With, Now, Image.
-/
import Derived.Test.YtdmfikedojgjbaaWDiskE
import Derived.Test.YtdmfikedojgjbaaDiskAbs
import Derived.Test.YtdmfikedojgjbaaRowsOf
namespace Go.Proofs.Ytdmfikedojgjbaa
set_option maxRecDepth 100000
open Go.RowKit H
set_option linter.unusedVariables false
/-- the first numbers of a list, and then nothing -/
def fillI (L : List Int) (n i : Nat) : List Int := L.take i ++ List.replicate (n - i) 0
theorem fill_set {L : List Int} {n i : Nat} (hl : L.length = n) (hi : i < n) : (fillI L n i).set i (L.getD i 0) = fillI L n (i + 1) := by
  unfold fillI
  rw [List.set_append_right _ _ (by simp; omega)]
  simp only [List.length_take]
  rw [show i - min i L.length = 0 by omega, show n - i = (n - (i + 1)) + 1 by omega, List.replicate_succ, List.set_cons_zero, List.take_add_one, List.getElem?_eq_getElem (by omega : i < L.length), List.append_assoc]
  simp [List.getD, show i < L.length by omega]
theorem fill_all {L : List Int} {n : Nat} (hl : L.length = n) : fillI L n n = L := by
  unfold fillI
  rw [Nat.sub_self, List.take_of_length_le (by omega)]
  simp
theorem fill_len {L : List Int} {n i : Nat} (hl : L.length = n) (hi : i ≤ n) : (fillI L n i).length = n := by
  unfold fillI
  simp
  omega
theorem blkOf_at {zs : List Int} {i : Nat} (hi : i < 1024) : (blkOf zs).getD i 0 = if 0 < zs.length then zs.getD (i % zs.length) 0 else 0 := by
  unfold blkOf
  rw [List.getD, List.getElem?_map, List.getElem?_range hi]
  rfl
theorem block_ {w : World} (A : Option Addr) (n c : Nat) (zs : List Int) (hr : Reads w w.heap.size 1 A n (nums .u8 zs)) (hn : n ≤ 1000000) : Calls Try.prog 69 #[.slice A n c] w fun e w' =>
    ∃ A' c', e = .returned (.slice A' 1024 c') ∧ w'.ownsRow w.heap.size 5 1 (.slice A' 1024 c') 1024 (nums .u8 (blkOf zs)) ∧ Ext w w' := by
  have hzl : zs.length = n := by have := hr.1; simpa [nums] using this
  refine enter Try.func69 rfl (by kernel_rfl) ?_
  refine J.seq ?_
  refine J.region ?_
  refine L.va rfl (X.assign (by conv => lhs; whnf)) ?_
  refine L.nil ?_
  refine J.seq ?_
  refine J.region ?_
  -- makeSlice
  refine L.make (q := 1024) (c := 1024) rfl rfl rfl Try.underlying30 el_5 (by omega) ?_
  intro b1 w1 hb1 hs1 hk1 he1
  rw [made_nums] at hk1
  have ho1 : w1.ownsRow w.heap.size 5 1 (.slice (some ⟨b1, 0, none⟩) 1024 1024) 1024 (nums .u8 (List.replicate 1024 0)) := by
    have := blk_own1 (q := 1024) hk1 (by omega : w.heap.size ≤ b1) (by decide) (by simp [nums])
    exact this
  refine L.va rfl (X.assign (by conv => lhs; whnf)) ?_
  refine L.nil ?_
  refine J.seq ?_
  refine J.seq ?_
  refine J.region ?_
  refine L.va rfl (X.assign (by conv => lhs; whnf)) ?_
  refine L.nil ?_
  refine J.block ?_
  -- loop
  refine J.loop (X := Nat) [4, 6, 7, 8, 9, 10, 11, 12, 13, 14, 15, 16, 17, 18, 19, 20, 21, 22] (fun i => [(4, .int .i64 (i : Int))]) (fun i w' => i ≤ 1024 ∧ w'.ownsRow w.heap.size 5 1 (.slice (some ⟨b1, 0, none⟩) 1024 1024) 1024 (nums .u8 (fillI (blkOf zs) 1024 i)) ∧ Ext w w') (fun i => 1024 - i) (0) (At1 (by first | rfl | exact at_int rfl (by omega) | exact at_slice rfl (by omega) | exact at_int rfl (by simp))) ?_ ?_
  · exact ⟨by omega, ho1, he1⟩
  · rintro i g w2 ⟨hi, ho2, he2⟩
    have hr2 := hr.ext he2
    refine J.seq ?_
    refine J.seq ?_
    refine J.region ?_
    refine L.va rfl (X.move (by conv => lhs; whnf)) ?_
    refine L.va rfl (X.lss rfl rfl) ?_
    refine L.nil ?_
    -- cond
    refine J.dec rfl (fun hlt => ?_) (fun hlt => ?_)
    · have hi4 : i < 1024 := by omega
      have hat := blkOf_at (zs := zs) hi4
      refine J.skip ?_
      refine J.seq ?_
      refine J.block ?_
      refine J.seq ?_
      refine J.region ?_
      refine L.va rfl (X.move (by conv => lhs; whnf)) ?_
      refine L.va rfl (X.len rfl Try.underlying30) ?_
      refine L.va rfl (X.gtr rfl rfl) ?_
      refine L.nil ?_
      -- cond
      refine J.dec rfl (fun hpos => ?_) (fun hpos => ?_)
      · have hmod : i % n < n := Nat.mod_lt _ (by omega)
        rw [if_pos (by omega), hzl] at hat
        -- t20
        -- t21
        refine J.region ?_
        refine L.va rfl (X.move (by conv => lhs; whnf)) ?_
        refine L.va rfl (X.move (by conv => lhs; whnf)) ?_
        refine L.va rfl (X.move (by conv => lhs; whnf)) ?_
        refine L.va rfl (X.move (by conv => lhs; whnf)) ?_
        refine L.va rfl (X.move (by conv => lhs; whnf)) ?_
        refine L.va rfl (X.len rfl Try.underlying30) ?_
        refine L.va rfl (X.rem rfl rfl (by omega)) ?_
        refine L.va rfl (X.index1n (j := i % n) rfl rfl Try.underlying30 sz_5 (hr2.some_ (by omega)) (by omega)) ?_
        refine L.va rfl (X.load rfl sc_5 (Ld.num hr2 hmod)) ?_
        refine L.va rfl ((by first | exact X.index1n rfl rfl Try.underlying30 sz_5 (by first | exact Option.some_ne_none _ ) (by omega) | exact X.index1 rfl rfl Try.underlying30 sz_5 (by first | exact Option.some_ne_none _ ) (by omega))) ?_
        -- store
        refine L.storeON rfl rfl (by conv => lhs; whnf) sz_5 (ho2) (by omega) ?_
        intro w3 ho3 hg3 hb3 hs3
        rw [← hat, fill_set (blkOf_length _) hi4] at ho3
        refine L.nil ?_
        refine J.region ?_
        refine L.va rfl (X.move (by conv => lhs; whnf)) ?_
        refine L.va rfl (X.add rfl rfl (by omega)) ?_
        refine L.va rfl (X.assign (by conv => lhs; whnf)) ?_
        refine L.nil ?_
        -- loopend
        refine ⟨i + 1, At1 (by first | rfl | exact at_int rfl (by omega) | exact at_slice rfl (by omega) | exact at_int rfl (by simp)), (by (iterate 18 refine Agr.lk rfl ?_); exact Agr.lk rfl (Agr.hav rfl Agr.rfl')), ?_⟩
        exact ⟨⟨by omega, ho3, he2.low hb3 (Nat.le_refl _)⟩, by omega⟩
      · rw [if_neg (by omega)] at hat
        have e : fillI (blkOf zs) 1024 (i + 1) = fillI (blkOf zs) 1024 i := by
          rw [← fill_set (blkOf_length _) hi4, hat]
          unfold fillI
          rw [List.set_append_right _ _ (by simp; omega)]
          simp only [List.length_take, blkOf_length]
          rw [show i - min i 1024 = 0 by omega, show 1024 - i = (1024 - (i + 1)) + 1 by omega, List.replicate_succ, List.set_cons_zero]
        refine J.skip ?_
        refine J.region ?_
        refine L.va rfl (X.move (by conv => lhs; whnf)) ?_
        refine L.va rfl (X.add rfl rfl (by omega)) ?_
        refine L.va rfl (X.assign (by conv => lhs; whnf)) ?_
        refine L.nil ?_
        -- loopend
        refine ⟨i + 1, At1 (by first | rfl | exact at_int rfl (by omega) | exact at_slice rfl (by omega) | exact at_int rfl (by simp)), (by (iterate 8 refine Agr.lk rfl ?_); exact Agr.lk rfl (Agr.hav rfl Agr.rfl')), ?_⟩
        exact ⟨⟨by omega, by rw [e]; exact ho2, he2⟩, by omega⟩
    · obtain rfl : i = 1024 := by omega
      rw [fill_all (blkOf_length _)] at ho2
      refine J.exit ?_
      refine J.seq ?_
      refine J.region ?_
      refine L.va rfl (X.move (by conv => lhs; whnf)) ?_
      refine L.va rfl (X.assign (by conv => lhs; whnf)) ?_
      refine L.nil ?_
      -- ret
      refine J.ret ?_
      refine fin1 ?_
      exact ⟨_, _, rfl, ho2, he2⟩
/-- a deed in memory -/
structure Dm where
  (kind n : Int) (dA : Option Addr) (dn dc : Nat) (odd : Bool) (kA : Option Addr) (kn kc : Nat) (data : List Int) (keep : List Bool)
abbrev Dm.vals (x : Dm) : List Value := [.int .i64 x.kind, .int .i64 x.n, .slice x.dA x.dn x.dc, .bool x.odd, .slice x.kA x.kn x.kc]
abbrev Dm.v (x : Dm) : Value := .agg x.vals.toArray
def Dm.dd (x : Dm) : Dd := ⟨x.kind, x.n, x.data, x.odd, x.keep⟩
structure Dm.At (x : Dm) (N : Nat) (w : World) : Prop where
  hd : Reads w N 1 x.dA x.dn (nums .u8 x.data)
  hk : Reads w N 1 x.kA x.kn (x.keep.map Value.bool)
  hb : ∀ z ∈ x.data, 0 ≤ z ∧ z < 256
  hn : -9223372036854775808 ≤ x.n ∧ x.n ≤ 9223372036854775807
  hl : x.dn ≤ maxLen ∧ x.kn ≤ maxLen
theorem Dm.At.low {x : Dm} {N : Nat} {w w' : World} (h : x.At N w) (hb : Below N w w') : x.At N w' := ⟨h.hd.low hb (Nat.le_refl _), h.hk.low hb (Nat.le_refl _), h.hb, h.hn, h.hl⟩
theorem Dm.At.len {x : Dm} {N : Nat} {w : World} (h : x.At N w) : x.data.length = x.dn := by have := h.hd.1; simpa [nums] using this
/-- a sector's bytes, the call's own or an argument's -/
def RD (N : Nat) (w : World) (x : Value) (zs : List Int) : Prop := Dat w x zs ∨ ∃ A c, x = .slice A 1024 c ∧ Reads w N 1 A 1024 (nums .u8 zs)
theorem RD.slice {N : Nat} {w : World} {x : Value} {zs : List Int} (h : RD N w x zs) (hN : N ≤ w.heap.size) : ∃ A c, x = .slice A 1024 c ∧ Reads w w.heap.size 1 A 1024 (nums .u8 zs) := by
  rcases h with h | ⟨A, c, rfl, h⟩
  · exact h.slice
  · exact ⟨A, c, rfl, h.more hN⟩
theorem RD.one {N : Nat} {w : World} {x : Value} {zs : List Int} (h : RD N w x zs) : x.oneCell' = true := by
  rcases h with h | ⟨A, c, rfl, h⟩
  · exact h.one
  · rfl
theorem RD.len {N : Nat} {w : World} {x : Value} {zs : List Int} (h : RD N w x zs) : zs.length = 1024 := by
  rcases h with h | ⟨A, c, rfl, h⟩
  · exact h.len
  · have := h.1
    simpa [nums] using this
theorem RD.ext {N : Nat} {w w' : World} {x : Value} {zs : List Int} (h : RD N w x zs) (he : Ext w w') (hN : N ≤ w.heap.size) : RD N w' x zs := by
  rcases h with h | ⟨A, c, rfl, h⟩
  · exact .inl (h.ext he)
  · exact .inr ⟨A, c, rfl, h.low (Below.mono he hN) (Nat.le_refl _)⟩
theorem RD.kq {N N' : Nat} {v : Dk} {C : Nat → Prop} {w w' : World} {x : Value} {zs : List Int} (h : RD N w x zs) (hv : v.At N' C w) (k : Kq v.kb v.d C w w') (hN : N ≤ N') : RD N w' x zs := by
  rcases h with h | ⟨A, c, rfl, h⟩
  · exact .inl (h.kq hv k)
  · exact .inr ⟨A, c, rfl, h.low (Below.mono (hv.below k) hN) (Nat.le_refl _)⟩
theorem Dm.At.bytes_ {x : Dm} {N : Nat} {w : World} (h : x.At N w) (hN : N ≤ w.heap.size) (hd : x.dn ≤ 1000000) : Calls Try.prog 24 #[x.v] w fun e w' =>
    ∃ A c, e = .returned (.slice A x.dd.bytes.length c) ∧ Reads w' w'.heap.size 1 A x.dd.bytes.length (nums .u8 x.dd.bytes) ∧ (x.dd.bytes.length = 1024 → RD N w' (.slice A 1024 c) x.dd.bytes) ∧ Ext w w' := by
  have hl := h.len
  refine enter Try.func24 rfl (by kernel_rfl) ?_
  refine J.seq ?_
  refine J.region ?_
  -- box
  refine L.boxA (l := [_, _, _, _, _]) rfl rfl ?_
  intro b1 w1 hb1 hs1 hk1 he1
  refine L.va rfl (X.assign (by conv => lhs; whnf)) ?_
  refine L.nil ?_
  refine J.seq ?_
  refine J.seq ?_
  refine J.region ?_
  refine L.va rfl (X.fieldAddr rfl Try.underlying34 rfl sz_4 (by decide)) ?_
  refine L.va rfl (X.load rfl sc_4 (by first | exact Ld.blk hk1 rfl)) ?_
  refine L.nil ?_
  -- cond
  refine J.ite rfl (fun ho => ?_) (fun ho => ?_)
  · refine J.seq ?_
    refine J.region ?_
    refine L.va rfl (X.fieldAddr rfl Try.underlying34 rfl sz_30 (by decide)) ?_
    refine L.va rfl (X.load rfl sc_30 (by first | exact Ld.blk hk1 rfl)) ?_
    refine L.va rfl (X.assign (by conv => lhs; whnf)) ?_
    refine L.nil ?_
    -- ret
    refine J.ret ?_
    refine thn_ret <| ?_
    refine fin1 ?_
    have e : x.dd.bytes = x.data := by unfold Dd.bytes; rw [if_pos (by exact ho)]; rfl
    rw [e, hl]
    refine ⟨x.dA, x.dc, rfl, (h.hd.low (Below.mono he1 hN) (Nat.le_refl _)).more (by have := he1.le; omega), fun h1 => .inr ⟨_, _, rfl, ?_⟩, he1⟩
    have := h.hd.low (Below.mono he1 hN) (Nat.le_refl _)
    rw [h1] at this
    exact this
  · refine J.skip ?_
    refine J.seq ?_
    refine J.region ?_
    refine L.va rfl (X.fieldAddr rfl Try.underlying34 rfl sz_30 (by decide)) ?_
    refine L.va rfl (X.load rfl sc_30 (by first | exact Ld.blk hk1 rfl)) ?_
    -- callfn bushel/bushelref19.Block
    refine L.call rfl en_69 rfl (block_ x.dA x.dn x.dc x.data ((h.hd.low (Below.mono he1 hN) (Nat.le_refl _)).more (by have := he1.le; omega)) hd) ?_
    rintro e w2 ⟨A, c, rfl, ho2, he2⟩
    refine ⟨_, rfl, ?_⟩
    refine L.va rfl (X.assign (by conv => lhs; whnf)) ?_
    refine L.nil ?_
    -- ret
    refine J.ret ?_
    refine fin1 ?_
    have e : x.dd.bytes = blkOf x.data := by unfold Dd.bytes; rw [if_neg (show ¬ x.dd.odd = true from (by rw [show x.dd.odd = x.odd from rfl, ho]; decide))]; rfl
    rw [e, blkOf_length]
    exact ⟨A, c, rfl, Reads.of_own ho2, fun _ => .inl (Dat.of_own ho2), he1.trans he2⟩
end Go.Proofs.Ytdmfikedojgjbaa
