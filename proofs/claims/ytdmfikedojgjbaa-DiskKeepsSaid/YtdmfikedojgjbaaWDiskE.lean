/-
  A disk's Image; disks made: Load, New, Clone.
-/
import Derived.Test.YtdmfikedojgjbaaWDiskD
namespace Go.Proofs.Ytdmfikedojgjbaa
set_option maxRecDepth 100000
open Go.RowKit H
set_option linter.unusedVariables false
theorem flat_take {l : List (List Int)} {i : Nat} (hi : i < l.length) : (l.take (i + 1)).flatten = (l.take i).flatten ++ l.getD i [] := by
  rw [List.take_add_one, List.getElem?_eq_getElem hi, List.flatten_append]
  simp [List.getD, hi]
theorem flat_len {l : List (List Int)} (h : ∀ x ∈ l, x.length = 1024) (i : Nat) (hi : i ≤ l.length) : ((l.take i).flatten).length = i * 1024 := by
  induction i with
  | zero => simp
  | succ i ih =>
    rw [flat_take (by omega), List.length_append, ih (by omega)]
    have : l.getD i [] = l[i] := by simp [List.getD, show i < l.length by omega]
    rw [this, h _ (List.getElem_mem _)]
    omega
namespace Dk
variable {v : Dk} {N : Nat} {C : Nat → Prop} {w : World}
/-- what is kept -/
def dat (v : Dk) : List (List Int) := v.kp.map (·.2)
theorem At.dlen (h : v.At N C w) : ∀ x ∈ v.dat, x.length = 1024 := by
  intro x hx
  obtain ⟨y, hy, rfl⟩ := List.mem_map.1 hx
  exact (h.kd y hy).len
theorem At.image_ (h : v.At N C w) : Calls Try.prog 20 #[v.ptr] w fun e w' => ∃ A c, e = .returned (.slice A (v.kp.length * 1024) c) ∧ w'.ownsRow w.heap.size 5 1 (.slice A (v.kp.length * 1024) c) (v.kp.length * 1024) (nums .u8 v.dat.flatten) ∧ Ext w w' := by
  have hb := h.hb
  have h1 := h.h1
  have hdl : v.dat.length = v.kp.length := by simp [dat]
  have hfl := flat_len h.dlen
  refine enter Try.func20 rfl (by kernel_rfl) ?_
  refine J.seq ?_
  refine J.region ?_
  refine L.va rfl (X.assign (by conv => lhs; whnf)) ?_
  refine L.nil ?_
  refine J.seq ?_
  refine J.seq ?_
  refine J.region ?_
  refine L.va rfl (X.move (by conv => lhs; whnf)) ?_
  -- callfn (*bushel/disk.Disk).is
  refine L.call rfl en_68 rfl (h.is) ?_
  rintro e _ ⟨rfl, rfl⟩
  refine ⟨_, rfl, ?_⟩
  refine L.va rfl (X.not rfl) ?_
  refine L.nil ?_
  -- cond
  refine J.iteF rfl ?_
  refine J.skip ?_
  refine J.seq ?_
  refine J.region ?_
  refine L.va rfl (X.move (by conv => lhs; whnf)) ?_
  refine L.va rfl (X.nilCheck rfl) ?_
  refine L.va rfl (X.fieldAddr rfl Try.underlying58 rfl sz_41 (by decide)) ?_
  refine L.va rfl (X.load rfl sc_41 (by first | exact Ld.blk hb rfl)) ?_
  refine L.va rfl (X.len rfl Try.underlying41) ?_
  refine L.va rfl (X.mul rfl rfl (by omega)) ?_
  -- makeSlice
  refine L.make (q := 0) (c := v.kp.length * 1024) rfl rfl rfl Try.underlying30 el_5 (by omega) ?_
  intro b1 w1 hb1 hs1 hk1 he1
  rw [made_nums] at hk1
  have ho1 : w1.ownsRow w.heap.size 5 1 (.slice (some ⟨b1, 0, none⟩) 0 (v.kp.length * 1024)) 0 (nums .u8 []) := blk_own (size := 1) hk1 (by omega) (Nat.zero_le _) (by unfold maxLen; omega) (by simp [nums])
  replace hb := hb.ext he1
  refine L.va rfl (X.assign (by conv => lhs; whnf)) ?_
  refine L.nil ?_
  refine J.seq ?_
  refine J.seq ?_
  refine J.region ?_
  refine L.va rfl (X.move (by conv => lhs; whnf)) ?_
  refine L.va rfl (X.nilCheck rfl) ?_
  refine L.va rfl (X.fieldAddr rfl Try.underlying58 rfl sz_41 (by decide)) ?_
  refine L.va rfl (X.load rfl sc_41 (by first | exact Ld.blk hb rfl)) ?_
  refine L.va rfl (X.len rfl Try.underlying41) ?_
  refine L.va rfl (X.move (by conv => lhs; whnf)) ?_
  refine L.nil ?_
  refine J.block ?_
  -- loop
  -- loop
  refine J.loop (X := Nat × Option Addr × Nat) [3, 5, 21, 22, 23, 24, 25, 26, 27, 28] (fun x => [(21, .int .i64 (x.1 : Int)), (3, .slice x.2.1 (x.1 * 1024) x.2.2)]) (fun x w' => x.1 ≤ v.kp.length ∧ w'.ownsRow w.heap.size 5 1 (.slice x.2.1 (x.1 * 1024) x.2.2) (x.1 * 1024) (nums .u8 ((v.dat.take x.1).flatten)) ∧ Ext w w') (fun x => v.kp.length - x.1) ((0, some ⟨b1, 0, none⟩, v.kp.length * 1024)) (At2 (by first | rfl | exact at_int rfl (by omega) | exact at_slice rfl (by omega) | exact at_int rfl (by simp)) (by first | rfl | exact at_int rfl (by omega) | exact at_slice rfl (by omega) | exact at_int rfl (by simp))) ?_ ?_
  · exact ⟨by dsimp only; omega, ho1, he1⟩
  · rintro ⟨i, A, c⟩ g w2 ⟨hi, ho2, he2⟩
    dsimp only at hi ho2
    have q1 : ((i, A, c) : Nat × Option Addr × Nat).1 = i := rfl
    have H2 := h.ext he2
    have hb2 := H2.hb
    have hz2 := he2.le
    refine J.seq ?_
    refine J.region ?_
    refine L.va rfl (X.lss rfl rfl) ?_
    refine L.nil ?_
    refine J.seq ?_
    -- cond
    refine J.dec rfl (fun hlt => ?_) (fun hlt => ?_)
    · have hil : i < v.kp.length := by dsimp only at hlt; omega
      obtain ⟨A5, c5, e5, hr5⟩ := (H2.kDat hil).slice
      have hl5 := H2.kLd hil
      rw [e5] at hl5
      have hn := flat_take (l := v.dat) (i := i) (by omega)
      have hg : v.dat.getD i [] = (v.kp.getD i c0).2 := by
        have := getD_map (g := fun x : Cell => x.2) (l := v.kp) (i := i) (z := c0)
        exact this
      rw [hg] at hn
      -- t24
      refine J.skip ?_
      refine J.seq ?_
      refine J.block ?_
      refine J.seq ?_
      refine J.region ?_
      refine L.va rfl ((by first | exact X.index1n rfl rfl Try.underlying41 sz_30 (by first | exact Option.some_ne_none _ ) (by omega) | exact X.index1 rfl rfl Try.underlying41 sz_30 (by first | exact Option.some_ne_none _ ) (by omega))) ?_
      refine L.va rfl (X.load rfl sc_30 hl5) ?_
      refine L.va rfl (X.assign (by conv => lhs; whnf)) ?_
      refine L.nil ?_
      refine J.region ?_
      refine L.va rfl (X.move (by conv => lhs; whnf)) ?_
      refine L.va rfl (X.move (by conv => lhs; whnf)) ?_
      -- append
      refine L.appendQ (q := (i + 1) * 1024) (ys := (v.dat.take i).flatten ++ (v.kp.getD i c0).2) rfl rfl rfl Try.underlying30 el_5 (ho2) (hr5) (by omega) (by simp) (by unfold maxLen; omega) (by omega) ?_
      intro A3 c3 w3 ho3 hg3 hb3 hor3
      rw [← hn] at ho3
      refine L.va rfl (X.assign (by conv => lhs; whnf)) ?_
      refine L.nil ?_
      refine J.region ?_
      refine L.va rfl (X.add rfl rfl (by omega)) ?_
      refine L.va rfl (X.move (by conv => lhs; whnf)) ?_
      refine L.nil ?_
      -- loopend
      refine ⟨(i + 1, A3, c3), At2 (by first | rfl | exact at_int rfl (by omega) | exact at_slice rfl (by omega) | exact at_int rfl (by simp)) (by first | rfl | exact at_int rfl (by omega) | exact at_slice rfl (by omega) | exact at_int rfl (by simp)), (by (iterate 10 refine Agr.lk rfl ?_); exact Agr.lk rfl (Agr.hav rfl Agr.rfl')), ?_⟩
      exact ⟨⟨by dsimp only; omega, ho3, he2.low hb3 (Nat.le_refl _)⟩, by dsimp only; omega⟩
    · obtain rfl : i = v.kp.length := by dsimp only at hlt; omega
      rw [List.take_of_length_le (by omega)] at ho2
      refine J.exit ?_
      refine J.seq ?_
      refine J.region ?_
      refine L.va rfl (X.move (by conv => lhs; whnf)) ?_
      refine L.va rfl (X.assign (by conv => lhs; whnf)) ?_
      refine L.nil ?_
      -- ret
      refine J.ret ?_
      refine fin1 ?_
      exact ⟨A, c, rfl, ho2, he2⟩
end Dk
/-- a sector of bytes -/
def ck (zs : List Int) (i : Nat) : List Int := (zs.drop (1024 * i)).take 1024
theorem Dat.grown {w w' : World} {x : Value} {zs : List Int} {r : Option Nat} (h : Dat w x zs) (hg : w.grownBy w' r) (hr : ∀ g, r = some g → ¬ IsT w g 5) : Dat w' x zs := by
  obtain ⟨g, off, c, cs, rfl, hl, hb, hc⟩ := h
  exact ⟨g, off, c, cs, rfl, hl, hb.grown hg (fun e => hr g e.symm hb.isT), hc⟩
theorem Dat.ext {w w' : World} {x : Value} {zs : List Int} (h : Dat w x zs) (he : Ext w w') : Dat w' x zs := h.grown (r := none) (grown_ext he) (fun g hg => by cases hg)
/-- a new disk's parts: those that have been made -/
structure Mk (w w' : World) (d i : Nat) (A : Option Addr) (c : Nat) (kp : List Cell) (zs : List Int) : Prop where
  hb : Blk w' d 58 #[.bool false, .int .i64 (-1), .bool true, .slice A i c, .slice none 0 0, .int .i64 0, .int .i64 0, .int .i64 0]
  hk : w'.ownsRow w.heap.size 30 1 (.slice A i c) i (kp.map (·.1))
  kd : ∀ x ∈ kp, Dat w' x.1 x.2
  hz : kp.map (·.2) = (List.range i).map (ck zs)
  hl : kp.length = i
  he : Ext w w'
  hd : w.heap.size ≤ d
theorem load_6 {w : World} (A : Option Addr) (n c : Nat) (hn : n ≤ 1000000000) (h6 : n % 1024 ≠ 0) : Calls Try.prog 27 #[.slice A n c] w fun e w' => e = .returned (.tuple #[.pointer none, .int .i64 6]) ∧ w = w' := by
  refine enter Try.func27 rfl (by kernel_rfl) ?_
  refine J.seq ?_
  refine J.region ?_
  refine L.va rfl (X.assign (by conv => lhs; whnf)) ?_
  refine L.va rfl (X.assign (by conv => lhs; whnf)) ?_
  refine L.nil ?_
  refine J.seq ?_
  refine J.region ?_
  refine L.va rfl (X.move (by conv => lhs; whnf)) ?_
  refine L.va rfl (X.len rfl Try.underlying30) ?_
  refine L.va rfl (X.quo rfl rfl (by omega)) ?_
  refine L.va rfl (X.assign (by conv => lhs; whnf)) ?_
  refine L.nil ?_
  refine J.seq ?_
  refine J.seq ?_
  refine J.region ?_
  refine L.va rfl (X.move (by conv => lhs; whnf)) ?_
  refine L.va rfl (X.len rfl Try.underlying30) ?_
  refine L.va rfl (X.rem rfl rfl (by omega)) ?_
  refine L.va rfl (X.neq rfl rfl) ?_
  refine L.nil ?_
  -- cond
  refine J.ndecT rfl (by omega) ?_
  refine J.seq ?_
  refine J.region ?_
  refine L.va rfl (X.assign (by conv => lhs; whnf)) ?_
  refine L.va rfl (X.assign (by conv => lhs; whnf)) ?_
  refine L.nil ?_
  -- ret
  refine J.ret ?_
  refine thn_ret <| ?_
  refine fin2 ?_
  exact ⟨rfl, rfl⟩
theorem load_2 {w : World} (A : Option Addr) (n c : Nat) (hn : n ≤ 1000000000) (h6 : n % 1024 = 0) (h2 : n / 1024 < 1 ∨ 8192 < n / 1024) : Calls Try.prog 27 #[.slice A n c] w fun e w' => e = .returned (.tuple #[.pointer none, .int .i64 2]) ∧ w = w' := by
  refine enter Try.func27 rfl (by kernel_rfl) ?_
  refine J.seq ?_
  refine J.region ?_
  refine L.va rfl (X.assign (by conv => lhs; whnf)) ?_
  refine L.va rfl (X.assign (by conv => lhs; whnf)) ?_
  refine L.nil ?_
  refine J.seq ?_
  refine J.region ?_
  refine L.va rfl (X.move (by conv => lhs; whnf)) ?_
  refine L.va rfl (X.len rfl Try.underlying30) ?_
  refine L.va rfl (X.quo rfl rfl (by omega)) ?_
  refine L.va rfl (X.assign (by conv => lhs; whnf)) ?_
  refine L.nil ?_
  refine J.seq ?_
  refine J.seq ?_
  refine J.region ?_
  refine L.va rfl (X.move (by conv => lhs; whnf)) ?_
  refine L.va rfl (X.len rfl Try.underlying30) ?_
  refine L.va rfl (X.rem rfl rfl (by omega)) ?_
  refine L.va rfl (X.neq rfl rfl) ?_
  refine L.nil ?_
  -- cond
  refine J.ndecF rfl (by omega) ?_
  refine J.skip ?_
  refine J.seq ?_
  refine J.seq ?_
  refine J.region ?_
  refine L.va rfl (X.move (by conv => lhs; whnf)) ?_
  refine L.va rfl (X.lss rfl rfl) ?_
  refine L.va rfl (X.move (by conv => lhs; whnf)) ?_
  -- case t16
  refine L.caseDec (k := 16) rfl (fun h1 => ?_) (fun h1 => ?_)
  · refine L.no rfl ?_
    refine L.no rfl ?_
    refine L.va rfl (X.pickT rfl (by conv => lhs; whnf)) ?_
    refine L.nil ?_
    -- cond
    refine J.iteT rfl ?_
    refine J.seq ?_
    refine J.region ?_
    refine L.va rfl (X.assign (by conv => lhs; whnf)) ?_
    refine L.va rfl (X.assign (by conv => lhs; whnf)) ?_
    refine L.nil ?_
    -- ret
    refine J.ret ?_
    refine thn_ret <| ?_
    refine fin2 ?_
    exact ⟨rfl, rfl⟩
  · refine L.va rfl (X.move (by conv => lhs; whnf)) ?_
    refine L.va rfl (X.gtr rfl rfl) ?_
    refine L.va rfl (X.pickF rfl (by conv => lhs; whnf)) ?_
    refine L.nil ?_
    -- cond
    refine J.decT rfl (by omega) ?_
    refine J.seq ?_
    refine J.region ?_
    refine L.va rfl (X.assign (by conv => lhs; whnf)) ?_
    refine L.va rfl (X.assign (by conv => lhs; whnf)) ?_
    refine L.nil ?_
    -- ret
    refine J.ret ?_
    refine thn_ret <| ?_
    refine fin2 ?_
    exact ⟨rfl, rfl⟩
theorem load_ok {w : World} (A : Option Addr) (q c : Nat) (zs : List Int) (hr : Reads w w.heap.size 1 A (q * 1024) (nums .u8 zs)) (hc : q * 1024 ≤ c) (hq : 1 ≤ q ∧ q ≤ 8192) : Calls Try.prog 27 #[.slice A (q * 1024) c] w fun e w' =>
    ∃ v : Dk, e = .returned (.tuple #[v.ptr, .int .i64 0]) ∧ v.At w.heap.size (· < w.heap.size) w' ∧ v.off = false ∧ v.left = -1 ∧ v.rd = 0 ∧ v.wr = 0 ∧ v.fl = 0 ∧ v.pp = [] ∧ v.dat = (List.range q).map (ck zs) ∧ Ext w w' := by
  have e0 : ((q * 1024 : Nat) : Int) / 1024 = q := by omega
  refine enter Try.func27 rfl (by kernel_rfl) ?_
  refine J.seq ?_
  refine J.region ?_
  refine L.va rfl (X.assign (by conv => lhs; whnf)) ?_
  refine L.va rfl (X.assign (by conv => lhs; whnf)) ?_
  refine L.nil ?_
  refine J.seq ?_
  refine J.region ?_
  refine L.va rfl (X.move (by conv => lhs; whnf)) ?_
  refine L.va rfl (X.len rfl Try.underlying30) ?_
  refine L.va rfl (X.quo rfl rfl (by omega)) ?_
  refine L.va rfl (X.assign (by conv => lhs; whnf)) ?_
  refine L.nil ?_
  refine J.seq ?_
  refine J.seq ?_
  refine J.region ?_
  refine L.va rfl (X.move (by conv => lhs; whnf)) ?_
  refine L.va rfl (X.len rfl Try.underlying30) ?_
  refine L.va rfl (X.rem rfl rfl (by omega)) ?_
  refine L.va rfl (X.neq rfl rfl) ?_
  refine L.nil ?_
  -- cond
  refine J.ndecF rfl (by omega) ?_
  refine J.skip ?_
  refine J.seq ?_
  refine J.seq ?_
  refine J.region ?_
  refine L.va rfl (X.move (by conv => lhs; whnf)) ?_
  refine L.va rfl (X.lss rfl rfl) ?_
  refine L.va rfl (X.move (by conv => lhs; whnf)) ?_
  -- case t16
  rw [e0]
  refine L.caseDecF (k := 16) rfl (by omega) ?_
  refine L.va rfl (X.move (by conv => lhs; whnf)) ?_
  refine L.va rfl (X.gtr rfl rfl) ?_
  refine L.va rfl (X.pickF rfl (by conv => lhs; whnf)) ?_
  refine L.nil ?_
  -- cond
  refine J.decF rfl (by omega) ?_
  refine J.skip ?_
  refine J.seq ?_
  refine J.region ?_
  refine L.va rfl (X.build (l := [_, _]) (Evs.cons (by conv => lhs; whnf) Evs.nil) (bld_run Try.underlying55 (bp_55 Try.underlying55) zr_55 rfl)) ?_
  refine L.va rfl (X.build (l := [_, _, _, _, _, _, _, _]) (Evs.cons (by conv => lhs; whnf) (Evs.cons (by conv => lhs; whnf) Evs.nil)) (bld_run Try.underlying58 (bp_58 Try.underlying58) zr_58 rfl)) ?_
  -- box
  refine L.boxA (l := [_, _, _, _, _, _, _, _]) rfl rfl ?_
  intro b1 w1 hb1 hs1 hk1 he1
  have hk1 : Blk w1 b1 58 #[.bool false, .int .i64 (-1), .bool true, .slice none 0 0, .slice none 0 0, .int .i64 0, .int .i64 0, .int .i64 0] := hk1
  have hzl : zs.length = q * 1024 := by have := hr.1; simpa [nums] using this
  refine L.va rfl (X.assign (by conv => lhs; whnf)) ?_
  refine L.nil ?_
  refine J.seq ?_
  refine J.seq ?_
  refine J.region ?_
  refine L.va rfl (X.move (by conv => lhs; whnf)) ?_
  refine L.va rfl (X.move (by conv => lhs; whnf)) ?_
  refine L.nil ?_
  refine J.block ?_
  -- loop
  -- loop
  refine J.loop (X := Nat × Option Addr × Nat × List Cell) [6, 24, 25, 26, 27, 28, 29, 30, 31, 32, 33, 34, 35, 36, 37, 38, 39, 40, 41, 42, 43, 44] (fun x => [(24, .int .i64 (x.1 : Int))]) (fun x w' => x.1 ≤ q ∧ Mk w w' b1 x.1 x.2.1 x.2.2.1 x.2.2.2 zs) (fun x => q - x.1) ((0, none, 0, [])) (At1 (by first | rfl | exact at_int rfl (by omega) | exact at_slice rfl (by omega) | exact at_int rfl (by simp))) ?_ ?_
  · exact ⟨Nat.zero_le _, hk1, own_nil _ _ _ _, (fun x hx => by cases hx), rfl, rfl, he1, by omega⟩
  · rintro ⟨i, A0, c0, kp⟩ g w2 ⟨hi, M⟩
    dsimp only at hi M
    have hbM := M.hb
    refine J.seq ?_
    refine J.region ?_
    refine L.va rfl (X.lss rfl rfl) ?_
    refine L.nil ?_
    refine J.seq ?_
    -- cond
    refine J.dec rfl (fun hlt => ?_) (fun hlt => ?_)
    · have hlt : (i : Int) < q := hlt
      refine J.skip ?_
      refine J.seq ?_
      refine J.block ?_
      refine J.seq ?_
      refine J.region ?_
      refine L.va rfl (X.move (by conv => lhs; whnf)) ?_
      refine L.va rfl (X.assign (by conv => lhs; whnf)) ?_
      refine L.nil ?_
      -- draw
      refine J.draw (ℓ := 17) (S := (fun w' => Blk w' b1 58 #[.bool false, .int .i64 (-1), .bool true, .slice A0 i c0, .slice none 0 0, .int .i64 0, .int .i64 0, .int .i64 0])) mixed (fun w3 hSE hS_h => ?_)
      have hS : ((fun w' => Blk w' b1 58 #[.bool false, .int .i64 (-1), .bool true, .slice A0 i c0, .slice none 0 0, .int .i64 0, .int .i64 0, .int .i64 0])) w3 := hbM.ext hSE
      -- t31
      -- t38
      refine D.va 0 rfl (by kernel_rfl) (fun _ _ _ h => h) rfl (fun w' hw => X.move (by conv => lhs; whnf)) hS ?_
      refine D.va 1 rfl (by kernel_rfl) (fun _ _ _ h => h) rfl (fun w' hw => X.move (by conv => lhs; whnf)) hS ?_
      refine D.va 2 rfl (by kernel_rfl) (fun _ _ _ h => h) rfl (fun w' hw => X.nilCheck rfl) hS ?_
      refine D.va 3 rfl (by kernel_rfl) (fun _ _ _ h => h) rfl (fun w' hw => X.fieldAddr rfl Try.underlying58 rfl sz_41 (by decide)) hS ?_
      refine D.va 4 rfl (by kernel_rfl) (fun _ _ _ h => h) rfl (fun w' hw => X.load rfl sc_41 (Ld.blk hw rfl)) hS ?_
      refine D.va 5 rfl (by kernel_rfl) (fun _ _ _ h => h) rfl (fun w' hw => X.move (by conv => lhs; whnf)) hS ?_
      refine D.va 6 rfl (by kernel_rfl) (fun _ _ _ h => h) rfl (fun w' hw => X.move (by conv => lhs; whnf)) hS ?_
      refine D.va 7 rfl (by kernel_rfl) (fun _ _ _ h => h) rfl (fun w' hw => X.mul rfl rfl (by omega)) hS ?_
      refine D.va 8 rfl (by kernel_rfl) (fun _ _ _ h => h) rfl (fun w' hw => X.move (by conv => lhs; whnf)) hS ?_
      refine D.va 9 rfl (by kernel_rfl) (fun _ _ _ h => h) rfl (fun w' hw => X.add rfl rfl (by omega)) hS ?_
      refine D.va 10 rfl (by kernel_rfl) (fun _ _ _ h => h) rfl (fun w' hw => X.mul rfl rfl (by omega)) hS ?_
      refine D.va 11 rfl (by kernel_rfl) (fun _ _ _ h => h) rfl (fun w' hw => X.slicen (i := i * 1024) (j := (i + 1) * 1024) rfl rfl rfl Try.underlying30 sz_5 (by omega)) hS ?_
      -- append
      have E3 : Ext w w3 := M.he.trans hSE
      have hrp := part_nums (c := c) (i := i * 1024) (j := (i + 1) * 1024) (hr.ext E3) (by omega) (by omega) hc
      rw [show (i + 1) * 1024 - i * 1024 = 1024 by omega] at hrp
      have e38 : (zs.drop (i * 1024)).take 1024 = ck zs i := by rw [ck, Nat.mul_comm]
      rw [e38] at hrp
      rw [show (i + 1) * 1024 - i * 1024 = 1024 by omega]
      refine D.one 12 (by kernel_rfl) rfl ?_
      refine L.appendQ (q := 1024) (ys := ck zs i) rfl rfl rfl Try.underlying30 el_5 (own_nilN _ w3.heap.size _ _) (hrp) (by omega) (by simp) (by unfold maxLen; omega) (by omega) ?_
      intro A4 c4 w4 ho4 hg4 hb4 hor4
      have hS1 := hS.ext (grown_none hg4)
      refine L.nil ?_
      refine ⟨fun _ => hS1, ?_⟩
      have he4 : Ext w3 w4 := grown_none hg4
      have hD4 := Dat.of_own ho4
      -- buildSlice
      refine D.one 13 (by kernel_rfl) rfl ?_
      refine L.bslice (vs := [_]) rfl (Evs.cons (by conv => lhs; whnf) Evs.nil) rfl rfl rfl rfl Try.underlying41 sz_30 zr_30 (by decide) ?_
      intro b5 w5 hb5 hs5 hk5 he5
      have hS2 := hS1.ext he5
      refine L.nil ?_
      refine ⟨fun _ => hS2, ?_⟩
      have he35 : Ext w2 w5 := hSE.trans (he4.trans he5)
      have hD5 : Dat w5 (.slice A4 1024 c4) (ck zs i) := hD4.ext he5
      have hz5 := (M.he.trans he35).le
      have hp5 := M.hk.ext he35
      have hne5 : some b1 ≠ Value.ownBlock (.slice A0 i c0) := fun e => own_blk_ne hp5 hS2 (by decide) e.symm
      -- append
      refine D.one 14 (by kernel_rfl) rfl ?_
      refine L.appendV (q := i + 1) (ys := (kp ++ [(Value.slice A4 1024 c4, ck zs i)]).map (·.1)) rfl rfl rfl Try.underlying41 el_30 (hp5) (blk_readsN (sz := 1) (q := 1) (l := [.slice A4 1024 c4]) hk5 (by omega : b5 < w5.heap.size) rfl) (by first | rfl | exact strs_ones _ | assumption) (by omega) (by simp) (by unfold maxLen; omega) (by omega) ?_
      intro A6 c6 w6 ho6 hg6 hb6 hor6
      have hS3 := hS2.grown hg6 hne5
      refine L.nil ?_
      refine ⟨fun _ => hS3, ?_⟩
      refine D.va 15 rfl (by kernel_rfl) (fun _ _ _ h => h) rfl (fun w' hw => X.nilCheck rfl) hS3 ?_
      refine D.va 16 rfl (by kernel_rfl) (fun _ _ _ h => h) rfl (fun w' hw => X.fieldAddr rfl Try.underlying58 rfl sz_41 (by decide)) hS3 ?_
      -- store
      refine D.one 17 (by kernel_rfl) rfl ?_
      refine L.store rfl rfl (by conv => lhs; whnf) rfl sz_41 (hS3) (by first | decide | exact Nat.le_of_ble_eq_true rfl) ?_
      intro w7 hk7 hg7 hs7
      refine L.nil ?_
      refine ⟨fun h => absurd rfl h, ?_⟩
      refine D.done (by kernel_rfl) ?_
      refine J.region ?_
      refine L.va rfl (X.add rfl rfl (by omega)) ?_
      refine L.va rfl (X.move (by conv => lhs; whnf)) ?_
      refine L.nil ?_
      -- loopend
      refine ⟨(i + 1, A6, c6, kp ++ [(Value.slice A4 1024 c4, ck zs i)]), At1 (by first | rfl | exact at_int rfl (by omega) | exact at_slice rfl (by omega) | exact at_int rfl (by simp)), (by (iterate 22 refine Agr.lk rfl ?_); exact Agr.lk rfl (Agr.hav rfl Agr.rfl')), ?_⟩
      have hnk : ∀ g, (Value.slice A0 i c0).ownBlock = some g → ¬ IsT w5 g 5 := fun g hg ht => absurd ((own_isT hp5 hg).1.fun_ ht) (by decide)
      have hnd : ∀ g, some b1 = some g → ¬ IsT w6 g 5 := fun g hg ht => by
        injection hg with hg
        subst hg
        exact absurd (hS3.isT.fun_ ht) (by decide)
      refine ⟨⟨by dsimp only; omega, hk7, ho6.kept hg7 (.inr (own_blk_ne ho6 hS3 (by decide))), fun x hx => ?_, ?_, ?_, ?_, M.hd⟩, by dsimp only; omega⟩
      · rcases List.mem_append.1 hx with hx | hx
        · exact ((M.kd x hx).ext he35).grown hg6 hnk |>.grown hg7 hnd
        · obtain rfl : x = (Value.slice A4 1024 c4, ck zs i) := by simpa using hx
          exact (hD5.grown hg6 hnk).grown hg7 hnd
      · dsimp only
        rw [List.map_append, M.hz, List.range_succ, List.map_append]
        rfl
      · dsimp only
        rw [List.length_append, M.hl]
        rfl
      · exact ((M.he.trans he35).grw hg6 (fun g hg => (own_isT hp5 hg).2)).grw hg7 (by intro g hg; injection hg with hg; have := M.hd; omega)
    · obtain rfl : i = q := by have : ¬ (i : Int) < q := hlt; omega
      refine J.exit ?_
      refine J.seq ?_
      refine J.region ?_
      refine L.va rfl (X.move (by conv => lhs; whnf)) ?_
      refine L.va rfl (X.assign (by conv => lhs; whnf)) ?_
      refine L.va rfl (X.assign (by conv => lhs; whnf)) ?_
      refine L.nil ?_
      -- ret
      refine J.ret ?_
      refine fin2 ?_
      obtain ⟨b, cap, hA, _, _⟩ := M.hk.form (by omega)
      injection hA with hA _ hc2
      subst hA hc2
      have hl := M.hl
      refine ⟨⟨b1, b, c0, none, 0, kp, [], false, -1, 0, 0, 0⟩, rfl, ?_, rfl, rfl, rfl, rfl, rfl, rfl, M.hz, M.he⟩
      have hb' := M.hb
      have hk' := M.hk
      refine ⟨?_, ?_, own_nil _ _ _ _, (fun g hg => by cases hg), fun g hg => Nat.lt_of_lt_of_le hg M.he.le, fun g hg => hg, M.kd, (fun x hx => by cases hx), M.hd, by dsimp only; omega, by dsimp only; omega⟩
      · show Blk w2 b1 58 #[.bool false, .int .i64 (-1), .bool true, .slice (some ⟨b, 0, none⟩) kp.length c0, .slice none 0 0, .int .i64 0, .int .i64 0, .int .i64 0]
        rw [hl]
        exact hb'
      · show w2.ownsRow w.heap.size 30 1 (.slice (some ⟨b, 0, none⟩) kp.length c0) kp.length (kp.map (·.1))
        rw [hl]
        exact hk'
theorem ck_zero (q i : Nat) (hi : i < q) : ck (List.replicate (q * 1024) 0) i = List.replicate 1024 0 := by
  unfold ck
  rw [List.drop_replicate, List.take_replicate]
  congr 1
  have : 1024 * i + 1024 ≤ q * 1024 := by omega
  omega
theorem new_2 {w : World} (n : Int) (hn : n < 1 ∨ 8192 < n) : Calls Try.prog 17 #[.int .i64 n] w fun e w' => e = .returned (.tuple #[.pointer none, .int .i64 2]) ∧ w = w' := by
  refine enter Try.func17 rfl (by kernel_rfl) ?_
  refine J.seq ?_
  refine J.region ?_
  refine L.va rfl (X.assign (by conv => lhs; whnf)) ?_
  refine L.va rfl (X.assign (by conv => lhs; whnf)) ?_
  refine L.nil ?_
  refine J.seq ?_
  refine J.seq ?_
  refine J.region ?_
  refine L.va rfl (X.move (by conv => lhs; whnf)) ?_
  refine L.va rfl (X.lss rfl rfl) ?_
  refine L.va rfl (X.move (by conv => lhs; whnf)) ?_
  -- case t6
  refine L.caseDec (k := 6) rfl (fun h1 => ?_) (fun h1 => ?_)
  · refine L.no rfl ?_
    refine L.no rfl ?_
    refine L.va rfl (X.pickT rfl (by conv => lhs; whnf)) ?_
    refine L.nil ?_
    -- cond
    refine J.iteT rfl ?_
    refine J.seq ?_
    refine J.region ?_
    refine L.va rfl (X.assign (by conv => lhs; whnf)) ?_
    refine L.va rfl (X.assign (by conv => lhs; whnf)) ?_
    refine L.nil ?_
    -- ret
    refine J.ret ?_
    refine thn_ret <| ?_
    refine fin2 ?_
    exact ⟨rfl, rfl⟩
  · refine L.va rfl (X.move (by conv => lhs; whnf)) ?_
    refine L.va rfl (X.gtr rfl rfl) ?_
    refine L.va rfl (X.pickF rfl (by conv => lhs; whnf)) ?_
    refine L.nil ?_
    -- cond
    refine J.decT rfl (by omega) ?_
    refine J.seq ?_
    refine J.region ?_
    refine L.va rfl (X.assign (by conv => lhs; whnf)) ?_
    refine L.va rfl (X.assign (by conv => lhs; whnf)) ?_
    refine L.nil ?_
    -- ret
    refine J.ret ?_
    refine thn_ret <| ?_
    refine fin2 ?_
    exact ⟨rfl, rfl⟩
theorem new_ok {w : World} (q : Nat) (hq : 1 ≤ q ∧ q ≤ 8192) : Calls Try.prog 17 #[.int .i64 (q : Int)] w fun e w' =>
    ∃ v : Dk, e = .returned (.tuple #[v.ptr, .int .i64 0]) ∧ v.At w.heap.size (· < w.heap.size) w' ∧ v.off = false ∧ v.left = -1 ∧ v.rd = 0 ∧ v.wr = 0 ∧ v.fl = 0 ∧ v.pp = [] ∧ v.dat = (List.range q).map (fun _ => List.replicate 1024 0) ∧ Ext w w' := by
  refine enter Try.func17 rfl (by kernel_rfl) ?_
  refine J.seq ?_
  refine J.region ?_
  refine L.va rfl (X.assign (by conv => lhs; whnf)) ?_
  refine L.va rfl (X.assign (by conv => lhs; whnf)) ?_
  refine L.nil ?_
  refine J.seq ?_
  refine J.seq ?_
  refine J.region ?_
  refine L.va rfl (X.move (by conv => lhs; whnf)) ?_
  refine L.va rfl (X.lss rfl rfl) ?_
  refine L.va rfl (X.move (by conv => lhs; whnf)) ?_
  -- case t6
  refine L.caseDecF (k := 6) rfl (by omega) ?_
  refine L.va rfl (X.move (by conv => lhs; whnf)) ?_
  refine L.va rfl (X.gtr rfl rfl) ?_
  refine L.va rfl (X.pickF rfl (by conv => lhs; whnf)) ?_
  refine L.nil ?_
  -- cond
  refine J.decF rfl (by omega) ?_
  refine J.skip ?_
  refine J.seq ?_
  refine J.region ?_
  refine L.va rfl (X.move (by conv => lhs; whnf)) ?_
  refine L.va rfl (X.mul rfl rfl (by omega)) ?_
  -- makeSlice
  refine L.make (q := q * 1024) (c := q * 1024) rfl rfl rfl Try.underlying30 el_5 (by omega) ?_
  intro b1 w1 hb1 hs1 hk1 he1
  rw [made_nums] at hk1
  have hr1 : Reads w1 w1.heap.size 1 (some ⟨b1, 0, none⟩) (q * 1024) (nums .u8 (List.replicate (q * 1024) 0)) := blk_readsN hk1 hk1.lt (by simp [nums])
  -- callfn bushel/disk.Load
  refine L.call rfl en_27 rfl (load_ok _ q (q * 1024) _ hr1 (Nat.le_refl _) hq) ?_
  rintro e w2 ⟨v, rfl, hv, k1, k2, k3, k4, k5, k6, k7, he2⟩
  refine ⟨_, rfl, ?_⟩
  refine L.va rfl (X.extract rfl rfl) ?_
  refine L.va rfl (X.extract rfl rfl) ?_
  refine L.va rfl (X.assign (by conv => lhs; whnf)) ?_
  refine L.va rfl (X.assign (by conv => lhs; whnf)) ?_
  refine L.nil ?_
  -- ret
  refine J.ret ?_
  refine fin2 ?_
  have hz := he1.le
  refine ⟨v, rfl, ⟨hv.hb, hv.hk.mono hz, hv.hp.mono hz, fun g hg hC => ?_, fun g hg => ?_, fun g hg => hg, hv.kd, hv.pd, Nat.le_trans hz hv.hN, hv.h1, hv.hl⟩, k1, k2, k3, k4, k5, k6, ?_, he1.trans he2⟩
  · exact hv.hC g hg (Nat.lt_of_lt_of_le hC hz)
  · have := he2.le
    have hg : g < w.heap.size := hg
    omega
  · rw [k7]
    apply List.map_congr_left
    intro i hi
    exact ck_zero q i (List.mem_range.1 hi)
theorem Dk.At.clone_ {v : Dk} {N : Nat} {C : Nat → Prop} {w : World} (h : v.At N C w) (hm : v.pp.length ≤ 1000000) : Calls Try.prog 29 #[v.ptr] w fun e w' => ∃ u : Dk, e = .returned u.ptr ∧ u.At w.heap.size (· < w.heap.size) w' ∧ u.kp = v.kp ∧ u.pp = v.pp ∧ u.off = v.off ∧ u.left = v.left ∧ u.rd = v.rd ∧ u.wr = v.wr ∧ u.fl = v.fl ∧ Ext w w' := by
  have hb := h.hb
  have h1 := h.h1
  refine enter Try.func29 rfl (by kernel_rfl) ?_
  refine J.seq ?_
  refine J.region ?_
  refine L.va rfl (X.assign (by conv => lhs; whnf)) ?_
  refine L.nil ?_
  refine J.seq ?_
  refine J.seq ?_
  refine J.region ?_
  refine L.va rfl (X.move (by conv => lhs; whnf)) ?_
  -- callfn (*bushel/disk.Disk).is
  refine L.call rfl en_68 rfl (h.is) ?_
  rintro e _ ⟨rfl, rfl⟩
  refine ⟨_, rfl, ?_⟩
  refine L.va rfl (X.not rfl) ?_
  refine L.nil ?_
  -- cond
  refine J.iteF rfl ?_
  refine J.skip ?_
  refine J.seq ?_
  refine J.region ?_
  refine L.va rfl (X.move (by conv => lhs; whnf)) ?_
  refine L.va rfl (X.nilCheck rfl) ?_
  refine L.va rfl ((by first | exact X.loadAgg rfl (range_l hb) Try.underlying58 rfl (by kernel_rfl) | exact X.loadAgg rfl (range_blk hb) Try.underlying58 rfl (by kernel_rfl))) ?_
  -- alloc
  refine L.alloc rfl zr_58 ?_
  intro b1 w1 hb1 hs1 hk1 he1
  -- store
  refine L.storeAgg (vs := [_, _, _, _, _, _, _, _]) rfl rfl rfl rfl sz_58 (hk1) rfl ?_
  intro w2 hk2 hg2 hs2
  have he2 : Ext w w2 := he1.grw hg2 (by intro g hg; injection hg with hg; omega)
  have H2 := h.ext he2
  replace hb := hb.ext he2
  refine L.nil ?_
  refine J.seq ?_
  refine J.region ?_
  refine L.va rfl (X.move (by conv => lhs; whnf)) ?_
  refine L.va rfl (X.nilCheck rfl) ?_
  refine L.va rfl (X.fieldAddr rfl Try.underlying58 rfl sz_41 (by decide)) ?_
  refine L.va rfl (X.load rfl sc_41 (by first | exact Ld.blk hb rfl | exact Ld.blk hk2 rfl)) ?_
  -- append
  have hone : ((v.kp.map (·.1)).all (·.oneCell')) = true := by
    rw [List.all_eq_true]
    intro y hy
    obtain ⟨x, hx, rfl⟩ := List.mem_map.1 hy
    exact (h.kd x hx).one
  refine L.appendV (q := v.kp.length) (ys := v.kp.map (·.1)) rfl rfl rfl Try.underlying41 el_30 (own_nil _ w.heap.size _ _) (H2.kRd) (by first | rfl | exact strs_ones _ | assumption) (by omega) (by simp) (by unfold maxLen; omega) (by omega) ?_
  intro A3 c3 w3 ho3 hg3 hb3 hor3
  have he3 : Ext w2 w3 := grown_none hg3
  have H3 := H2.ext he3
  replace hb := hb.ext he3
  have hk3 := hk2.ext he3
  refine L.va rfl (X.fieldAddr rfl Try.underlying58 rfl sz_41 (by decide)) ?_
  -- store
  refine L.store rfl rfl (by conv => lhs; whnf) rfl sz_41 (hk3) (by first | decide | exact Nat.le_of_ble_eq_true rfl) ?_
  intro w4 hk4 hg4 hs4
  have he34 : Ext w w4 := (he2.trans he3).grw hg4 (by intro g hg; injection hg with hg; omega)
  have H4 := h.ext he34
  have ho4 := ho3.kept hg4 (.inr (own_blk_ne ho3 hk3 (by decide)))
  replace hb := h.hb.ext he34
  refine L.nil ?_
  refine J.seq ?_
  refine J.region ?_
  refine L.va rfl (X.move (by conv => lhs; whnf)) ?_
  refine L.va rfl (X.nilCheck rfl) ?_
  refine L.va rfl (X.fieldAddr rfl Try.underlying58 rfl sz_56 (by decide)) ?_
  refine L.va rfl (X.load rfl sc_56 (by first | exact Ld.blk hb rfl)) ?_
  -- append
  have hone2 : ((pcs v.pp).all (·.oneCell')) = true := by
    rw [List.all_eq_true]
    intro y hy
    obtain ⟨x, hx, hy⟩ := List.mem_flatMap.1 hy
    simp only [List.mem_cons, List.not_mem_nil, or_false] at hy
    rcases hy with rfl | rfl
    · rfl
    · exact (h.pd x hx).2.one
  have hz4 := he34.le
  refine L.appendV (q := v.pp.length) (ys := pcs v.pp) rfl rfl rfl Try.underlying56 el_123 (own_nil _ w.heap.size _ _) (H4.pRd) (by first | rfl | exact strs_ones _ | assumption) (by omega) (by simp) (by unfold maxLen; omega) (by omega) ?_
  intro A5 c5 w5 ho5 hg5 hb5 hor5
  have he5 : Ext w4 w5 := grown_none hg5
  replace hb := hb.ext he5
  have hk5 := hk4.ext he5
  have ho5' := ho4.ext he5
  refine L.va rfl (X.fieldAddr rfl Try.underlying58 rfl sz_56 (by decide)) ?_
  -- store
  refine L.store rfl rfl (by conv => lhs; whnf) rfl sz_56 (hk5) (by first | decide | exact Nat.le_of_ble_eq_true rfl) ?_
  intro w6 hk6 hg6 hs6
  have he6 : Ext w w6 := (he34.trans he5).grw hg6 (by intro g hg; injection hg with hg; omega)
  have H6 := h.ext he6
  refine L.nil ?_
  refine J.seq ?_
  refine J.region ?_
  refine L.va rfl (X.assign (by conv => lhs; whnf)) ?_
  refine L.nil ?_
  -- ret
  refine J.ret ?_
  refine fin1 ?_
  have ho6 := ho5'.kept hg6 (.inr (own_blk_ne ho5' hk5 (by decide)))
  have hp6 := ho5.kept hg6 (.inr (own_blk_ne ho5 hk5 (by decide)))
  obtain ⟨b, cap, hA, _, _⟩ := ho6.form (by omega)
  injection hA with hA _ hc2
  subst hA hc2
  refine ⟨⟨b1, b, c3, A5, c5, v.kp, v.pp, v.off, v.left, v.rd, v.wr, v.fl⟩, rfl, ⟨hk6, ho6, hp6, fun g hg hC => ?_, fun g hg => Nat.lt_of_lt_of_le hg he6.le, fun g hg => hg, H6.kd, H6.pd, by dsimp only; omega, h.h1, h.hl⟩, rfl, rfl, rfl, rfl, rfl, rfl, rfl, he6⟩
  have := (hp6.lt g hg).1
  have hC : g < w.heap.size := hC
  omega
end Go.Proofs.Ytdmfikedojgjbaa
