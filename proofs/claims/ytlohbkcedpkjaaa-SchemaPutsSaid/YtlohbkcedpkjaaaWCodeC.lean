/-
  Package code: T and GetT, in program and reference.
-/
import Derived.Test.YtlohbkcedpkjaaaTextP
import Derived.Test.YtlohbkcedpkjaaaWCodeN
import Derived.Test.YtlohbkcedpkjaaaAux
namespace Go.Proofs.Ytlohbkcedpkjaaa
set_option maxRecDepth 100000
open Go.RowKit H
open Byts Cod
set_option linter.unusedVariables false
/-- a text's bytes as numbers -/
def tz (u : ByteArray) : List Int := u.data.toList.map fun x => (x.toNat : Int)
theorem tz_length (u : ByteArray) : (tz u).length = u.size := by unfold tz; rw [List.length_map, Array.length_toList]; rfl
theorem tz_bytes (u : ByteArray) : ∀ z ∈ tz u, 0 ≤ z ∧ z < 256 := by
  intro z hz
  simp only [tz, List.mem_map] at hz
  obtain ⟨x, _, rfl⟩ := hz
  have := x.toNat_lt
  omega
theorem tz_str {zs : List Int} (hz : ∀ z ∈ zs, 0 ≤ z ∧ z < 256) : tz (strOfNums zs) = zs := by
  unfold tz
  rw [strOfNums_data, List.map_map]
  refine (List.map_congr_left (g := id) fun z h => ?_).trans (List.map_id _)
  have := hz z h
  simp only [Function.comp_apply, id]
  have e : (UInt8.ofNat z.toNat).toNat = z.toNat := by
    rw [UInt8.toNat_ofNat']
    exact Nat.mod_eq_of_lt (by omega)
  rw [e]
  omega
theorem str_tz (u : ByteArray) : strOfNums (tz u) = u := by
  unfold tz strOfNums
  rw [List.map_map]
  apply ByteArray.ext
  apply Array.ext'
  show List.map _ _ = _
  refine (List.map_congr_left (g := id) fun x _ => ?_).trans (List.map_id _)
  simp
theorem tz_inj {a b : ByteArray} (h : tz a = tz b) : a = b := by rw [← str_tz a, h, str_tz]
theorem tz_at (u : ByteArray) {k : Nat} (hk : k < u.size) : ((u.data.toList.getD ((k : Nat) : Int).toNat 0).toNat : Int) = (tz u).getD k 0 := by
  have h1 : k < u.data.toList.length := by rw [Array.length_toList]; exact hk
  unfold tz
  simp only [List.getD, List.getElem?_map, Int.toNat_natCast, List.getElem?_eq_getElem h1, Option.map_some, Option.getD_some]
theorem str_append (a b : List Int) : strOfNums a ++ strOfNums b = strOfNums (a ++ b) := by
  apply ByteArray.ext
  apply Array.ext'
  simp [strOfNums]
theorem str_nil : strOfNums [] = ⟨#[]⟩ := rfl
theorem str_empty : (ByteArray.empty : ByteArray) = strOfNums [] := rfl
/-- a text's code but for its end -/
def esc : List Int → List Int
  | [] => []
  | c :: t => if c = 0 then 0 :: 1 :: esc t else c :: esc t
theorem ct_esc : ∀ l, ct l = esc l ++ [0, 0]
  | [] => rfl
  | c :: t => by unfold ct esc; split <;> simp [ct_esc t]
theorem esc_append : ∀ a b, esc (a ++ b) = esc a ++ esc b
  | [], b => rfl
  | c :: t, b => by
    rw [List.cons_append, esc, esc]
    split <;> simp only [esc_append t b, List.cons_append]
theorem esc_snoc (a : List Int) (c : Int) : esc (a ++ [c]) = esc a ++ (if c = 0 then [0, 1] else [c]) := by
  rw [esc_append]
  congr 1
theorem esc_length (a : List Int) : (esc a).length ≤ 2 * a.length := by
  induction a with
  | nil => simp [esc]
  | cons c t ih => unfold esc; split <;> simp only [List.length_cons] <;> omega
theorem take_snoc {zs : List Int} {k : Nat} (h : k < zs.length) : zs.take (k + 1) = zs.take k ++ [zs.getD k 0] := by
  rw [List.take_succ_eq_append_getElem h]
  simp [List.getD, h]
theorem code_T (u : ByteArray) (w : World) (hu : u.size ≤ 1000000) :
    Calls Try.prog 133 #[.string u] w fun e w' => ∃ A' c', e = .returned (.slice A' (ct (tz u)).length c') ∧ w'.ownsRow w.heap.size 5 1 (.slice A' (ct (tz u)).length c') (ct (tz u)).length (nums .u8 (ct (tz u))) ∧ Ext w w' := by
  have hl := tz_length u
  have hE := esc_length (tz u)
  refine enter Try.func133 rfl (by kernel_rfl) ?_
  refine J.seq ?_
  refine J.region ?_
  refine L.va rfl (X.assign (by conv => lhs; whnf)) ?_
  refine L.nil ?_
  refine J.seq ?_
  refine J.region ?_
  refine L.va rfl (X.assign (by conv => lhs; whnf)) ?_
  refine L.nil ?_
  refine J.seq ?_
  refine J.seq ?_
  refine J.region ?_
  refine L.va rfl (X.move (by conv => lhs; whnf)) ?_
  refine L.va rfl (X.lens rfl Try.underlying9) ?_
  refine L.va rfl (X.move (by conv => lhs; whnf)) ?_
  refine L.nil ?_
  refine J.block ?_
  -- loop
  refine J.loop (X := Nat × Option Addr × Nat × Nat) [3, 4, 7, 8, 9, 10, 11, 12, 13, 14, 15, 16, 17, 18, 19, 20, 21, 22, 23] (fun s => [(7, .int .i64 (s.1 : Int)), (3, .slice s.2.1 s.2.2.1 s.2.2.2)]) (fun s w' => s.1 ≤ u.size ∧ s.2.2.1 = (esc ((tz u).take s.1)).length ∧ w'.ownsRow w.heap.size 5 1 (.slice s.2.1 s.2.2.1 s.2.2.2) s.2.2.1 (nums .u8 (esc ((tz u).take s.1))) ∧ Ext w w') (fun s => u.size - s.1) ((0, none, 0, 0)) (At2 (by first | rfl | exact at_int rfl (by omega) | exact at_slice rfl (by omega) | exact at_int rfl (by simp)) (by first | rfl | exact at_int rfl (by omega) | exact at_slice rfl (by omega) | exact at_int rfl (by simp))) ?_ ?_
  · exact ⟨Nat.zero_le _, by simp [esc], own_nil _ _ _ _, .refl _⟩
  · rintro ⟨k, B, n, d⟩ g w2 ⟨hk, hn, ho, he⟩
    dsimp only at hk hn ho he
    have hw2 := he.le
    have hE2 := esc_length ((tz u).take k)
    rw [List.length_take] at hE2
    refine J.seq ?_
    refine J.region ?_
    refine L.va rfl (X.lss rfl rfl) ?_
    refine L.nil ?_
    refine J.seq ?_
    -- cond
    refine J.dec rfl (fun hlt => ?_) (fun hlt => ?_)
    · have hz1 := tz_at u (k := k) (by omega)
      have ht1 := take_snoc (zs := tz u) (k := k) (by omega)
      refine J.skip ?_
      refine J.seq ?_
      refine J.block ?_
      refine J.seq ?_
      refine J.region ?_
      refine L.va rfl (X.move (by conv => lhs; whnf)) ?_
      refine L.va rfl (X.assign (by conv => lhs; whnf)) ?_
      refine L.nil ?_
      refine J.seq ?_
      refine J.region ?_
      refine L.va rfl (X.move (by conv => lhs; whnf)) ?_
      refine L.va rfl (X.move (by conv => lhs; whnf)) ?_
      refine L.va rfl (X.move (by conv => lhs; whnf)) ?_
      refine L.va rfl (X.indexStr rfl rfl Try.underlying9 (by omega)) ?_
      -- buildSlice
      rw [hz1]
      refine L.bslice (vs := [_]) rfl (Evs.cons (by conv => lhs; whnf) Evs.nil) rfl rfl rfl rfl Try.underlying58 sz_5 zr_5 (by decide) ?_
      intro b1 w3 hb1 hs1 hk1 he1
      -- append
      refine L.appendQ (q := n + 1) (ys := esc ((tz u).take k) ++ [(tz u).getD k 0]) rfl rfl rfl Try.underlying58 el_5 ((ho.ext he1)) ((blk_reads (l := nums .u8 [(tz u).getD k 0]) hk1 hk1.lt rfl)) (by omega) (by simp) (by unfold maxLen; omega) (by omega) ?_
      intro A4 c4 w4 ho4 hg4 hb4 hor4
      have he4 := (he.trans he1).low hb4 (Nat.le_refl _)
      have hw4 := he4.le
      refine L.va rfl (X.assign (by conv => lhs; whnf)) ?_
      refine L.nil ?_
      refine J.seq ?_
      refine J.region ?_
      refine L.va rfl (X.move (by conv => lhs; whnf)) ?_
      refine L.va rfl (X.move (by conv => lhs; whnf)) ?_
      refine L.va rfl (X.indexStr rfl rfl Try.underlying9 (by omega)) ?_
      refine L.va rfl (X.eql rfl rfl) ?_
      refine L.nil ?_
      -- cond
      rw [hz1]
      refine J.dec rfl (fun h0 => ?_) (fun h0 => ?_)
      · rw [h0] at ho4
        refine J.region ?_
        refine L.va rfl (X.move (by conv => lhs; whnf)) ?_
        -- buildSlice
        refine L.bslice (vs := [_]) rfl (Evs.cons (by conv => lhs; whnf) Evs.nil) rfl rfl rfl rfl Try.underlying58 sz_5 zr_5 (by decide) ?_
        intro b5 w5 hb5 hs5 hk5 he5
        -- append
        refine L.appendQ (q := n + 1 + 1) (ys := esc ((tz u).take k) ++ [0] ++ [1]) rfl rfl rfl Try.underlying58 el_5 ((ho4.ext he5)) ((blk_reads (l := nums .u8 [1]) hk5 hk5.lt rfl)) (by omega) (by simp) (by unfold maxLen; omega) (by omega) ?_
        intro A6 c6 w6 ho6 hg6 hb6 hor6
        have he6 := (he4.trans he5).low hb6 (Nat.le_refl _)
        refine L.va rfl (X.assign (by conv => lhs; whnf)) ?_
        refine L.nil ?_
        refine J.region ?_
        refine L.va rfl (X.add rfl rfl (by omega)) ?_
        refine L.va rfl (X.move (by conv => lhs; whnf)) ?_
        refine L.nil ?_
        -- loopend
        refine ⟨(k + 1, A6, n + 1 + 1, c6), At2 (by first | rfl | exact at_int rfl (by omega) | exact at_slice rfl (by omega) | exact at_int rfl (by simp)) (by first | rfl | exact at_int rfl (by omega) | exact at_slice rfl (by omega) | exact at_int rfl (by simp)), (by (iterate 20 refine Agr.lk rfl ?_); exact Agr.lk rfl (Agr.hav rfl Agr.rfl')), ?_⟩
        have e : esc ((tz u).take (k + 1)) = esc ((tz u).take k) ++ [0] ++ [1] := by rw [ht1, esc_snoc, h0, if_pos rfl]; simp
        dsimp only
        rw [e]
        exact ⟨⟨by omega, by simp; omega, ho6, he6⟩, by omega⟩
      · refine J.skip ?_
        refine J.region ?_
        refine L.va rfl (X.add rfl rfl (by omega)) ?_
        refine L.va rfl (X.move (by conv => lhs; whnf)) ?_
        refine L.nil ?_
        -- loopend
        refine ⟨(k + 1, A4, n + 1, c4), At2 (by first | rfl | exact at_int rfl (by omega) | exact at_slice rfl (by omega) | exact at_int rfl (by simp)) (by first | rfl | exact at_int rfl (by omega) | exact at_slice rfl (by omega) | exact at_int rfl (by simp)), (by (iterate 16 refine Agr.lk rfl ?_); exact Agr.lk rfl (Agr.hav rfl Agr.rfl')), ?_⟩
        have e : esc ((tz u).take (k + 1)) = esc ((tz u).take k) ++ [(tz u).getD k 0] := by rw [ht1, esc_snoc, if_neg h0]
        dsimp only
        rw [e]
        exact ⟨⟨by omega, by simp; omega, ho4, he4⟩, by omega⟩
    · obtain rfl : k = u.size := by omega
      rw [← hl, List.take_length] at hn ho
      refine J.exit ?_
      refine J.seq ?_
      refine J.region ?_
      refine L.va rfl (X.move (by conv => lhs; whnf)) ?_
      -- buildSlice
      refine L.bslice (vs := [_, _]) rfl (Evs.cons (by conv => lhs; whnf) (Evs.cons (by conv => lhs; whnf) Evs.nil)) rfl rfl rfl rfl Try.underlying58 sz_5 zr_5 (by decide) ?_
      intro b1 w3 hb1 hs1 hk1 he1
      -- append
      refine L.appendQ (q := n + 2) (ys := esc (tz u) ++ [0, 0]) rfl rfl rfl Try.underlying58 el_5 ((ho.ext he1)) ((blk_reads (l := nums .u8 [0, 0]) hk1 hk1.lt rfl)) (by omega) (by simp) (by unfold maxLen; omega) (by omega) ?_
      intro A4 c4 w4 ho4 hg4 hb4 hor4
      refine L.va rfl (X.assign (by conv => lhs; whnf)) ?_
      refine L.nil ?_
      -- ret
      refine J.ret ?_
      refine fin1 ?_
      have e : (ct (tz u)).length = n + 2 := by rw [ct_esc, List.length_append, hn]; rfl
      rw [e, ct_esc]
      exact ⟨A4, c4, rfl, ho4, (he.trans he1).low hb4 (Nat.le_refl _)⟩
theorem ref_T (u : ByteArray) (w : World) (hu : u.size ≤ 1000000) :
    Calls Try.prog 88 #[.string u] w fun e w' => ∃ A' c', e = .returned (.slice A' (ct (tz u)).length c') ∧ w'.ownsRow w.heap.size 5 1 (.slice A' (ct (tz u)).length c') (ct (tz u)).length (nums .u8 (ct (tz u))) ∧ Ext w w' := by
  have hl := tz_length u
  have hE := esc_length (tz u)
  refine enter Try.func88 rfl (by kernel_rfl) ?_
  refine J.seq ?_
  refine J.region ?_
  refine L.va rfl (X.assign (by conv => lhs; whnf)) ?_
  refine L.nil ?_
  refine J.seq ?_
  refine J.region ?_
  refine L.va rfl (X.assign (by conv => lhs; whnf)) ?_
  refine L.nil ?_
  refine J.seq ?_
  refine J.seq ?_
  refine J.region ?_
  refine L.va rfl (X.assign (by conv => lhs; whnf)) ?_
  refine L.nil ?_
  refine J.block ?_
  -- loop
  refine J.loop (X := Nat × Option Addr × Nat × Nat) [3, 4, 5, 6, 7, 8, 9, 10, 11, 12, 13, 14, 15, 16, 17, 18, 19, 20, 21, 22, 23] (fun s => [(4, .int .i64 (s.1 : Int)), (3, .slice s.2.1 s.2.2.1 s.2.2.2)]) (fun s w' => s.1 ≤ u.size ∧ s.2.2.1 = (esc ((tz u).take s.1)).length ∧ w'.ownsRow w.heap.size 5 1 (.slice s.2.1 s.2.2.1 s.2.2.2) s.2.2.1 (nums .u8 (esc ((tz u).take s.1))) ∧ Ext w w') (fun s => u.size - s.1) ((0, none, 0, 0)) (At2 (by first | rfl | exact at_int rfl (by omega) | exact at_slice rfl (by omega) | exact at_int rfl (by simp)) (by first | rfl | exact at_int rfl (by omega) | exact at_slice rfl (by omega) | exact at_int rfl (by simp))) ?_ ?_
  · exact ⟨Nat.zero_le _, by simp [esc], own_nil _ _ _ _, .refl _⟩
  · rintro ⟨k, B, n, d⟩ g w2 ⟨hk, hn, ho, he⟩
    dsimp only at hk hn ho he
    have hw2 := he.le
    have hE2 := esc_length ((tz u).take k)
    rw [List.length_take] at hE2
    refine J.seq ?_
    refine J.seq ?_
    refine J.region ?_
    refine L.va rfl (X.move (by conv => lhs; whnf)) ?_
    refine L.va rfl (X.move (by conv => lhs; whnf)) ?_
    refine L.va rfl (X.lens rfl Try.underlying9) ?_
    refine L.va rfl (X.lss rfl rfl) ?_
    refine L.nil ?_
    -- cond
    refine J.dec rfl (fun hlt => ?_) (fun hlt => ?_)
    · have hz1 := tz_at u (k := k) (by omega)
      have ht1 := take_snoc (zs := tz u) (k := k) (by omega)
      refine J.skip ?_
      refine J.seq ?_
      refine J.block ?_
      refine J.seq ?_
      refine J.region ?_
      refine L.va rfl (X.move (by conv => lhs; whnf)) ?_
      refine L.va rfl (X.move (by conv => lhs; whnf)) ?_
      refine L.va rfl (X.move (by conv => lhs; whnf)) ?_
      refine L.va rfl (X.indexStr rfl rfl Try.underlying9 (by omega)) ?_
      -- buildSlice
      rw [hz1]
      refine L.bslice (vs := [_]) rfl (Evs.cons (by conv => lhs; whnf) Evs.nil) rfl rfl rfl rfl Try.underlying58 sz_5 zr_5 (by decide) ?_
      intro b1 w3 hb1 hs1 hk1 he1
      -- append
      refine L.appendQ (q := n + 1) (ys := esc ((tz u).take k) ++ [(tz u).getD k 0]) rfl rfl rfl Try.underlying58 el_5 ((ho.ext he1)) ((blk_reads (l := nums .u8 [(tz u).getD k 0]) hk1 hk1.lt rfl)) (by omega) (by simp) (by unfold maxLen; omega) (by omega) ?_
      intro A4 c4 w4 ho4 hg4 hb4 hor4
      have he4 := (he.trans he1).low hb4 (Nat.le_refl _)
      have hw4 := he4.le
      refine L.va rfl (X.assign (by conv => lhs; whnf)) ?_
      refine L.nil ?_
      refine J.seq ?_
      refine J.region ?_
      refine L.va rfl (X.move (by conv => lhs; whnf)) ?_
      refine L.va rfl (X.move (by conv => lhs; whnf)) ?_
      refine L.va rfl (X.indexStr rfl rfl Try.underlying9 (by omega)) ?_
      refine L.va rfl (X.eql rfl rfl) ?_
      refine L.nil ?_
      -- cond
      rw [hz1]
      refine J.dec rfl (fun h0 => ?_) (fun h0 => ?_)
      · rw [h0] at ho4
        refine J.region ?_
        refine L.va rfl (X.move (by conv => lhs; whnf)) ?_
        -- buildSlice
        refine L.bslice (vs := [_]) rfl (Evs.cons (by conv => lhs; whnf) Evs.nil) rfl rfl rfl rfl Try.underlying58 sz_5 zr_5 (by decide) ?_
        intro b5 w5 hb5 hs5 hk5 he5
        -- append
        refine L.appendQ (q := n + 1 + 1) (ys := esc ((tz u).take k) ++ [0] ++ [1]) rfl rfl rfl Try.underlying58 el_5 ((ho4.ext he5)) ((blk_reads (l := nums .u8 [1]) hk5 hk5.lt rfl)) (by omega) (by simp) (by unfold maxLen; omega) (by omega) ?_
        intro A6 c6 w6 ho6 hg6 hb6 hor6
        have he6 := (he4.trans he5).low hb6 (Nat.le_refl _)
        refine L.va rfl (X.assign (by conv => lhs; whnf)) ?_
        refine L.nil ?_
        refine J.region ?_
        refine L.va rfl (X.move (by conv => lhs; whnf)) ?_
        refine L.va rfl (X.add rfl rfl (by omega)) ?_
        refine L.va rfl (X.assign (by conv => lhs; whnf)) ?_
        refine L.nil ?_
        -- loopend
        refine ⟨(k + 1, A6, n + 1 + 1, c6), At2 (by first | rfl | exact at_int rfl (by omega) | exact at_slice rfl (by omega) | exact at_int rfl (by simp)) (by first | rfl | exact at_int rfl (by omega) | exact at_slice rfl (by omega) | exact at_int rfl (by simp)), (by (iterate 22 refine Agr.lk rfl ?_); exact Agr.lk rfl (Agr.hav rfl Agr.rfl')), ?_⟩
        have e : esc ((tz u).take (k + 1)) = esc ((tz u).take k) ++ [0] ++ [1] := by rw [ht1, esc_snoc, h0, if_pos rfl]; simp
        dsimp only
        rw [e]
        exact ⟨⟨by omega, by simp; omega, ho6, he6⟩, by omega⟩
      · refine J.skip ?_
        refine J.region ?_
        refine L.va rfl (X.move (by conv => lhs; whnf)) ?_
        refine L.va rfl (X.add rfl rfl (by omega)) ?_
        refine L.va rfl (X.assign (by conv => lhs; whnf)) ?_
        refine L.nil ?_
        -- loopend
        refine ⟨(k + 1, A4, n + 1, c4), At2 (by first | rfl | exact at_int rfl (by omega) | exact at_slice rfl (by omega) | exact at_int rfl (by simp)) (by first | rfl | exact at_int rfl (by omega) | exact at_slice rfl (by omega) | exact at_int rfl (by simp)), (by (iterate 18 refine Agr.lk rfl ?_); exact Agr.lk rfl (Agr.hav rfl Agr.rfl')), ?_⟩
        have e : esc ((tz u).take (k + 1)) = esc ((tz u).take k) ++ [(tz u).getD k 0] := by rw [ht1, esc_snoc, if_neg h0]
        dsimp only
        rw [e]
        exact ⟨⟨by omega, by simp; omega, ho4, he4⟩, by omega⟩
    · obtain rfl : k = u.size := by omega
      rw [← hl, List.take_length] at hn ho
      refine J.exit ?_
      refine J.seq ?_
      refine J.region ?_
      refine L.va rfl (X.move (by conv => lhs; whnf)) ?_
      -- buildSlice
      refine L.bslice (vs := [_, _]) rfl (Evs.cons (by conv => lhs; whnf) (Evs.cons (by conv => lhs; whnf) Evs.nil)) rfl rfl rfl rfl Try.underlying58 sz_5 zr_5 (by decide) ?_
      intro b1 w3 hb1 hs1 hk1 he1
      -- append
      refine L.appendQ (q := n + 2) (ys := esc (tz u) ++ [0, 0]) rfl rfl rfl Try.underlying58 el_5 ((ho.ext he1)) ((blk_reads (l := nums .u8 [0, 0]) hk1 hk1.lt rfl)) (by omega) (by simp) (by unfold maxLen; omega) (by omega) ?_
      intro A4 c4 w4 ho4 hg4 hb4 hor4
      refine L.va rfl (X.assign (by conv => lhs; whnf)) ?_
      refine L.nil ?_
      -- ret
      refine J.ret ?_
      refine fin1 ?_
      have e : (ct (tz u)).length = n + 2 := by rw [ct_esc, List.length_append, hn]; rfl
      rw [e, ct_esc]
      exact ⟨A4, c4, rfl, ho4, (he.trans he1).low hb4 (Nat.le_refl _)⟩
theorem drop_cons' {zs : List Int} {i : Nat} (h : i < zs.length) : zs.drop i = zs.getD i 0 :: zs.drop (i + 1) := by
  rw [List.drop_eq_getElem_cons h]
  simp [List.getD, h]
theorem comb_bad (o : List Int) (i : Nat) (e : Int) (h : e ≠ 0) : comb o i ([], 0, e) = ([], 0, e) := by unfold comb; rw [if_neg h]
theorem code_GetT (A : Option Addr) (m c : Nat) (zs : List Int) (w : World) (hr : Reads w w.heap.size 1 A m (nums .u8 zs)) (hz : ∀ z ∈ zs, 0 ≤ z ∧ z < 256) (hm : m ≤ 1000000) :
    Calls Try.prog 126 #[.slice A m c] w fun e w' => e = .returned (.tuple #[.string (strOfNums (gt zs).1), .int .i64 ((gt zs).2.1 : Int), .int .i64 (gt zs).2.2]) ∧ Ext w w' := by
  have hl : zs.length = m := by have := hr.1; simpa [nums] using this
  refine enter Try.func126 rfl (by kernel_rfl) ?_
  refine J.seq ?_
  refine J.region ?_
  refine L.va rfl (X.assign (by conv => lhs; whnf)) ?_
  refine L.va rfl (X.assign (by conv => lhs; whnf)) ?_
  refine L.va rfl (X.assign (by conv => lhs; whnf)) ?_
  refine L.nil ?_
  refine J.seq ?_
  refine J.region ?_
  refine L.va rfl (X.assign (by conv => lhs; whnf)) ?_
  refine L.nil ?_
  refine J.seq ?_
  refine J.seq ?_
  refine J.region ?_
  refine L.va rfl (X.assign (by conv => lhs; whnf)) ?_
  refine L.nil ?_
  refine J.block ?_
  -- loop
  refine J.loop (X := Nat × Option Addr × Nat × List Int) [2, 3, 4, 5, 6, 7, 8, 9, 10, 11, 12, 13, 14, 15, 16, 17, 18, 19, 20, 21, 22, 23, 24, 25, 26, 27, 28, 29, 30, 31, 32, 33, 34, 35, 36, 37, 38, 39, 40, 41, 42, 43, 44, 45, 46] (fun s => [(6, .int .i64 (s.1 : Int)), (5, .slice s.2.1 s.2.2.2.length s.2.2.1)]) (fun s w' => s.1 ≤ m ∧ s.2.2.2.length ≤ s.1 ∧ w'.ownsRow w.heap.size 5 1 (.slice s.2.1 s.2.2.2.length s.2.2.1) s.2.2.2.length (nums .u8 s.2.2.2) ∧ comb s.2.2.2 s.1 (gt (zs.drop s.1)) = gt zs ∧ Ext w w') (fun s => m - s.1) ((0, none, 0, [])) (At2 (by first | rfl | exact at_int rfl (by omega) | exact at_slice rfl (by omega) | exact at_int rfl (by simp)) (by first | rfl | exact at_int rfl (by omega) | exact at_slice rfl (by omega) | exact at_int rfl (by simp))) ?_ ?_
  · exact ⟨Nat.zero_le _, Nat.le_refl _, own_nil _ _ _ _, gt_self zs, .refl _⟩
  · rintro ⟨i, B, d, out⟩ g w2 ⟨hi, hn, ho, hc, he⟩
    dsimp only at hi hn ho hc he
    have hw2 := he.le
    have hr2 := hr.ext he
    refine J.seq ?_
    refine J.seq ?_
    refine J.region ?_
    refine L.va rfl (X.move (by conv => lhs; whnf)) ?_
    refine L.va rfl (X.move (by conv => lhs; whnf)) ?_
    refine L.va rfl (X.len rfl Try.underlying58) ?_
    refine L.va rfl (X.lss rfl rfl) ?_
    refine L.nil ?_
    -- cond
    refine J.dec rfl (fun hlt => ?_) (fun hlt => ?_)
    · have hd := drop_cons' (zs := zs) (i := i) (by omega)
      rw [hd] at hc
      refine J.skip ?_
      refine J.seq ?_
      refine J.block ?_
      refine J.seq ?_
      refine J.seq ?_
      refine J.region ?_
      refine L.va rfl (X.move (by conv => lhs; whnf)) ?_
      refine L.va rfl (X.move (by conv => lhs; whnf)) ?_
      refine L.va rfl ((by first | exact X.index1n rfl rfl Try.underlying58 sz_5 (by first | exact Option.some_ne_none _ | exact hr2.some_ (by omega)) (by omega) | exact X.index1 rfl rfl Try.underlying58 sz_5 (by first | exact Option.some_ne_none _ | exact hr2.some_ (by omega)) (by omega))) ?_
      refine L.va rfl (X.load rfl sc_5 (by first | exact Ld.num hr2 (by omega))) ?_
      refine L.va rfl (X.neq rfl rfl) ?_
      refine L.nil ?_
      -- cond
      refine J.ndec rfl (fun h0 => ?_) (fun h0 => ?_)
      · have h0 : zs.getD i 0 ≠ 0 := h0
        rw [gt_ne h0, comb_comb] at hc
        refine J.seq ?_
        refine J.region ?_
        refine L.va rfl (X.move (by conv => lhs; whnf)) ?_
        refine L.va rfl (X.move (by conv => lhs; whnf)) ?_
        refine L.va rfl (X.move (by conv => lhs; whnf)) ?_
        refine L.va rfl ((by first | exact X.index1n rfl rfl Try.underlying58 sz_5 (by first | exact Option.some_ne_none _ | exact hr2.some_ (by omega)) (by omega) | exact X.index1 rfl rfl Try.underlying58 sz_5 (by first | exact Option.some_ne_none _ | exact hr2.some_ (by omega)) (by omega))) ?_
        refine L.va rfl (X.load rfl sc_5 (by first | exact Ld.num hr2 (by omega))) ?_
        -- buildSlice
        refine L.bslice (vs := [_]) rfl (Evs.cons (by conv => lhs; whnf) Evs.nil) rfl rfl rfl rfl Try.underlying58 sz_5 zr_5 (by decide) ?_
        intro b1 w3 hb1 hs1 hk1 he1
        -- append
        refine L.appendQ (q := out.length + 1) (ys := out ++ [zs.getD i 0]) rfl rfl rfl Try.underlying58 el_5 ((ho.ext he1)) ((blk_reads (l := nums .u8 [zs.getD i 0]) hk1 hk1.lt rfl)) (by omega) (by simp) (by unfold maxLen; omega) (by omega) ?_
        intro A4 c4 w4 ho4 hg4 hb4 hor4
        refine L.va rfl (X.assign (by conv => lhs; whnf)) ?_
        refine L.nil ?_
        refine J.exit ?_
        refine J.region ?_
        refine L.va rfl (X.move (by conv => lhs; whnf)) ?_
        refine L.va rfl (X.add rfl rfl (by omega)) ?_
        refine L.va rfl (X.assign (by conv => lhs; whnf)) ?_
        refine L.nil ?_
        -- loopend
        have hll : (out ++ [zs.getD i 0]).length = out.length + 1 := by simp
        rw [← hll] at ho4 ⊢
        refine ⟨(i + 1, A4, c4, out ++ [zs.getD i 0]), At2 (by first | rfl | exact at_int rfl (by omega) | exact at_slice rfl (by omega) | exact at_int rfl (by simp)) (by first | rfl | exact at_int rfl (by omega) | exact at_slice rfl (by omega) | exact at_int rfl (by simp)), (by (iterate 20 refine Agr.lk rfl ?_); exact Agr.lk rfl (Agr.hav rfl Agr.rfl')), ?_⟩
        exact ⟨⟨by omega, by dsimp only; omega, ho4, hc, (he.trans he1).low hb4 (Nat.le_refl _)⟩, by dsimp only; omega⟩
      · have h0 : zs.getD i 0 = 0 := by simpa using h0
        rw [h0] at hc
        refine J.skip ?_
        refine J.seq ?_
        refine J.seq ?_
        refine J.region ?_
        refine L.va rfl (X.move (by conv => lhs; whnf)) ?_
        refine L.va rfl (X.add rfl rfl (by omega)) ?_
        refine L.va rfl (X.move (by conv => lhs; whnf)) ?_
        refine L.va rfl (X.len rfl Try.underlying58) ?_
        refine L.va rfl (X.eql rfl rfl) ?_
        refine L.nil ?_
        -- cond
        refine J.dec rfl (fun h1 => ?_) (fun h1 => ?_)
        · have e1 : zs.drop (i + 1) = [] := List.drop_eq_nil_iff.2 (by omega)
          rw [e1, gt_0, comb_bad _ _ _ (by decide)] at hc
          rw [← hc]
          refine J.seq ?_
          refine J.region ?_
          refine L.va rfl (X.assign (by conv => lhs; whnf)) ?_
          refine L.va rfl (X.assign (by conv => lhs; whnf)) ?_
          refine L.va rfl (X.assign (by conv => lhs; whnf)) ?_
          refine L.nil ?_
          -- ret
          refine J.ret ?_
          refine thn_ret <|  inB_ret <|  thn_ret <|  thn_ret <|  inB_ret <|  thn_ret <| ?_
          refine fin3 ?_
          exact ⟨rfl, he⟩
        · have hd1 := drop_cons' (zs := zs) (i := i + 1) (by omega)
          rw [hd1] at hc
          refine J.skip ?_
          refine J.seq ?_
          refine J.region ?_
          refine L.va rfl (X.move (by conv => lhs; whnf)) ?_
          refine L.va rfl (X.add rfl rfl (by omega)) ?_
          refine L.va rfl (X.assign (by conv => lhs; whnf)) ?_
          refine L.nil ?_
          refine J.seq ?_
          refine J.region ?_
          refine L.va rfl (X.move (by conv => lhs; whnf)) ?_
          refine L.va rfl (X.move (by conv => lhs; whnf)) ?_
          refine L.va rfl ((by first | exact X.index1n rfl rfl Try.underlying58 sz_5 (by first | exact Option.some_ne_none _ | exact hr2.some_ (by omega)) (by omega) | exact X.index1 rfl rfl Try.underlying58 sz_5 (by first | exact Option.some_ne_none _ | exact hr2.some_ (by omega)) (by omega))) ?_
          refine L.va rfl (X.load rfl sc_5 (by first | exact Ld.num hr2 (by omega))) ?_
          refine L.nil ?_
          refine J.block ?_
          refine J.seq ?_
          refine J.region ?_
          refine L.va rfl (X.eql rfl rfl) ?_
          refine L.va rfl (X.assign (by conv => lhs; whnf)) ?_
          refine L.nil ?_
          -- cond
          refine J.dec rfl (fun h2 => ?_) (fun h2 => ?_)
          · have h2 : zs.getD (i + 1) 0 = 0 := h2
            rw [h2, gt_00] at hc
            have e2 : comb out i ([], 2, 0) = (out, i + 2, 0) := by simp [comb]
            rw [e2] at hc
            rw [← hc]
            -- t39
            refine J.seq ?_
            refine J.region ?_
            refine L.va rfl (X.move (by conv => lhs; whnf)) ?_
            refine L.va rfl (X.conv rfl ((own_reads ho).conv Try.underlying58 Try.underlying5 Try.underlying9)) ?_
            refine L.va rfl (X.move (by conv => lhs; whnf)) ?_
            refine L.va rfl (X.add rfl rfl (by omega)) ?_
            refine L.va rfl (X.assign (by conv => lhs; whnf)) ?_
            refine L.va rfl (X.assign (by conv => lhs; whnf)) ?_
            refine L.va rfl (X.assign (by conv => lhs; whnf)) ?_
            refine L.nil ?_
            -- ret
            refine J.ret ?_
            refine inB_ret <|  inB_ret <|  thn_ret <|  thn_ret <|  inB_ret <|  thn_ret <| ?_
            refine fin3 ?_
            exact ⟨rfl, he⟩
          · have h2 : zs.getD (i + 1) 0 ≠ 0 := h2
            refine J.seq ?_
            refine J.region ?_
            refine L.va rfl (X.eql rfl rfl) ?_
            refine L.va rfl (X.assign (by conv => lhs; whnf)) ?_
            refine L.nil ?_
            -- cond
            refine J.dec rfl (fun h3 => ?_) (fun h3 => ?_)
            · have h3 : zs.getD (i + 1) 0 = 1 := h3
              rw [h3, gt_01, comb_comb] at hc
              refine J.region ?_
              refine L.va rfl (X.move (by conv => lhs; whnf)) ?_
              -- buildSlice
              refine L.bslice (vs := [_]) rfl (Evs.cons (by conv => lhs; whnf) Evs.nil) rfl rfl rfl rfl Try.underlying58 sz_5 zr_5 (by decide) ?_
              intro b1 w3 hb1 hs1 hk1 he1
              -- append
              refine L.appendQ (q := out.length + 1) (ys := out ++ [0]) rfl rfl rfl Try.underlying58 el_5 ((ho.ext he1)) ((blk_reads (l := nums .u8 [0]) hk1 hk1.lt rfl)) (by omega) (by simp) (by unfold maxLen; omega) (by omega) ?_
              intro A4 c4 w4 ho4 hg4 hb4 hor4
              refine L.va rfl (X.assign (by conv => lhs; whnf)) ?_
              refine L.nil ?_
              refine J.region ?_
              refine L.va rfl (X.move (by conv => lhs; whnf)) ?_
              refine L.va rfl (X.add rfl rfl (by omega)) ?_
              refine L.va rfl (X.assign (by conv => lhs; whnf)) ?_
              refine L.nil ?_
              -- loopend
              have hll : (out ++ [(0 : Int)]).length = out.length + 1 := by simp
              rw [← hll] at ho4 ⊢
              refine ⟨(i + 2, A4, c4, out ++ [0]), At2 (by first | rfl | exact at_int rfl (by omega) | exact at_slice rfl (by omega) | exact at_int rfl (by simp)) (by first | rfl | exact at_int rfl (by omega) | exact at_slice rfl (by omega) | exact at_int rfl (by simp)), (by (iterate 32 refine Agr.lk rfl ?_); exact Agr.lk rfl (Agr.hav rfl Agr.rfl')), ?_⟩
              exact ⟨⟨by omega, by dsimp only; omega, ho4, hc, (he.trans he1).low hb4 (Nat.le_refl _)⟩, by dsimp only; omega⟩
            · have h3 : zs.getD (i + 1) 0 ≠ 1 := h3
              rw [gt_0x h2 h3, comb_bad _ _ _ (by decide)] at hc
              rw [← hc]
              refine J.seq ?_
              refine J.region ?_
              refine L.va rfl (X.assign (by conv => lhs; whnf)) ?_
              refine L.va rfl (X.assign (by conv => lhs; whnf)) ?_
              refine L.va rfl (X.assign (by conv => lhs; whnf)) ?_
              refine L.nil ?_
              -- ret
              refine J.ret ?_
              refine inB_ret <|  inB_ret <|  thn_ret <|  thn_ret <|  inB_ret <|  thn_ret <| ?_
              refine fin3 ?_
              exact ⟨rfl, he⟩
    · obtain rfl : i = m := by omega
      rw [← hl, List.drop_length, gt_nil, comb_bad _ _ _ (by decide)] at hc
      rw [← hc]
      refine J.exit ?_
      refine J.seq ?_
      refine J.region ?_
      refine L.va rfl (X.assign (by conv => lhs; whnf)) ?_
      refine L.va rfl (X.assign (by conv => lhs; whnf)) ?_
      refine L.va rfl (X.assign (by conv => lhs; whnf)) ?_
      refine L.nil ?_
      -- ret
      refine J.ret ?_
      refine fin3 ?_
      exact ⟨rfl, he⟩
theorem ref_GetT (A : Option Addr) (m c : Nat) (zs : List Int) (w : World) (hr : Reads w w.heap.size 1 A m (nums .u8 zs)) (hz : ∀ z ∈ zs, 0 ≤ z ∧ z < 256) (hm : m ≤ 1000000) (hmc : m ≤ c) :
    Calls Try.prog 158 #[.slice A m c] w fun e w' => e = .returned (.tuple #[.string (strOfNums (gt zs).1), .int .i64 ((gt zs).2.1 : Int), .int .i64 (gt zs).2.2]) ∧ w = w' := by
  have hl : zs.length = m := by have := hr.1; simpa [nums] using this
  have hpart : ∀ i, i < m → Reads w w.heap.size 1 (if c = i then A else A.map (·.add (i * 1))) (i + 1 - i) (nums .u8 [zs.getD i 0]) := by
    intro i hi
    have := part_nums (i := i) (j := i + 1) hr (by omega) (by omega) hmc
    rwa [show (zs.drop i).take (i + 1 - i) = [zs.getD i 0] by rw [drop_cons' (by omega), show i + 1 - i = 1 by omega]; rfl] at this
  have hsz : ∀ (out : List Int) (z : Int), (strOfNums out).size + (strOfNums [z]).size = out.length + 1 := by intro out z; simp [strOfNums_size]
  refine enter Try.func158 rfl (by kernel_rfl) ?_
  refine J.seq ?_
  refine J.region ?_
  refine L.va rfl (X.assign (by conv => lhs; whnf)) ?_
  refine L.va rfl (X.assign (by conv => lhs; whnf)) ?_
  refine L.va rfl (X.assign (by conv => lhs; whnf)) ?_
  refine L.nil ?_
  refine J.seq ?_
  refine J.region ?_
  refine L.va rfl (X.assign (by conv => lhs; whnf)) ?_
  refine L.nil ?_
  refine J.seq ?_
  refine J.region ?_
  refine L.va rfl (X.assign (by conv => lhs; whnf)) ?_
  refine L.nil ?_
  refine J.seq ?_
  refine J.block ?_
  -- loop
  refine J.loop (X := Nat × List Int) [2, 3, 4, 5, 6, 7, 8, 9, 10, 11, 12, 13, 14, 15, 16, 17, 18, 19, 20, 21, 22, 23, 24, 25, 26, 27, 28, 29, 30, 31, 32, 33, 34, 35, 36, 37, 38, 39, 40, 41, 42, 43, 44, 45, 46, 47, 48, 49, 50, 51, 52, 53, 54, 55] (fun s => [(6, .int .i64 (s.1 : Int)), (5, .string (strOfNums s.2))]) (fun s w' => s.1 ≤ m ∧ s.2.length ≤ s.1 ∧ comb s.2 s.1 (gt (zs.drop s.1)) = gt zs ∧ w' = w) (fun s => m - s.1) ((0, [])) (At2 (by first | rfl | exact at_int rfl (by omega) | exact at_slice rfl (by omega) | exact at_int rfl (by simp)) (by first | rfl | exact at_int rfl (by omega) | exact at_slice rfl (by omega) | exact at_int rfl (by simp))) ?_ ?_
  · exact ⟨Nat.zero_le _, Nat.le_refl _, gt_self zs, rfl⟩
  · rintro ⟨i, out⟩ g w2 ⟨hi, hn, hc, rfl⟩
    dsimp only at hi hn hc
    refine J.seq ?_
    refine J.seq ?_
    refine J.region ?_
    refine L.va rfl (X.move (by conv => lhs; whnf)) ?_
    refine L.va rfl (X.move (by conv => lhs; whnf)) ?_
    refine L.va rfl (X.len rfl Try.underlying58) ?_
    refine L.va rfl (X.lss rfl rfl) ?_
    refine L.nil ?_
    -- cond
    refine J.dec rfl (fun hlt => ?_) (fun hlt => ?_)
    · have hd := drop_cons' (zs := zs) (i := i) (by omega)
      have hp := hpart i (by omega)
      have hs1 := hsz out (zs.getD i 0)
      have hs2 : (strOfNums ((i, out) : Nat × List Int).2).size = out.length := strOfNums_size _
      have hs3 : (strOfNums out).size = out.length := strOfNums_size _
      rw [hd] at hc
      refine J.skip ?_
      refine J.block ?_
      refine J.seq ?_
      refine J.seq ?_
      refine J.region ?_
      refine L.va rfl (X.move (by conv => lhs; whnf)) ?_
      refine L.va rfl (X.move (by conv => lhs; whnf)) ?_
      refine L.va rfl ((by first | exact X.index1n rfl rfl Try.underlying58 sz_5 (by first | exact Option.some_ne_none _ | exact hr.some_ (by omega)) (by omega) | exact X.index1 rfl rfl Try.underlying58 sz_5 (by first | exact Option.some_ne_none _ | exact hr.some_ (by omega)) (by omega))) ?_
      refine L.va rfl (X.load rfl sc_5 (by first | exact Ld.num hr (by omega))) ?_
      refine L.va rfl (X.neq rfl rfl) ?_
      refine L.nil ?_
      -- cond
      refine J.ndec rfl (fun h0 => ?_) (fun h0 => ?_)
      · have h0 : zs.getD i 0 ≠ 0 := h0
        rw [gt_ne h0, comb_comb] at hc
        -- t21
        -- t22
        refine J.seq ?_
        refine J.region ?_
        refine L.va rfl (X.move (by conv => lhs; whnf)) ?_
        refine L.va rfl (X.move (by conv => lhs; whnf)) ?_
        refine L.va rfl (X.move (by conv => lhs; whnf)) ?_
        refine L.va rfl (X.move (by conv => lhs; whnf)) ?_
        refine L.va rfl (X.add rfl rfl (by omega)) ?_
        refine L.va rfl (X.slicen (i := i) (j := i + 1) rfl rfl rfl Try.underlying58 sz_5 (by omega)) ?_
        refine L.va rfl (X.conv rfl (hp.conv Try.underlying58 Try.underlying5 Try.underlying9)) ?_
        refine L.va rfl (X.addS rfl rfl (by omega)) ?_
        refine L.va rfl (X.assign (by conv => lhs; whnf)) ?_
        refine L.nil ?_
        refine J.seq ?_
        refine J.region ?_
        refine L.va rfl (X.move (by conv => lhs; whnf)) ?_
        refine L.va rfl (X.add rfl rfl (by omega)) ?_
        refine L.va rfl (X.assign (by conv => lhs; whnf)) ?_
        refine L.nil ?_
        refine J.exit ?_
        -- loopend
        rw [str_append]
        refine ⟨(i + 1, out ++ [zs.getD i 0]), At2 (by first | rfl | exact at_int rfl (by omega) | exact at_slice rfl (by omega) | exact at_int rfl (by simp)) (by first | rfl | exact at_int rfl (by omega) | exact at_slice rfl (by omega) | exact at_int rfl (by simp)), (by (iterate 21 refine Agr.lk rfl ?_); exact Agr.lk rfl (Agr.hav rfl Agr.rfl')), ?_⟩
        exact ⟨⟨by omega, by simp; omega, hc, rfl⟩, by dsimp only; omega⟩
      · have h0 : zs.getD i 0 = 0 := by simpa using h0
        rw [h0] at hc
        refine J.skip ?_
        refine J.seq ?_
        refine J.seq ?_
        refine J.region ?_
        refine L.va rfl (X.move (by conv => lhs; whnf)) ?_
        refine L.va rfl (X.add rfl rfl (by omega)) ?_
        refine L.va rfl (X.move (by conv => lhs; whnf)) ?_
        refine L.va rfl (X.len rfl Try.underlying58) ?_
        refine L.va rfl (X.geq rfl rfl) ?_
        refine L.nil ?_
        -- cond
        refine J.dec rfl (fun h1 => ?_) (fun h1 => ?_)
        · have e1 : zs.drop (i + 1) = [] := List.drop_eq_nil_iff.2 (by omega)
          rw [e1, gt_0, comb_bad _ _ _ (by decide)] at hc
          rw [← hc]
          refine J.seq ?_
          refine J.region ?_
          refine L.va rfl (X.assign (by conv => lhs; whnf)) ?_
          refine L.va rfl (X.assign (by conv => lhs; whnf)) ?_
          refine L.va rfl (X.assign (by conv => lhs; whnf)) ?_
          refine L.nil ?_
          -- ret
          refine J.ret ?_
          refine thn_ret <|  inB_ret <|  thn_ret <|  inB_ret <|  thn_ret <| ?_
          refine fin3 ?_
          exact ⟨rfl, rfl⟩
        · have hd1 := drop_cons' (zs := zs) (i := i + 1) (by omega)
          rw [hd1] at hc
          refine J.skip ?_
          refine J.seq ?_
          refine J.seq ?_
          refine J.region ?_
          refine L.va rfl (X.move (by conv => lhs; whnf)) ?_
          refine L.va rfl (X.move (by conv => lhs; whnf)) ?_
          refine L.va rfl (X.add rfl rfl (by omega)) ?_
          refine L.va rfl ((by first | exact X.index1n rfl rfl Try.underlying58 sz_5 (by first | exact Option.some_ne_none _ | exact hr.some_ (by omega)) (by omega) | exact X.index1 rfl rfl Try.underlying58 sz_5 (by first | exact Option.some_ne_none _ | exact hr.some_ (by omega)) (by omega))) ?_
          refine L.va rfl (X.load rfl sc_5 (by first | exact Ld.num hr (by omega))) ?_
          refine L.va rfl (X.eql rfl rfl) ?_
          refine L.nil ?_
          -- cond
          refine J.dec rfl (fun h2 => ?_) (fun h2 => ?_)
          · have h2 : zs.getD (i + 1) 0 = 0 := h2
            rw [h2, gt_00] at hc
            have e2 : comb out i ([], 2, 0) = (out, i + 2, 0) := by simp [comb]
            rw [e2] at hc
            rw [← hc]
            refine J.seq ?_
            refine J.region ?_
            refine L.va rfl (X.move (by conv => lhs; whnf)) ?_
            refine L.va rfl (X.move (by conv => lhs; whnf)) ?_
            refine L.va rfl (X.add rfl rfl (by omega)) ?_
            refine L.va rfl (X.assign (by conv => lhs; whnf)) ?_
            refine L.va rfl (X.assign (by conv => lhs; whnf)) ?_
            refine L.va rfl (X.assign (by conv => lhs; whnf)) ?_
            refine L.nil ?_
            -- ret
            refine J.ret ?_
            refine thn_ret <|  inB_ret <|  thn_ret <|  inB_ret <|  thn_ret <| ?_
            refine fin3 ?_
            exact ⟨rfl, rfl⟩
          · have h2 : zs.getD (i + 1) 0 ≠ 0 := h2
            refine J.skip ?_
            refine J.seq ?_
            refine J.seq ?_
            refine J.region ?_
            refine L.va rfl (X.move (by conv => lhs; whnf)) ?_
            refine L.va rfl (X.move (by conv => lhs; whnf)) ?_
            refine L.va rfl (X.add rfl rfl (by omega)) ?_
            refine L.va rfl ((by first | exact X.index1n rfl rfl Try.underlying58 sz_5 (by first | exact Option.some_ne_none _ | exact hr.some_ (by omega)) (by omega) | exact X.index1 rfl rfl Try.underlying58 sz_5 (by first | exact Option.some_ne_none _ | exact hr.some_ (by omega)) (by omega))) ?_
            refine L.va rfl (X.load rfl sc_5 (by first | exact Ld.num hr (by omega))) ?_
            refine L.va rfl (X.neq rfl rfl) ?_
            refine L.nil ?_
            -- cond
            refine J.ndec rfl (fun h3 => ?_) (fun h3 => ?_)
            · have h3 : zs.getD (i + 1) 0 ≠ 1 := h3
              rw [gt_0x h2 h3, comb_bad _ _ _ (by decide)] at hc
              rw [← hc]
              refine J.seq ?_
              refine J.region ?_
              refine L.va rfl (X.assign (by conv => lhs; whnf)) ?_
              refine L.va rfl (X.assign (by conv => lhs; whnf)) ?_
              refine L.va rfl (X.assign (by conv => lhs; whnf)) ?_
              refine L.nil ?_
              -- ret
              refine J.ret ?_
              refine thn_ret <|  inB_ret <|  thn_ret <|  inB_ret <|  thn_ret <| ?_
              refine fin3 ?_
              exact ⟨rfl, rfl⟩
            · have h3 : zs.getD (i + 1) 0 = 1 := by simpa using h3
              rw [h3, gt_01, comb_comb] at hc
              rw [h0] at hp hs1
              -- t51
              -- t52
              refine J.skip ?_
              refine J.seq ?_
              refine J.region ?_
              refine L.va rfl (X.move (by conv => lhs; whnf)) ?_
              refine L.va rfl (X.move (by conv => lhs; whnf)) ?_
              refine L.va rfl (X.move (by conv => lhs; whnf)) ?_
              refine L.va rfl (X.move (by conv => lhs; whnf)) ?_
              refine L.va rfl (X.add rfl rfl (by omega)) ?_
              refine L.va rfl (X.slicen (i := i) (j := i + 1) rfl rfl rfl Try.underlying58 sz_5 (by omega)) ?_
              refine L.va rfl (X.conv rfl (hp.conv Try.underlying58 Try.underlying5 Try.underlying9)) ?_
              refine L.va rfl (X.addS rfl rfl (by omega)) ?_
              refine L.va rfl (X.assign (by conv => lhs; whnf)) ?_
              refine L.nil ?_
              refine J.region ?_
              refine L.va rfl (X.move (by conv => lhs; whnf)) ?_
              refine L.va rfl (X.add rfl rfl (by omega)) ?_
              refine L.va rfl (X.assign (by conv => lhs; whnf)) ?_
              refine L.nil ?_
              -- loopend
              rw [str_append]
              refine ⟨(i + 2, out ++ [0]), At2 (by first | rfl | exact at_int rfl (by omega) | exact at_slice rfl (by omega) | exact at_int rfl (by simp)) (by first | rfl | exact at_int rfl (by omega) | exact at_slice rfl (by omega) | exact at_int rfl (by simp)), (by (iterate 38 refine Agr.lk rfl ?_); exact Agr.lk rfl (Agr.hav rfl Agr.rfl')), ?_⟩
              exact ⟨⟨by omega, by simp; omega, hc, rfl⟩, by dsimp only; omega⟩
    · obtain rfl : i = m := by omega
      rw [← hl, List.drop_length, gt_nil, comb_bad _ _ _ (by decide)] at hc
      rw [← hc]
      refine J.exit ?_
      refine J.seq ?_
      refine J.region ?_
      refine L.va rfl (X.assign (by conv => lhs; whnf)) ?_
      refine L.va rfl (X.assign (by conv => lhs; whnf)) ?_
      refine L.va rfl (X.assign (by conv => lhs; whnf)) ?_
      refine L.nil ?_
      -- ret
      refine J.ret ?_
      refine fin3 ?_
      exact ⟨rfl, rfl⟩
end Go.Proofs.Ytlohbkcedpkjaaa
