/-
  A space of pages: Keep, New; spaces that are none.
-/
import Derived.Test.YtdmfikedojgjbaaWFreeB
namespace Go.Proofs.Ytdmfikedojgjbaa
set_option maxRecDepth 100000
open Go.RowKit H
set_option linter.unusedVariables false
theorem okLive_at {R live : List Int} : okLive R live = true ↔ ∀ i, i < live.length → 1 ≤ live.getD i 0 ∧ live.getD i 0 ≤ (R.length : Int) ∧ R.getD ((live.getD i 0).toNat - 1) 0 ≠ 0 := by
  unfold okLive
  rw [List.all_eq_true]
  constructor
  · intro h i hi
    have e : live.getD i 0 = live[i] := by simp [List.getD, hi]
    have := h _ (List.getElem_mem hi)
    rw [e]
    simpa [and_assoc] using this
  · intro h p hp
    obtain ⟨i, hi, rfl⟩ := List.getElem_of_mem hp
    have := h i hi
    have e : live.getD i 0 = live[i] := by simp [List.getD, hi]
    rw [e] at this
    simpa [and_assoc] using this
theorem allThere_at {n : Nat} {live : List Int} : allThere n live = true ↔ ∀ i, i < live.length → 1 ≤ live.getD i 0 ∧ live.getD i 0 ≤ (n : Int) := by
  unfold allThere
  rw [List.all_eq_true]
  constructor
  · intro h i hi
    have e : live.getD i 0 = live[i] := by simp [List.getD, hi]
    have := h _ (List.getElem_mem hi)
    rw [e]
    simpa using this
  · intro h p hp
    obtain ⟨i, hi, rfl⟩ := List.getElem_of_mem hp
    have := h i hi
    have e : live.getD i 0 = live[i] := by simp [List.getD, hi]
    rw [e] at this
    simpa using this
namespace Sp
variable {s : Sp} {N : Nat} {w w' : World} {R : List Int}
theorem At.keep_ (h : s.At N w) (hi : s.Is R) (A : Option Addr) (n c : Nat) (live : List Int) (hr : Reads w N 1 A n (nums .i64 live)) (hn : n ≤ 1000000) : Calls Try.prog 38 #[s.ptr, .slice A n c] w fun e w' => e = .returned (.int .i64 (doF R 1 live).2.2) ∧ s.To N (doF R 1 live).1 w w' := by
  have hl := h.hl
  have hlen := hi.len
  have hll : live.length = n := by have := hr.1; simpa [nums] using this
  have eD : doF R 1 live = if okLive R live = true then (mark (List.replicate R.length 0) live, 0, 0) else (R, 0, 11) := by unfold doF; rw [if_neg (by decide), if_neg (by decide)]
  have hR := hi.hR
  have hkk : ∀ p : Int, (if p < 1 ∨ (s.ks.length : Int) ≤ p then -1 else s.ks.getD p.toNat 0) = kdO R p := fun p => by rw [kdO_ks, hi.hk]
  have hkd : ∀ p : Int, kdO R p ≤ 0 ↔ ¬ (1 ≤ p ∧ p ≤ (R.length : Int) ∧ R.getD (p.toNat - 1) 0 ≠ 0) := fun p => by
    unfold kdO
    have := hR.at (p.toNat - 1)
    split
    · rename_i h
      constructor
      · intro _ ⟨h1, h2, _⟩; omega
      · intro _; decide
    · rename_i h
      constructor
      · intro h1 ⟨_, _, h3⟩; omega
      · intro h1
        apply Decidable.byContradiction
        intro h2
        exact h1 ⟨by omega, by omega, by omega⟩
  refine enter Try.func38 rfl (by kernel_rfl) ?_
  refine J.seq ?_
  refine J.region ?_
  refine L.va rfl (X.assign (by conv => lhs; whnf)) ?_
  refine L.nil ?_
  refine J.seq ?_
  refine J.seq ?_
  refine J.region ?_
  refine L.va rfl (X.move (by conv => lhs; whnf)) ?_
  -- callfn (*bushel/free.Space).is
  refine L.call rfl en_73 rfl (h.is_) ?_
  rintro e _ ⟨rfl, rfl⟩
  refine ⟨_, rfl, ?_⟩
  refine L.va rfl (X.not rfl) ?_
  refine L.nil ?_
  -- cond
  refine J.iteF rfl ?_
  refine J.skip ?_
  -- until
  refine J.cut (X := Unit) [4, 6, 13, 14, 15, 16, 17, 18, 19, 20, 21, 22, 23] (fun _ => []) (fun _ w' => w' = w ∧ okLive R live = true) ?_ ?_
  · refine J.seq ?_
    refine J.region ?_
    refine L.va rfl (X.move (by conv => lhs; whnf)) ?_
    refine L.va rfl (X.len rfl Try.underlying62) ?_
    refine L.va rfl (X.move (by conv => lhs; whnf)) ?_
    refine L.nil ?_
    refine J.block ?_
    -- loop
    refine J.loop (X := Nat) [4, 6, 15, 16, 17, 18, 19, 20, 21, 22, 23] (fun i => [(15, .int .i64 (i : Int))]) (fun i w' => w' = w ∧ i ≤ n ∧ ∀ j, j < i → 1 ≤ live.getD j 0 ∧ live.getD j 0 ≤ (R.length : Int) ∧ R.getD ((live.getD j 0).toNat - 1) 0 ≠ 0) (fun i => n - i) (0) (At1 (by first | rfl | exact at_int rfl (by omega) | exact at_slice rfl (by omega) | exact at_int rfl (by simp))) ?_ ?_
    · exact ⟨rfl, Nat.zero_le _, fun j hj => absurd hj (Nat.not_lt_zero _)⟩
    · rintro i g w2 ⟨rfl, hi2, hall⟩
      refine J.seq ?_
      refine J.region ?_
      refine L.va rfl (X.lss rfl rfl) ?_
      refine L.nil ?_
      refine J.seq ?_
      -- cond
      refine J.dec rfl (fun hlt => ?_) (fun hlt => ?_)
      · have hil : i < n := by omega
        have cK := h.kind_ (live.getD i 0)
        rw [hkk] at cK
        refine J.skip ?_
        refine J.seq ?_
        refine J.block ?_
        refine J.seq ?_
        refine J.region ?_
        refine L.va rfl ((by first | exact X.index1n rfl rfl Try.underlying62 sz_3 (by first | exact Option.some_ne_none _ | exact hr.some_ (by omega)) (by omega) | exact X.index1 rfl rfl Try.underlying62 sz_3 (by first | exact Option.some_ne_none _ | exact hr.some_ (by omega)) (by omega))) ?_
        refine L.va rfl (X.load rfl sc_3 (by first | exact Ld.num hr (by omega))) ?_
        refine L.va rfl (X.assign (by conv => lhs; whnf)) ?_
        refine L.nil ?_
        refine J.seq ?_
        refine J.region ?_
        refine L.va rfl (X.move (by conv => lhs; whnf)) ?_
        refine L.va rfl (X.move (by conv => lhs; whnf)) ?_
        -- callfn (*bushel/free.Space).Kind
        refine L.call rfl en_41 rfl (cK) ?_
        rintro e _ ⟨rfl, rfl⟩
        refine ⟨_, rfl, ?_⟩
        refine L.va rfl (X.leq rfl rfl) ?_
        refine L.nil ?_
        -- cond
        refine J.dec rfl (fun hle => ?_) (fun hle => ?_)
        · have e : okLive R live ≠ true := fun hok => (hkd _).1 hle (okLive_at.1 hok i (by omega))
          rw [eD, if_neg e]
          refine J.seq ?_
          refine J.region ?_
          refine L.va rfl (X.assign (by conv => lhs; whnf)) ?_
          refine L.nil ?_
          -- ret
          refine J.ret ?_
          refine inB_ret <|  thn_ret <|  thn_ret <|  inB_ret <|  thn_ret <| ?_
          refine fin1 ?_
          exact ⟨rfl, To.same h hi⟩
        · refine J.skip ?_
          refine J.region ?_
          refine L.va rfl (X.add rfl rfl (by omega)) ?_
          refine L.va rfl (X.move (by conv => lhs; whnf)) ?_
          refine L.nil ?_
          -- loopend
          refine ⟨i + 1, At1 (by first | rfl | exact at_int rfl (by omega) | exact at_slice rfl (by omega) | exact at_int rfl (by simp)), (by (iterate 10 refine Agr.lk rfl ?_); exact Agr.lk rfl (Agr.hav rfl Agr.rfl')), ?_⟩
          refine ⟨⟨rfl, by omega, fun j hj => ?_⟩, by omega⟩
          rcases Nat.lt_or_ge j i with hj2 | hj2
          · exact hall j hj2
          · obtain rfl : j = i := by omega
            apply Decidable.byContradiction
            intro hc
            exact hle ((hkd _).2 hc)
      · obtain rfl : i = n := by omega
        refine J.exit ?_
        -- cutend
        refine ⟨(), At0 , (by (iterate 1 refine Agr.lk rfl ?_); refine Agr.lk rfl ?_; refine Agr.hav rfl ?_; (iterate 3 refine Agr.lk rfl ?_); exact Agr.rfl'), ?_⟩
        exact ⟨rfl, okLive_at.2 (fun j hj => hall j (by omega))⟩
  · rintro ⟨⟩ g w2 ⟨rfl, hok⟩
    have hat := okLive_at.1 hok
    rw [eD, if_pos hok]
    -- until
    refine J.cut (X := Unit) [7, 24, 25, 26, 27, 28, 29, 30, 31, 32, 33, 34, 35, 36, 37, 38, 39, 40] (fun _ => []) (fun _ w' => At (mk' s s.fA s.fc (-1 :: List.replicate R.length 0) s.fr) N w' ∧ Chg s.T w2 w') ?_ ?_
    · have hb := h.hb
      refine J.seq ?_
      refine J.region ?_
      refine L.va rfl (X.move (by conv => lhs; whnf)) ?_
      refine L.va rfl (X.nilCheck rfl) ?_
      refine L.va rfl (X.fieldAddr rfl Try.underlying83 rfl sz_62 (by decide)) ?_
      refine L.va rfl (X.load rfl sc_62 (by first | exact Ld.blk hb rfl)) ?_
      refine L.va rfl (X.len rfl Try.underlying62) ?_
      refine L.va rfl (X.move (by conv => lhs; whnf)) ?_
      refine L.nil ?_
      refine J.block ?_
      -- loop
      refine J.loop (X := Nat) [7, 29, 30, 31, 32, 33, 34, 35, 36, 37, 38, 39, 40] (fun i => [(29, .int .i64 (i : Int))]) (fun i w' => i ≤ s.ks.length ∧ At (mk' s s.fA s.fc (zk s.ks i) s.fr) N w' ∧ Chg s.T w2 w') (fun i => s.ks.length - i) (0) (At1 (by first | rfl | exact at_int rfl (by omega) | exact at_slice rfl (by omega) | exact at_int rfl (by simp))) ?_ ?_
      · exact ⟨Nat.zero_le _, h, .of_ext (Ext.refl _)⟩
      · rintro i g w3 ⟨hi2, H, K⟩
        have hzl := zk_length s.ks i
        have hb3 : Blk w3 s.d 83 #[.slice s.kA (zk s.ks i).length s.kc, .slice s.fA s.fr.length s.fc] := H.hb
        have hk3 : w3.ownsRow N 3 1 (.slice s.kA (zk s.ks i).length s.kc) (zk s.ks i).length (nums .i64 (zk s.ks i)) := H.hk
        refine J.seq ?_
        refine J.region ?_
        refine L.va rfl (X.lss rfl rfl) ?_
        refine L.nil ?_
        refine J.seq ?_
        -- cond
        refine J.dec rfl (fun hlt => ?_) (fun hlt => ?_)
        · have hil : i < s.ks.length := by omega
          refine J.skip ?_
          refine J.seq ?_
          refine J.block ?_
          refine J.seq ?_
          refine J.region ?_
          refine L.va rfl (X.move (by conv => lhs; whnf)) ?_
          refine L.va rfl (X.assign (by conv => lhs; whnf)) ?_
          refine L.nil ?_
          refine J.seq ?_
          refine J.region ?_
          refine L.va rfl (X.move (by conv => lhs; whnf)) ?_
          refine L.va rfl (X.gtr rfl rfl) ?_
          refine L.nil ?_
          -- cond
          refine J.dec rfl (fun h0 => ?_) (fun h0 => ?_)
          · have hst : zk s.ks (i + 1) = (zk s.ks i).set i 0 := by rw [zk, if_pos (by omega)]
            refine J.region ?_
            refine L.va rfl (X.move (by conv => lhs; whnf)) ?_
            refine L.va rfl (X.nilCheck rfl) ?_
            refine L.va rfl (X.fieldAddr rfl Try.underlying83 rfl sz_62 (by decide)) ?_
            refine L.va rfl (X.load rfl sc_62 (by first | exact Ld.blk hb3 rfl | exact Ld.own hk3 (by omega))) ?_
            refine L.va rfl (X.move (by conv => lhs; whnf)) ?_
            refine L.va rfl ((by first | exact X.index1n rfl rfl Try.underlying62 sz_3 (by first | exact Option.some_ne_none _ | exact own_ne hk3 (by omega)) (by omega) | exact X.index1 rfl rfl Try.underlying62 sz_3 (by first | exact Option.some_ne_none _ | exact own_ne hk3 (by omega)) (by omega))) ?_
            -- store
            refine L.storeON rfl rfl (by conv => lhs; whnf) sz_3 (hk3) (by omega) ?_
            intro w4 hk4 hg4 hbl4 hs4
            obtain ⟨H4, K4⟩ := H.setk i 0 hk4 hg4
            have H4 : At (mk' s s.fA s.fc ((zk s.ks i).set i 0) s.fr) N w4 := H4
            rw [← hst] at H4
            refine L.nil ?_
            refine J.region ?_
            refine L.va rfl (X.add rfl rfl (by omega)) ?_
            refine L.va rfl (X.move (by conv => lhs; whnf)) ?_
            refine L.nil ?_
            -- loopend
            refine ⟨i + 1, At1 (by first | rfl | exact at_int rfl (by omega) | exact at_slice rfl (by omega) | exact at_int rfl (by simp)), (by (iterate 13 refine Agr.lk rfl ?_); exact Agr.lk rfl (Agr.hav rfl Agr.rfl')), ?_⟩
            exact ⟨⟨by omega, H4, K.trans K4 (fun g hg hh => T_self.2 (T_mk.1 hh))⟩, by omega⟩
          · have hst : zk s.ks (i + 1) = zk s.ks i := by rw [zk, if_neg (by omega)]
            refine J.skip ?_
            refine J.region ?_
            refine L.va rfl (X.add rfl rfl (by omega)) ?_
            refine L.va rfl (X.move (by conv => lhs; whnf)) ?_
            refine L.nil ?_
            -- loopend
            refine ⟨i + 1, At1 (by first | rfl | exact at_int rfl (by omega) | exact at_slice rfl (by omega) | exact at_int rfl (by simp)), (by (iterate 7 refine Agr.lk rfl ?_); exact Agr.lk rfl (Agr.hav rfl Agr.rfl')), ?_⟩
            exact ⟨⟨by omega, by rw [hst]; exact H, K⟩, by omega⟩
        · obtain rfl : i = s.ks.length := by omega
          refine J.exit ?_
          -- cutend
          refine ⟨(), At0 , (by (iterate 1 refine Agr.lk rfl ?_); refine Agr.lk rfl ?_; refine Agr.hav rfl ?_; (iterate 6 refine Agr.lk rfl ?_); exact Agr.rfl'), ?_⟩
          have ez : zk s.ks s.ks.length = -1 :: List.replicate R.length 0 := by
            have := zk_all R
            rw [← hi.hk] at this
            exact this
          rw [ez] at H
          exact ⟨H, K⟩
    · rintro ⟨⟩ g w3 ⟨H3, K3⟩
      have hrep : (-1 :: List.replicate R.length (0 : Int)).length = s.ks.length := by rw [hlen]; simp
      -- until
      refine J.cut (X := Unit) [9, 41, 42, 43, 44, 45, 46, 47, 48, 49, 50, 51, 52, 53] (fun _ => []) (fun _ w' => At (mk' s s.fA s.fc (-1 :: mark (List.replicate R.length 0) live) s.fr) N w' ∧ Chg s.T w2 w') ?_ ?_
      · refine J.seq ?_
        refine J.region ?_
        refine L.va rfl (X.move (by conv => lhs; whnf)) ?_
        refine L.va rfl (X.len rfl Try.underlying62) ?_
        refine L.va rfl (X.move (by conv => lhs; whnf)) ?_
        refine L.nil ?_
        refine J.block ?_
        -- loop
        refine J.loop (X := Nat) [9, 43, 44, 45, 46, 47, 48, 49, 50, 51, 52, 53] (fun i => [(43, .int .i64 (i : Int))]) (fun i w' => i ≤ n ∧ At (mk' s s.fA s.fc (markK (-1 :: List.replicate R.length 0) (live.take i)) s.fr) N w' ∧ Chg s.T w2 w') (fun i => n - i) (0) (At1 (by first | rfl | exact at_int rfl (by omega) | exact at_slice rfl (by omega) | exact at_int rfl (by simp))) ?_ ?_
        · exact ⟨Nat.zero_le _, H3, K3⟩
        · rintro i g w4 ⟨hi2, H, K⟩
          have hml := markK_length (-1 :: List.replicate R.length (0 : Int)) (live.take i)
          have hb4 : Blk w4 s.d 83 #[.slice s.kA (markK (-1 :: List.replicate R.length 0) (live.take i)).length s.kc, .slice s.fA s.fr.length s.fc] := H.hb
          have hk4 : w4.ownsRow N 3 1 (.slice s.kA (markK (-1 :: List.replicate R.length 0) (live.take i)).length s.kc) (markK (-1 :: List.replicate R.length 0) (live.take i)).length (nums .i64 (markK (-1 :: List.replicate R.length 0) (live.take i))) := H.hk
          have hr4 := hr.low (h.below K) (Nat.le_refl _)
          refine J.seq ?_
          refine J.region ?_
          refine L.va rfl (X.lss rfl rfl) ?_
          refine L.nil ?_
          refine J.seq ?_
          -- cond
          refine J.dec rfl (fun hlt => ?_) (fun hlt => ?_)
          · have hil : i < n := by omega
            obtain ⟨a1, a2, a3⟩ := hat i (by omega)
            have hst := markK_take (-1 :: List.replicate R.length (0 : Int)) live (i := i) (by omega)
            obtain ⟨p, hp⟩ := Int.eq_ofNat_of_zero_le (show 0 ≤ live.getD i 0 by omega)
            rw [hp, Int.toNat_natCast] at hst
            refine J.skip ?_
            refine J.seq ?_
            refine J.block ?_
            refine J.seq ?_
            refine J.region ?_
            refine L.va rfl ((by first | exact X.index1n rfl rfl Try.underlying62 sz_3 (by first | exact Option.some_ne_none _ | exact hr4.some_ (by omega)) (by omega) | exact X.index1 rfl rfl Try.underlying62 sz_3 (by first | exact Option.some_ne_none _ | exact hr4.some_ (by omega)) (by omega))) ?_
            refine L.va rfl (X.load rfl sc_3 (by first | exact Ld.num hr4 (by omega))) ?_
            refine L.va rfl (X.assign (by conv => lhs; whnf)) ?_
            refine L.nil ?_
            -- until
            rw [hp]
            refine J.region ?_
            refine L.va rfl (X.move (by conv => lhs; whnf)) ?_
            refine L.va rfl (X.nilCheck rfl) ?_
            refine L.va rfl (X.fieldAddr rfl Try.underlying83 rfl sz_62 (by decide)) ?_
            refine L.va rfl (X.load rfl sc_62 (by first | exact Ld.blk hb4 rfl | exact Ld.own hk4 (by omega))) ?_
            refine L.va rfl (X.move (by conv => lhs; whnf)) ?_
            refine L.va rfl ((by first | exact X.index1n rfl rfl Try.underlying62 sz_3 (by first | exact Option.some_ne_none _ | exact own_ne hk4 (by omega)) (by omega) | exact X.index1 rfl rfl Try.underlying62 sz_3 (by first | exact Option.some_ne_none _ | exact own_ne hk4 (by omega)) (by omega))) ?_
            -- store
            refine L.storeON rfl rfl (by conv => lhs; whnf) sz_3 (hk4) (by omega) ?_
            intro w5 hk5 hg5 hbl5 hs5
            obtain ⟨H5, K5⟩ := H.setk p 1 hk5 hg5
            have H5 : At (mk' s s.fA s.fc ((markK (-1 :: List.replicate R.length 0) (live.take i)).set p 1) s.fr) N w5 := H5
            rw [← hst] at H5
            refine L.nil ?_
            refine J.region ?_
            refine L.va rfl (X.add rfl rfl (by omega)) ?_
            refine L.va rfl (X.move (by conv => lhs; whnf)) ?_
            refine L.nil ?_
            -- loopend
            refine ⟨i + 1, At1 (by first | rfl | exact at_int rfl (by omega) | exact at_slice rfl (by omega) | exact at_int rfl (by simp)), (by (iterate 12 refine Agr.lk rfl ?_); exact Agr.lk rfl (Agr.hav rfl Agr.rfl')), ?_⟩
            exact ⟨⟨by omega, H5, K.trans K5 (fun g hg hh => T_self.2 (T_mk.1 hh))⟩, by omega⟩
          · obtain rfl : i = n := by omega
            refine J.exit ?_
            -- cutend
            refine ⟨(), At0 , (by (iterate 1 refine Agr.lk rfl ?_); refine Agr.lk rfl ?_; refine Agr.hav rfl ?_; (iterate 3 refine Agr.lk rfl ?_); exact Agr.rfl'), ?_⟩
            rw [List.take_of_length_le (by omega), markK_cons _ _ (fun p hp => by
              obtain ⟨j, hj, rfl⟩ := List.getElem_of_mem hp
              have := (hat j hj).1
              have e : live.getD j 0 = live[j] := by simp [List.getD, hj]
              omega)] at H
            exact ⟨H, K⟩
      · rintro ⟨⟩ g w4 ⟨H4, K4⟩
        have hml := mark_length (List.replicate R.length (0 : Int)) live
        refine J.seq ?_
        refine J.region ?_
        refine L.va rfl (X.move (by conv => lhs; whnf)) ?_
        -- callfn (*bushel/free.Space).gather
        refine L.call rfl en_72 rfl (H4.gather_) ?_
        rintro e w5 ⟨rfl, A', c', H5, K5, hA5⟩
        refine ⟨_, rfl, ?_⟩
        refine L.nil ?_
        refine J.seq ?_
        refine J.region ?_
        refine L.va rfl (X.assign (by conv => lhs; whnf)) ?_
        refine L.nil ?_
        -- ret
        refine J.ret ?_
        refine fin1 ?_
        refine ⟨rfl, _, H5, rfl, ⟨rfl, Fre.gather _, (Kds.rep _).mark _⟩, K4.trans K5 (fun g hg hh => .inl hh), fun g hg => ?_⟩
        rcases T_mk.1 hg with k | k | k
        · exact .inl (.inl k)
        · exact .inl (.inr (.inl (by
            have k : Value.ownBlock (.slice s.kA (-1 :: mark (List.replicate R.length 0) live).length s.kc) = some g := k
            rw [own_len s.kA _ s.ks.length s.kc] at k
            exact k)))
        · right
          have := hA5 g (by rw [own_len A' _ 0 c']; exact k)
          have := K4.size
          omega
end Sp
theorem fnew_2 {w : World} (pages : Int) (A : Option Addr) (n c : Nat) (h : pages < 1 ∨ 8192 < pages) : Calls Try.prog 33 #[.int .i64 pages, .slice A n c] w fun e w' => e = .returned (.tuple #[.pointer none, .int .i64 2]) ∧ w = w' := by
  refine enter Try.func33 rfl (by kernel_rfl) ?_
  refine J.seq ?_
  refine J.region ?_
  refine L.va rfl (X.assign (by conv => lhs; whnf)) ?_
  refine L.va rfl (X.assign (by conv => lhs; whnf)) ?_
  refine L.nil ?_
  refine J.seq ?_
  refine J.seq ?_
  refine J.region ?_
  refine L.va rfl (X.move (by conv => lhs; whnf)) ?_
  refine L.va rfl (X.lss rfl rfl) ?_
  refine L.va rfl (X.move (by conv => lhs; whnf)) ?_
  -- case t11
  refine L.caseDec (k := 11) rfl (fun h1 => ?_) (fun h1 => ?_)
  · refine L.no rfl ?_
    refine L.no rfl ?_
    refine L.va rfl (X.pickT rfl (by conv => lhs; whnf)) ?_
    refine L.nil ?_
    -- cond
    refine J.iteT rfl ?_
    refine J.seq ?_
    refine J.region ?_
    refine L.va rfl (X.assign (by conv => lhs; whnf)) ?_
    refine L.va rfl (X.assign (by conv => lhs; whnf)) ?_
    refine L.nil ?_
    -- ret
    refine J.ret ?_
    refine thn_ret <| ?_
    refine fin2 ?_
    exact ⟨rfl, rfl⟩
  · refine L.va rfl (X.move (by conv => lhs; whnf)) ?_
    refine L.va rfl (X.gtr rfl rfl) ?_
    refine L.va rfl (X.pickF rfl (by conv => lhs; whnf)) ?_
    refine L.nil ?_
    -- cond
    refine J.decT rfl (by omega) ?_
    refine J.seq ?_
    refine J.region ?_
    refine L.va rfl (X.assign (by conv => lhs; whnf)) ?_
    refine L.va rfl (X.assign (by conv => lhs; whnf)) ?_
    refine L.nil ?_
    -- ret
    refine J.ret ?_
    refine thn_ret <| ?_
    refine fin2 ?_
    exact ⟨rfl, rfl⟩
theorem fnew_ok {w : World} (q : Nat) (hq : 1 ≤ q ∧ q ≤ 8192) (A : Option Addr) (n c : Nat) (live : List Int) (hr : Reads w w.heap.size 1 A n (nums .i64 live)) (hn : n ≤ 1000000) : Calls Try.prog 33 #[.int .i64 (q : Int), .slice A n c] w fun e w' =>
    (allThere q live = false ∧ e = .returned (.tuple #[.pointer none, .int .i64 11]) ∧ Ext w w') ∨ (allThere q live = true ∧ ∃ s : Sp, e = .returned (.tuple #[s.ptr, .int .i64 0]) ∧ s.At w.heap.size w' ∧ s.Is (mark (List.replicate q 0) live) ∧ Ext w w') := by
  have hll : live.length = n := by have := hr.1; simpa [nums] using this
  refine enter Try.func33 rfl (by kernel_rfl) ?_
  refine J.seq ?_
  refine J.region ?_
  refine L.va rfl (X.assign (by conv => lhs; whnf)) ?_
  refine L.va rfl (X.assign (by conv => lhs; whnf)) ?_
  refine L.nil ?_
  refine J.seq ?_
  refine J.seq ?_
  refine J.region ?_
  refine L.va rfl (X.move (by conv => lhs; whnf)) ?_
  refine L.va rfl (X.lss rfl rfl) ?_
  refine L.va rfl (X.move (by conv => lhs; whnf)) ?_
  -- case t11
  refine L.caseDecF (k := 11) rfl (by omega) ?_
  refine L.va rfl (X.move (by conv => lhs; whnf)) ?_
  refine L.va rfl (X.gtr rfl rfl) ?_
  refine L.va rfl (X.pickF rfl (by conv => lhs; whnf)) ?_
  refine L.nil ?_
  -- cond
  refine J.decF rfl (by omega) ?_
  refine J.skip ?_
  refine J.seq ?_
  refine J.region ?_
  refine L.va rfl (X.move (by conv => lhs; whnf)) ?_
  refine L.va rfl (X.add rfl rfl (by omega)) ?_
  -- makeSlice
  refine L.make (q := q + 1) (c := q + 1) rfl rfl rfl Try.underlying62 el_3 (by omega) ?_
  intro b1 w1 hb1 hs1 hk1 he1
  rw [made_nums] at hk1
  have ho1 : w1.ownsRow w.heap.size 3 1 (.slice (some ⟨b1, 0, none⟩) (q + 1) (q + 1)) (q + 1) (nums .i64 (List.replicate (q + 1) 0)) := by
    have := blk_own1 (q := q + 1) hk1 (by omega : w.heap.size ≤ b1) (by unfold maxLen; omega) (by simp [nums])
    exact this
  refine L.va rfl (X.build (l := [_, _]) (Evs.cons (by conv => lhs; whnf) Evs.nil) (bld_run Try.underlying83 (bp_83 Try.underlying83) zr_83 rfl)) ?_
  -- box
  refine L.boxA (l := [_, _]) rfl rfl ?_
  intro b2 w2 hb2 hs2 hk2 he2
  have ho2 := ho1.ext he2
  have hk2 : Blk w2 b2 83 #[.slice (some ⟨b1, 0, none⟩) (q + 1) (q + 1), .slice none 0 0] := hk2
  refine L.va rfl (X.assign (by conv => lhs; whnf)) ?_
  refine L.nil ?_
  refine J.seq ?_
  refine J.region ?_
  refine L.va rfl (X.move (by conv => lhs; whnf)) ?_
  refine L.va rfl (X.nilCheck rfl) ?_
  refine L.va rfl (X.fieldAddr rfl Try.underlying83 rfl sz_62 (by decide)) ?_
  refine L.va rfl (X.load rfl sc_62 (by first | exact Ld.blk hk2 rfl)) ?_
  refine L.va rfl (X.index1n (j := 0) rfl rfl Try.underlying62 sz_3 (by first | exact Option.some_ne_none _ ) (by omega)) ?_
  -- store
  refine L.storeON rfl rfl (by conv => lhs; whnf) sz_3 (ho2) (by omega) ?_
  intro w3 ho3 hg3 hbl3 hs3
  have ho3 : w3.ownsRow w.heap.size 3 1 (.slice (some ⟨b1, 0, none⟩) (q + 1) (q + 1)) (q + 1) (nums .i64 (-1 :: List.replicate q 0)) := ho3
  have hk3 := hk2.grown hg3 (fun e => own_blk_ne ho2 hk2 (by decide) e.symm)
  have he3 : Ext w w3 := (he1.trans he2).grw hg3 (fun g hg => (ho2.lt g hg).1)
  have hrl : (-1 :: List.replicate q (0 : Int)).length = q + 1 := by simp
  have hs0 : Sp.At ⟨b2, some ⟨b1, 0, none⟩, q + 1, none, 0, -1 :: List.replicate q 0, []⟩ w.heap.size w3 := by
    refine ⟨?_, ?_, own_nilN _ _ _ _, (fun g hg e => by cases e), by dsimp only; omega, by dsimp only; rw [hrl]; omega, by simp⟩
    · unfold Sp.kinds Sp.free
      dsimp only
      rw [hrl]
      exact hk3
    · unfold Sp.kinds
      dsimp only
      rw [hrl]
      exact ho3
  refine L.nil ?_
  refine J.seq ?_
  refine J.seq ?_
  refine J.region ?_
  refine L.va rfl (X.move (by conv => lhs; whnf)) ?_
  refine L.va rfl (X.len rfl Try.underlying62) ?_
  refine L.va rfl (X.move (by conv => lhs; whnf)) ?_
  refine L.nil ?_
  refine J.block ?_
  -- loop
  refine J.loop (X := Nat) [4, 5, 8, 27, 28, 29, 30, 31, 32, 33, 34, 35, 36, 37, 38, 39, 40, 41] (fun i => [(27, .int .i64 (i : Int))]) (fun i w' => i ≤ n ∧ Sp.At ⟨b2, some ⟨b1, 0, none⟩, q + 1, none, 0, markK (-1 :: List.replicate q 0) (live.take i), []⟩ w.heap.size w' ∧ Ext w w' ∧ ∀ j, j < i → 1 ≤ live.getD j 0 ∧ live.getD j 0 ≤ (q : Int)) (fun i => n - i) (0) (At1 (by first | rfl | exact at_int rfl (by omega) | exact at_slice rfl (by omega) | exact at_int rfl (by simp))) ?_ ?_
  · exact ⟨Nat.zero_le _, hs0, he3, fun j hj => absurd hj (Nat.not_lt_zero _)⟩
  · rintro i g w4 ⟨hi2, H, he4, hall⟩
    have hml := markK_length (-1 :: List.replicate q (0 : Int)) (live.take i)
    rw [hrl] at hml
    have hb4 : Blk w4 b2 83 #[.slice (some ⟨b1, 0, none⟩) (markK (-1 :: List.replicate q 0) (live.take i)).length (q + 1), .slice none 0 0] := H.hb
    have hk4 : w4.ownsRow w.heap.size 3 1 (.slice (some ⟨b1, 0, none⟩) (markK (-1 :: List.replicate q 0) (live.take i)).length (q + 1)) (markK (-1 :: List.replicate q 0) (live.take i)).length (nums .i64 (markK (-1 :: List.replicate q 0) (live.take i))) := H.hk
    have hr4 := hr.ext he4
    refine J.seq ?_
    refine J.region ?_
    refine L.va rfl (X.lss rfl rfl) ?_
    refine L.nil ?_
    refine J.seq ?_
    -- cond
    refine J.dec rfl (fun hlt => ?_) (fun hlt => ?_)
    · have hil : i < n := by omega
      have hle : ∀ j, j < i → 1 ≤ live.getD j 0 := fun j hj => (hall j hj).1
      have hmk : markK (-1 :: List.replicate q 0) (live.take i) = -1 :: mark (List.replicate q 0) (live.take i) := markK_cons _ _ (fun p hp => by
        obtain ⟨j, hj, rfl⟩ := List.getElem_of_mem hp
        rw [List.length_take] at hj
        have := hle j (by omega)
        rw [List.getElem_take]
        have e : live.getD j 0 = live[j]'(by omega) := by simp [List.getD, show j < live.length by omega]
        omega)
      have cK := H.kind_ (live.getD i 0)
      have eK : (if live.getD i 0 < 1 ∨ ((markK (-1 :: List.replicate q 0) (live.take i)).length : Int) ≤ live.getD i 0 then -1 else (markK (-1 :: List.replicate q 0) (live.take i)).getD (live.getD i 0).toNat 0) = kdO (mark (List.replicate q 0) (live.take i)) (live.getD i 0) := by
        rw [kdO_ks, ← hmk]
      dsimp only at cK
      rw [eK] at cK
      have hmR : (mark (List.replicate q (0 : Int)) (live.take i)).length = q := by rw [mark_length]; simp
      have hkd : kdO (mark (List.replicate q 0) (live.take i)) (live.getD i 0) < 0 ↔ ¬ (1 ≤ live.getD i 0 ∧ live.getD i 0 ≤ (q : Int)) := by
        unfold kdO
        rw [hmR]
        have := ((Kds.rep q).mark (live.take i)).at ((live.getD i 0).toNat - 1)
        split
        · rename_i h
          constructor
          · intro _ ⟨h1, h2⟩; omega
          · intro _; decide
        · rename_i h
          constructor
          · intro h1; omega
          · intro h1; exact absurd ⟨by omega, by omega⟩ h1
      refine J.skip ?_
      refine J.seq ?_
      refine J.block ?_
      refine J.seq ?_
      refine J.region ?_
      refine L.va rfl ((by first | exact X.index1n rfl rfl Try.underlying62 sz_3 (by first | exact Option.some_ne_none _ | exact hr4.some_ (by omega)) (by omega) | exact X.index1 rfl rfl Try.underlying62 sz_3 (by first | exact Option.some_ne_none _ | exact hr4.some_ (by omega)) (by omega))) ?_
      refine L.va rfl (X.load rfl sc_3 (by first | exact Ld.num hr4 (by omega))) ?_
      refine L.va rfl (X.assign (by conv => lhs; whnf)) ?_
      refine L.nil ?_
      refine J.seq ?_
      refine J.seq ?_
      refine J.region ?_
      refine L.va rfl (X.move (by conv => lhs; whnf)) ?_
      refine L.va rfl (X.move (by conv => lhs; whnf)) ?_
      -- callfn (*bushel/free.Space).Kind
      refine L.call rfl en_41 rfl (cK) ?_
      rintro e _ ⟨rfl, rfl⟩
      refine ⟨_, rfl, ?_⟩
      refine L.va rfl (X.lss rfl rfl) ?_
      refine L.nil ?_
      -- cond
      refine J.dec rfl (fun hneg => ?_) (fun hneg => ?_)
      · have e : allThere q live = false := by
          rw [← Bool.not_eq_true]
          intro ht
          exact hkd.1 hneg (allThere_at.1 ht i (by omega))
        refine J.seq ?_
        refine J.region ?_
        refine L.va rfl (X.assign (by conv => lhs; whnf)) ?_
        refine L.va rfl (X.assign (by conv => lhs; whnf)) ?_
        refine L.nil ?_
        -- ret
        refine J.ret ?_
        refine thn_ret <|  inB_ret <|  thn_ret <|  thn_ret <|  inB_ret <|  thn_ret <| ?_
        refine fin2 ?_
        exact .inl ⟨e, rfl, he4⟩
      · obtain ⟨a1, a2⟩ : 1 ≤ live.getD i 0 ∧ live.getD i 0 ≤ (q : Int) := by
          apply Decidable.byContradiction
          intro hc
          exact hneg (hkd.2 hc)
        have hst := markK_take (-1 :: List.replicate q (0 : Int)) live (i := i) (by omega)
        obtain ⟨p, hp⟩ := Int.eq_ofNat_of_zero_le (show 0 ≤ live.getD i 0 by omega)
        rw [hp, Int.toNat_natCast] at hst
        rw [hp]
        refine J.skip ?_
        refine J.region ?_
        refine L.va rfl (X.move (by conv => lhs; whnf)) ?_
        refine L.va rfl (X.nilCheck rfl) ?_
        refine L.va rfl (X.fieldAddr rfl Try.underlying83 rfl sz_62 (by decide)) ?_
        refine L.va rfl (X.load rfl sc_62 (by first | exact Ld.blk hb4 rfl | exact Ld.own hk4 (by omega))) ?_
        refine L.va rfl (X.move (by conv => lhs; whnf)) ?_
        refine L.va rfl ((by first | exact X.index1n rfl rfl Try.underlying62 sz_3 (by first | exact Option.some_ne_none _ | exact own_ne hk4 (by omega)) (by omega) | exact X.index1 rfl rfl Try.underlying62 sz_3 (by first | exact Option.some_ne_none _ | exact own_ne hk4 (by omega)) (by omega))) ?_
        -- store
        refine L.storeON rfl rfl (by conv => lhs; whnf) sz_3 (hk4) (by omega) ?_
        intro w5 hk5 hg5 hbl5 hs5
        obtain ⟨H5, K5⟩ := H.setk p 1 hk5 hg5
        have H5 : Sp.At ⟨b2, some ⟨b1, 0, none⟩, q + 1, none, 0, (markK (-1 :: List.replicate q 0) (live.take i)).set p 1, []⟩ w.heap.size w5 := H5
        rw [← hst] at H5
        refine L.nil ?_
        refine J.region ?_
        refine L.va rfl (X.add rfl rfl (by omega)) ?_
        refine L.va rfl (X.move (by conv => lhs; whnf)) ?_
        refine L.nil ?_
        -- loopend
        refine ⟨i + 1, At1 (by first | rfl | exact at_int rfl (by omega) | exact at_slice rfl (by omega) | exact at_int rfl (by simp)), (by (iterate 16 refine Agr.lk rfl ?_); exact Agr.lk rfl (Agr.hav rfl Agr.rfl')), ?_⟩
        refine ⟨⟨by omega, H5, he4.grw hg5 (fun g hg => (hk4.lt g hg).1), fun j hj => ?_⟩, by omega⟩
        rcases Nat.lt_or_ge j i with hj2 | hj2
        · exact hall j hj2
        · obtain rfl : j = i := by omega
          exact ⟨a1, a2⟩
    · obtain rfl : i = n := by omega
      have hth : allThere q live = true := allThere_at.2 (fun j hj => hall j (by omega))
      have hmk : markK (-1 :: List.replicate q 0) (live.take live.length) = -1 :: mark (List.replicate q 0) live := by
        rw [List.take_length]
        refine markK_cons _ _ (fun p hp => ?_)
        obtain ⟨j, hj, rfl⟩ := List.getElem_of_mem hp
        have := (hall j (by omega)).1
        have e : live.getD j 0 = live[j] := by simp [List.getD, hj]
        omega
      rw [← hll, hmk] at H
      have hp : (-1 :: mark (List.replicate q (0 : Int)) live).length = q + 1 := by simp [mark_length]
      refine J.exit ?_
      refine J.seq ?_
      refine J.region ?_
      refine L.va rfl (X.move (by conv => lhs; whnf)) ?_
      -- callfn (*bushel/free.Space).gather
      refine L.call rfl en_72 rfl (H.gather_) ?_
      rintro e w5 ⟨rfl, A', c', H5, K5, hA5⟩
      refine ⟨_, rfl, ?_⟩
      refine L.nil ?_
      refine J.seq ?_
      refine J.region ?_
      refine L.va rfl (X.move (by conv => lhs; whnf)) ?_
      refine L.va rfl (X.assign (by conv => lhs; whnf)) ?_
      refine L.va rfl (X.assign (by conv => lhs; whnf)) ?_
      refine L.nil ?_
      -- ret
      refine J.ret ?_
      refine fin2 ?_
      exact .inr ⟨hth, _, rfl, H5, ⟨rfl, Fre.gather _, (Kds.rep _).mark _⟩, Below.trans he4 (K5.below he4.le (fun g hg => by have hg : g = b2 := hg; omega))⟩
end Go.Proofs.Ytdmfikedojgjbaa
