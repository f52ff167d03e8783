/-
  What is twice in a list, in the reference.
-/
import Derived.Test.YtlipeplfjkgamaaWNamesC
namespace Go.Proofs.Ytlipeplfjkgamaa
open Go.RowKit H
set_option linter.unusedVariables false
/-- the first place whose text stands ahead of it too -/
def tw (l : List ByteArray) : Int := match (List.range l.length).find? (fun i => among (l.take i) (l.getD i be0)) with
  | some i => (i : Int)
  | none => -1
theorem tw_some {l : List ByteArray} {i : Nat} (hi : i < l.length) (h : among (l.take i) (l.getD i be0) = true) (hP : ∀ j, j < i → among (l.take j) (l.getD j be0) = false) : tw l = (i : Int) := by
  have : (List.range l.length).find? (fun i => among (l.take i) (l.getD i be0)) = some i := by
    rw [List.find?_range_eq_some]
    refine ⟨h, List.mem_range.2 hi, fun j hj => by rw [hP j hj]; rfl⟩
  unfold tw
  rw [this]
theorem tw_none {l : List ByteArray} (hP : ∀ j, j < l.length → among (l.take j) (l.getD j be0) = false) : tw l = -1 := by
  have : (List.range l.length).find? (fun i => among (l.take i) (l.getD i be0)) = none := by
    rw [List.find?_range_eq_none]
    exact fun j hj => by rw [hP j hj]; rfl
  unfold tw
  rw [this]
theorem strs_take (l : List ByteArray) (k : Nat) : (strs l).take k = strs (l.take k) := by simp [strs, List.map_take]
theorem rtwice_any (A : Option Addr) (n c : Nat) (l : List ByteArray) (w : World) (hr : Reads w w.heap.size 1 A n (strs l)) (hnc : n ≤ c) (hn : n ≤ 9223372036854775807) :
    Calls Try.prog 178 #[.slice A n c] w fun e w' => e = .returned (.int .i64 (tw l)) ∧ Ext w w' := by
  have hl : l.length = n := by have := hr.1; simpa [strs] using this
  refine enter Try.func178 rfl (by kernel_rfl) ?_
  refine J.seq ?_
  refine J.region ?_
  refine L.va rfl (X.assign (by conv => lhs; whnf)) ?_
  refine L.nil ?_
  refine J.seq ?_
  refine J.seq ?_
  refine J.region ?_
  refine L.va rfl (X.assign (by conv => lhs; whnf)) ?_
  refine L.nil ?_
  refine J.block ?_
  -- loop
  refine J.loop (X := Nat) [2, 3, 4, 5, 6, 7, 8, 9, 10, 11, 12, 13, 14, 15, 16, 17, 18, 19] (fun i => [(3, .int .i64 (i : Int))]) (fun i w' => Ext w w' ∧ i ≤ n ∧ ∀ j, j < i → among (l.take j) (l.getD j be0) = false) (fun i => n - i) (0) (At1 (by first | rfl | exact at_int rfl (by omega) | exact at_slice rfl (by omega) | exact at_int rfl (by simp))) ?_ ?_
  · exact ⟨Ext.refl _, by omega, fun j hj => absurd hj (by omega)⟩
  · rintro i g w2 ⟨he, hi, hP⟩
    have hr2 := hr.ext he
    refine J.seq ?_
    refine J.seq ?_
    refine J.region ?_
    refine L.va rfl (X.move (by conv => lhs; whnf)) ?_
    refine L.va rfl (X.move (by conv => lhs; whnf)) ?_
    refine L.va rfl (X.len rfl Try.underlying46) ?_
    refine L.va rfl (X.lss rfl rfl) ?_
    refine L.nil ?_
    -- cond
    refine J.dec rfl (fun hlt => ?_) (fun hlt => ?_)
    · have hrt : ∀ w', Ext w2 w' → Reads w' w'.heap.size 1 A i (strs (l.take i)) := by
        intro w' hw'
        have := ((hr2.ext hw').here (by decide)).first (k := i) (by omega)
        rw [Nat.mul_one, strs_take] at this
        exact this
      refine J.skip ?_
      refine J.seq ?_
      refine J.block ?_
      refine J.seq ?_
      -- draw
      refine J.quiet mixed (by kernel_rfl) ?_
      refine Qt.va rfl (fun w' hw => X.move (by conv => lhs; whnf)) ?_
      refine Qt.va rfl (fun w' hw => X.move (by conv => lhs; whnf)) ?_
      refine Qt.va rfl (fun w' hw => (by first | exact X.sliceTon rfl rfl Try.underlying46 sz_9 (by omega) | exact X.sliceTo rfl rfl Try.underlying46 sz_9 (by omega))) ?_
      refine Qt.va rfl (fun w' hw => X.move (by conv => lhs; whnf)) ?_
      refine Qt.va rfl (fun w' hw => X.move (by conv => lhs; whnf)) ?_
      refine Qt.va rfl (fun w' hw => (by first | exact X.index1n rfl rfl Try.underlying46 sz_9 (by first | exact Option.some_ne_none _ | exact hr2.some_ (by omega)) (by omega) | exact X.index1 rfl rfl Try.underlying46 sz_9 (by first | exact Option.some_ne_none _ | exact hr2.some_ (by omega)) (by omega))) ?_
      refine Qt.va rfl (fun w' hw => X.load rfl sc_9 (by first | exact Ld.str (hr2.ext hw) (by omega))) ?_
      -- callfn bushel/bushelref10.Place
      refine Qt.call rfl en_232 rfl (fun w' hw => calls_same hw (place_any A i c (l.take i) (l.getD i be0) _ (hrt _ hw) (by omega))) ?_
      refine Qt.va rfl (fun w' hw => X.geq rfl rfl) ?_
      refine Qt.nil (fun w3 hq => ?_)
      replace hr2 := hr2.ext hq
      -- cond
      refine J.dec rfl (fun hin => ?_) (fun hin => ?_)
      · have hE : tw l = (i : Int) := tw_some (by omega) (among_iff.2 (plc_iff.1 hin)) hP
        rw [hE]
        refine J.seq ?_
        refine J.region ?_
        refine L.va rfl (X.move (by conv => lhs; whnf)) ?_
        refine L.va rfl (X.assign (by conv => lhs; whnf)) ?_
        refine L.nil ?_
        -- ret
        refine J.ret ?_
        refine inB_ret <|  thn_ret <|  thn_ret <|  inB_ret <|  thn_ret <| ?_
        refine fin1 ?_
        exact ⟨rfl, he.trans hq⟩
      · refine J.skip ?_
        refine J.region ?_
        refine L.va rfl (X.move (by conv => lhs; whnf)) ?_
        refine L.va rfl (X.add rfl rfl (by omega)) ?_
        refine L.va rfl (X.assign (by conv => lhs; whnf)) ?_
        refine L.nil ?_
        -- loopend
        refine ⟨i + 1, At1 (by first | rfl | exact at_int rfl (by omega) | exact at_slice rfl (by omega) | exact at_int rfl (by simp)), (by (iterate 16 refine Agr.lk rfl ?_); exact Agr.lk rfl (Agr.hav rfl Agr.rfl')), ?_⟩
        refine ⟨⟨he.trans hq, by omega, fun j hj => ?_⟩, by omega⟩
        rcases Nat.lt_or_ge j i with h' | h'
        · exact hP j h'
        · obtain rfl : j = i := by omega
          rw [← Bool.not_eq_true]
          exact fun h => hin (plc_iff.2 (among_iff.1 h))
    · obtain rfl : i = n := by omega
      have hE : tw l = -1 := tw_none (by rw [hl]; exact hP)
      rw [hE]
      refine J.exit ?_
      refine J.seq ?_
      refine J.region ?_
      refine L.va rfl (X.assign (by conv => lhs; whnf)) ?_
      refine L.nil ?_
      -- ret
      refine J.ret ?_
      refine fin1 ?_
      exact ⟨rfl, he⟩
end Go.Proofs.Ytlipeplfjkgamaa
