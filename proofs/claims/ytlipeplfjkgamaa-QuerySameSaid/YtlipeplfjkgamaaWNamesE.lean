/-
  What is twice in a list, in the program (a map).
-/
import Derived.Test.YtlipeplfjkgamaaWNamesD
import Derived.Test.YtlipeplfjkgamaaAux
namespace Go.Proofs.Ytlipeplfjkgamaa
open Go.RowKit H
set_option linter.unusedVariables false
theorem take_nextS {l : List ByteArray} {i : Nat} (h : i < l.length) : l.take (i + 1) = l.take i ++ [l.getD i be0] := by
  rw [List.take_add_one, List.getElem?_eq_getElem h]
  simp [List.getD, h]
theorem among_next {l : List ByteArray} {i : Nat} (h : i < l.length) (s : ByteArray) : among (l.take (i + 1)) s = (among (l.take i) s || decide (l.getD i be0 = s)) := by
  rw [take_nextS h]
  unfold among
  rw [List.any_append]
  simp
set_option maxRecDepth 100000 in
theorem twice_any (A : Option Addr) (n c : Nat) (l : List ByteArray) (w : World) (hr : Reads w w.heap.size 1 A n (strs l)) (hn : n ≤ maxLen) (hs : ∀ s ∈ l, s.size ≤ maxLen) :
    Calls Try.prog 182 #[.slice A n c] w fun e w' => e = .returned (.int .i64 (tw l)) ∧ Ext w w' := by
  have hl : l.length = n := by have := hr.1; simpa [strs] using this
  unfold maxLen at hn
  have hz : ∀ w' : World, (zeroValue 3).run Try.prog w' = .ok (.int .i64 0) w' := fun w' => rfl
  refine enter Try.func182 rfl (by kernel_rfl) ?_
  refine J.seq ?_
  refine J.region ?_
  refine L.va rfl (X.assign (by conv => lhs; whnf)) ?_
  refine L.nil ?_
  refine J.seq ?_
  refine J.region ?_
  refine L.va rfl (X.move (by conv => lhs; whnf)) ?_
  refine L.va rfl (X.len rfl Try.underlying46) ?_
  -- makeMap
  refine L.makeMap rfl rfl Try.underlying289 ?_
  intro b w1 hb hs1 hm he
  refine L.va rfl (X.assign (by conv => lhs; whnf)) ?_
  refine L.nil ?_
  -- until
  refine J.seq ?_
  refine J.seq ?_
  refine J.region ?_
  refine L.va rfl (X.move (by conv => lhs; whnf)) ?_
  refine L.va rfl (X.len rfl Try.underlying46) ?_
  refine L.va rfl (X.move (by conv => lhs; whnf)) ?_
  refine L.nil ?_
  refine J.block ?_
  -- loop
  refine J.loop (X := Nat × (ByteArray → Option Int)) [2, 4, 5, 6, 7, 13, 14, 15, 16, 17, 18, 19, 20, 21, 22, 23, 24, 25, 26, 27, 28, 29] (fun x => [(13, .int .i64 (x.1 : Int))]) (fun x w' => x.1 ≤ n ∧ MapSI Try.prog 9 3 w' b x.1 x.2 ∧ (∀ s, (x.2 s).isSome = among (l.take x.1) s) ∧ (∀ j, j < x.1 → among (l.take j) (l.getD j be0) = false) ∧ Ext w w') (fun x => n - x.1) ((0, fun _ => none)) (At1 (by first | rfl | exact at_int rfl (by omega) | exact at_slice rfl (by omega) | exact at_int rfl (by simp))) ?_ ?_
  · exact ⟨by dsimp only; omega, hm, fun s => rfl, fun j hj => absurd hj (Nat.not_lt_zero _), he⟩
  · rintro ⟨i, f⟩ g w2 ⟨hi, hm2, hf, hP, he2⟩
    dsimp only at hi hm2 hf hP
    have q1 : ((i, f) : Nat × (ByteArray → Option Int)).1 = i := rfl
    have hr2 := hr.ext he2
    refine J.seq ?_
    refine J.region ?_
    refine L.va rfl (X.lss rfl rfl) ?_
    refine L.nil ?_
    refine J.seq ?_
    -- cond
    refine J.dec rfl (fun hlt => ?_) (fun hlt => ?_)
    · have hil : i < l.length := by rw [hl]; dsimp only at hlt; omega
      have hsz : (l.getD i be0).size ≤ maxLen := by
        apply hs
        simp only [List.getD, List.getElem?_eq_getElem hil, Option.getD_some]
        exact List.getElem_mem hil
      -- t21
      refine J.skip ?_
      refine J.seq ?_
      refine J.block ?_
      refine J.seq ?_
      refine J.region ?_
      refine L.va rfl (X.move (by conv => lhs; whnf)) ?_
      refine L.va rfl ((by first | exact X.index1n rfl rfl Try.underlying46 sz_9 (by first | exact Option.some_ne_none _ | exact hr2.some_ (by omega)) (by omega) | exact X.index1 rfl rfl Try.underlying46 sz_9 (by first | exact Option.some_ne_none _ | exact hr2.some_ (by omega)) (by omega))) ?_
      refine L.va rfl (X.load rfl sc_9 (by first | exact Ld.str hr2 (by omega))) ?_
      refine L.va rfl (X.assign (by conv => lhs; whnf)) ?_
      refine L.va rfl (X.assign (by conv => lhs; whnf)) ?_
      refine L.nil ?_
      refine J.seq ?_
      refine J.seq ?_
      refine J.region ?_
      refine L.va rfl (X.move (by conv => lhs; whnf)) ?_
      refine L.va rfl (X.move (by conv => lhs; whnf)) ?_
      refine L.va rfl (X.look rfl rfl hm2 Try.underlying289 (by kernel_rfl) (by kernel_rfl) (hz _) hsz) ?_
      refine L.va rfl (X.move (by conv => lhs; whnf)) ?_
      refine L.va rfl (X.extract rfl rfl) ?_
      refine L.va rfl (X.extract rfl rfl) ?_
      refine L.va rfl (X.assign (by conv => lhs; whnf)) ?_
      refine L.va rfl (X.assign (by conv => lhs; whnf)) ?_
      refine L.nil ?_
      refine J.seq ?_
      refine J.region ?_
      refine L.va rfl (X.move (by conv => lhs; whnf)) ?_
      refine L.nil ?_
      -- cond
      refine J.ite rfl (fun hin => ?_) (fun hin => ?_)
      · have hin' : among (l.take i) (l.getD i be0) = true := by rw [← hf]; exact hin
        have hE : tw l = (i : Int) := tw_some hil hin' hP
        rw [hE]
        refine J.seq ?_
        refine J.region ?_
        refine L.va rfl (X.move (by conv => lhs; whnf)) ?_
        refine L.va rfl (X.assign (by conv => lhs; whnf)) ?_
        refine L.nil ?_
        -- ret
        refine J.ret ?_
        refine thn_ret <|  inB_ret <|  thn_ret <|  thn_ret <|  inB_ret <|  thn_ret <| ?_
        refine fin1 ?_
        exact ⟨rfl, he2⟩
      · have hin' : among (l.take i) (l.getD i be0) = false := by rw [← hf]; simpa using hin
        refine J.skip ?_
        refine J.region ?_
        refine L.va rfl (X.move (by conv => lhs; whnf)) ?_
        refine L.va rfl (X.move (by conv => lhs; whnf)) ?_
        refine L.va rfl (X.move (by conv => lhs; whnf)) ?_
        -- mapUpdate
        refine L.mapPut rfl rfl rfl rfl (hm2) Try.underlying289 (by kernel_rfl) (by kernel_rfl) (by unfold maxLen; omega) (hsz) (wf64 (by dsimp only; omega)) ?_
        intro w3 hm3 hg3
        have he3 : Ext w w3 := he2.grw hg3 (by intro g hg; injection hg with hg; omega)
        refine L.nil ?_
        refine J.region ?_
        refine L.va rfl (X.add rfl rfl (by omega)) ?_
        refine L.va rfl (X.move (by conv => lhs; whnf)) ?_
        refine L.nil ?_
        -- loopend
        refine ⟨(i + 1, fun x => if x = l.getD i be0 then some (i : Int) else f x), At1 (by first | rfl | exact at_int rfl (by omega) | exact at_slice rfl (by omega) | exact at_int rfl (by simp)), (by (iterate 20 refine Agr.lk rfl ?_); exact Agr.lk rfl (Agr.hav rfl Agr.rfl')), ?_⟩
        refine ⟨⟨by dsimp only; omega, hm3, fun s => ?_, fun j hj => ?_, he3⟩, by dsimp only; omega⟩
        · dsimp only
          rw [among_next hil, ← hf]
          by_cases hss : s = l.getD i be0
          · subst hss; simp
          · rw [if_neg hss, decide_eq_false (fun h => hss h.symm), Bool.or_false]
        · dsimp only at hj
          rcases Nat.lt_or_ge j i with h' | h'
          · exact hP j h'
          · obtain rfl : j = i := by omega
            exact hin'
    · obtain rfl : i = n := by dsimp only at hlt; omega
      have hE : tw l = -1 := tw_none (by rw [hl]; exact hP)
      rw [hE]
      refine J.exit ?_
      refine J.seq ?_
      refine J.region ?_
      refine L.va rfl (X.assign (by conv => lhs; whnf)) ?_
      refine L.nil ?_
      -- ret
      refine J.ret ?_
      refine fin1 ?_
      exact ⟨rfl, he2⟩
end Go.Proofs.Ytlipeplfjkgamaa
