/-
  Lists of texts; the words that are no names, walked in the program and in the reference.
-/
import Derived.Test.YtlipeplfjkgamaaTyps
import Derived.Lib.Strings
namespace Go.Proofs.Ytlipeplfjkgamaa
open Go.RowKit H
set_option linter.unusedVariables false
def strs (l : List ByteArray) : List Value := l.map Value.string
theorem strs_length (l : List ByteArray) : (strs l).length = l.length := by simp [strs]
def be0 : ByteArray := ⟨#[]⟩
namespace H
theorem Ld.str {w : World} {B n : Nat} {A : Option Addr} {l : List ByteArray} (h : Reads w B 1 A n (strs l)) {j : Nat} (hj : j < n) : Ld w (pA A j) (.string (l.getD j be0)) := by
  have h1 := Ld.rd h (j := j) (by omega)
  have hl : j < l.length := by have := h.1; rw [strs_length] at this; omega
  have : (strs l).getD j undef = .string (l.getD j be0) := by simp [strs, List.getD, hl]
  rwa [this] at h1
theorem Ld.ostr {w : World} {base n c : Nat} {e : TypeId} {A : Option Addr} {l : List ByteArray} (h : w.ownsRow base e 1 (.slice A n c) n (strs l)) {j : Nat} (hj : j < n) : Ld w (pA A j) (.string (l.getD j be0)) := Ld.str (Reads.of_own h) hj
theorem X.lssS {P : Program} {w : World} {f : Operand → Value} {x y : Operand} {d : Option Tmp} {tx tz ty : TypeId} {pos : String} {aft : Array Edge} {g : Option (Nat × Bool)} {a b : ByteArray} (hx : f x = .string a) (hy : f y = .string b) : (execOp f ⟨d, .binOp .lss tx x y tz, ty, pos, aft, g⟩).run P w = .ok (.value (.bool (decide (Op.bytesLess a.toList b.toList = true)))) w :=
  X.bin hx hy (by simp [go_sem]) (by simp [binOp, Op.stringOp])
end H
/-- the words that are no names -/
def Ws : List ByteArray := [⟨#[97, 110, 100]⟩, ⟨#[97, 115, 99]⟩, ⟨#[98, 121]⟩, ⟨#[99, 111, 117, 110, 116]⟩, ⟨#[100, 101, 115, 99]⟩, ⟨#[100, 101, 118]⟩, ⟨#[105, 110]⟩, ⟨#[108, 105, 109, 105, 116]⟩, ⟨#[109, 97, 120]⟩, ⟨#[109, 101, 97, 110]⟩, ⟨#[109, 105, 110]⟩, ⟨#[111, 114, 100, 101, 114]⟩, ⟨#[115, 101, 108, 101, 99, 116]⟩, ⟨#[115, 104, 97, 114, 101]⟩, ⟨#[115, 117, 109]⟩, ⟨#[119, 104, 101, 114, 101]⟩]
theorem words_any (w : World) : Calls Try.prog 263 #[] w fun e w' => ∃ b, e = .returned (.slice (some ⟨b, 0, none⟩) 16 16) ∧ Reads w' w'.heap.size 1 (some ⟨b, 0, none⟩) 16 (strs Ws) ∧ Ext w w' := by
  refine enter Try.func263 rfl (by kernel_rfl) ?_
  refine J.seq ?_
  refine J.region ?_
  refine L.va rfl (X.assign (by conv => lhs; whnf)) ?_
  refine L.nil ?_
  refine J.seq ?_
  refine J.region ?_
  -- buildSlice
  refine L.bslice (vs := [_, _, _, _, _, _, _, _, _, _, _, _, _, _, _, _]) rfl (Evs.cons (by conv => lhs; whnf) (Evs.cons (by conv => lhs; whnf) (Evs.cons (by conv => lhs; whnf) (Evs.cons (by conv => lhs; whnf) (Evs.cons (by conv => lhs; whnf) (Evs.cons (by conv => lhs; whnf) (Evs.cons (by conv => lhs; whnf) (Evs.cons (by conv => lhs; whnf) (Evs.cons (by conv => lhs; whnf) (Evs.cons (by conv => lhs; whnf) (Evs.cons (by conv => lhs; whnf) (Evs.cons (by conv => lhs; whnf) (Evs.cons (by conv => lhs; whnf) (Evs.cons (by conv => lhs; whnf) (Evs.cons (by conv => lhs; whnf) (Evs.cons (by conv => lhs; whnf) Evs.nil)))))))))))))))) rfl rfl rfl rfl Try.underlying46 sz_9 zr_9 (by decide) ?_
  intro b w1 hb hs hk he
  refine L.va rfl (X.assign (by conv => lhs; whnf)) ?_
  refine L.nil ?_
  -- ret
  refine J.ret ?_
  refine fin1 ?_
  exact ⟨b, rfl, blk_reads (l := strs Ws) hk (by omega) rfl, he⟩
theorem rwords_any (w : World) : Calls Try.prog 233 #[] w fun e w' => ∃ b, e = .returned (.slice (some ⟨b, 0, none⟩) 16 16) ∧ Reads w' w'.heap.size 1 (some ⟨b, 0, none⟩) 16 (strs Ws) ∧ Ext w w' := by
  refine enter Try.func233 rfl (by kernel_rfl) ?_
  refine J.seq ?_
  refine J.region ?_
  refine L.va rfl (X.assign (by conv => lhs; whnf)) ?_
  refine L.nil ?_
  refine J.seq ?_
  refine J.region ?_
  -- buildSlice
  refine L.bslice (vs := [_, _, _, _, _, _, _, _, _, _, _, _, _, _, _, _]) rfl (Evs.cons (by conv => lhs; whnf) (Evs.cons (by conv => lhs; whnf) (Evs.cons (by conv => lhs; whnf) (Evs.cons (by conv => lhs; whnf) (Evs.cons (by conv => lhs; whnf) (Evs.cons (by conv => lhs; whnf) (Evs.cons (by conv => lhs; whnf) (Evs.cons (by conv => lhs; whnf) (Evs.cons (by conv => lhs; whnf) (Evs.cons (by conv => lhs; whnf) (Evs.cons (by conv => lhs; whnf) (Evs.cons (by conv => lhs; whnf) (Evs.cons (by conv => lhs; whnf) (Evs.cons (by conv => lhs; whnf) (Evs.cons (by conv => lhs; whnf) (Evs.cons (by conv => lhs; whnf) Evs.nil)))))))))))))))) rfl rfl rfl rfl Try.underlying46 sz_9 zr_9 (by decide) ?_
  intro b w1 hb hs hk he
  refine L.va rfl (X.assign (by conv => lhs; whnf)) ?_
  refine L.nil ?_
  -- ret
  refine J.ret ?_
  refine fin1 ?_
  exact ⟨b, rfl, blk_reads (l := strs Ws) hk (by omega) rfl, he⟩
theorem ws_less : ∀ m : Fin 16, ∀ j : Fin 16, Op.bytesLess (Ws.getD m.1 be0).data.toList (Ws.getD j.1 be0).data.toList = decide (m.1 < j.1) := by decide
theorem ba_toList (a : ByteArray) : a.toList = a.data.toList := Lib.toList_data a
/-- among texts -/
def among (l : List ByteArray) (s : ByteArray) : Bool := l.any fun x => decide (x = s)
theorem among_iff {l : List ByteArray} {s : ByteArray} : among l s = true ↔ s ∈ l := by
  unfold among
  rw [List.any_eq_true]
  constructor
  · rintro ⟨x, hx, h⟩; rw [← of_decide_eq_true h]; exact hx
  · exact fun h => ⟨s, h, decide_eq_true rfl⟩
theorem ws_lt (m j : Nat) (hm : m < 16) (hj : j < 16) : Op.bytesLess (Ws.getD m be0).toList (Ws.getD j be0).toList = decide (m < j) := by
  rw [ba_toList, ba_toList]; exact ws_less ⟨m, hm⟩ ⟨j, hj⟩
theorem ws_mem {s : ByteArray} (h : s ∈ Ws) : ∃ j, j < 16 ∧ Ws.getD j be0 = s := by
  obtain ⟨i, hi, rfl⟩ := List.mem_iff_getElem.1 h
  exact ⟨i, hi, by simp only [List.getD, List.getElem?_eq_getElem hi, Option.getD_some]⟩
theorem ws_at {j : Nat} (h : j < 16) : Ws.getD j be0 ∈ Ws := by
  have hl : j < Ws.length := h
  simp only [List.getD, List.getElem?_eq_getElem hl, Option.getD_some]
  exact List.getElem_mem hl
theorem word_any (s : ByteArray) (w : World) : Calls Try.prog 234 #[.string s] w fun e w' => e = .returned (.bool (among Ws s)) ∧ Ext w w' := by
  refine enter Try.func234 rfl (by kernel_rfl) ?_
  refine J.seq ?_
  refine J.region ?_
  refine L.va rfl (X.assign (by conv => lhs; whnf)) ?_
  refine L.nil ?_
  refine J.seq ?_
  refine J.region ?_
  -- callfn bushel/names.Words
  refine L.call rfl en_263 rfl (words_any _) ?_
  rintro e w1 ⟨b, rfl, hr, he⟩
  refine ⟨_, rfl, ?_⟩
  have he : Ext w w1 := he
  refine L.va rfl (X.assign (by conv => lhs; whnf)) ?_
  refine L.nil ?_
  refine J.seq ?_
  refine J.region ?_
  refine L.va rfl (X.move (by conv => lhs; whnf)) ?_
  refine L.va rfl (X.len rfl Try.underlying46) ?_
  refine L.va rfl (X.assign (by conv => lhs; whnf)) ?_
  refine L.va rfl (X.assign (by conv => lhs; whnf)) ?_
  refine L.nil ?_
  refine J.seq ?_
  refine J.block ?_
  -- loop
  refine J.loop (X := Nat × Nat) [2, 4, 5, 6, 10, 11, 12, 13, 14, 15, 16, 17, 18, 19, 20, 21, 22, 23, 24, 25, 26, 27, 28, 29, 30, 31, 32, 33] (fun x => [(4, .int .i64 (x.1 : Int)), (5, .int .i64 (x.2 : Int))]) (fun x w' => w' = w1 ∧ x.1 ≤ x.2 ∧ x.2 ≤ 16 ∧ (∀ j, j < 16 → j < x.1 → Ws.getD j be0 ≠ s) ∧ (∀ j, j < 16 → x.2 ≤ j → Ws.getD j be0 ≠ s)) (fun x => x.2 - x.1) ((0, 16)) (At2 (by first | rfl | exact at_int rfl (by omega) | exact at_slice rfl (by omega) | exact at_int rfl (by simp)) (by first | rfl | exact at_int rfl (by omega) | exact at_slice rfl (by omega) | exact at_int rfl (by simp))) ?_ ?_
  · exact ⟨rfl, by decide, by decide, fun j _ h => absurd h (Nat.not_lt_zero _), fun j h1 h2 => absurd h1 (Nat.not_lt.2 h2)⟩
  · rintro ⟨lo, hi⟩ g w2 ⟨rfl, h1, h2, h3, h4⟩
    dsimp only at h1 h2 h3 h4
    have q1 : ((lo, hi) : Nat × Nat).1 = lo := rfl
    have q2 : ((lo, hi) : Nat × Nat).2 = hi := rfl
    refine J.seq ?_
    refine J.seq ?_
    refine J.region ?_
    refine L.va rfl (X.move (by conv => lhs; whnf)) ?_
    refine L.va rfl (X.move (by conv => lhs; whnf)) ?_
    refine L.va rfl (X.lss rfl rfl) ?_
    refine L.nil ?_
    -- cond
    refine J.dec rfl (fun hlt => ?_) (fun hlt => ?_)
    · refine J.skip ?_
      refine J.block ?_
      refine J.seq ?_
      refine J.region ?_
      refine L.va rfl (X.move (by conv => lhs; whnf)) ?_
      refine L.va rfl (X.move (by conv => lhs; whnf)) ?_
      refine L.va rfl (X.add rfl rfl (by omega)) ?_
      refine L.va rfl (X.quo rfl rfl (by omega)) ?_
      refine L.va rfl (X.assign (by conv => lhs; whnf)) ?_
      refine L.nil ?_
      refine J.block ?_
      -- until
      have e : (((lo, hi) : Nat × Nat).1 + (((lo, hi) : Nat × Nat).2 : Int) : Int) / 2 = (((lo + hi) / 2 : Nat) : Int) := by dsimp only; omega
      rw [e]
      have hmid : lo ≤ (lo + hi) / 2 ∧ (lo + hi) / 2 < hi := by dsimp only at hlt; omega
      generalize (lo + hi) / 2 = m at hmid
      refine J.seq ?_
      refine J.region ?_
      refine L.va rfl (X.move (by conv => lhs; whnf)) ?_
      refine L.va rfl (X.move (by conv => lhs; whnf)) ?_
      refine L.va rfl ((by first | exact X.index1n rfl rfl Try.underlying46 sz_9 (by first | exact Option.some_ne_none _ | exact hr.some_ (by omega)) (by omega) | exact X.index1 rfl rfl Try.underlying46 sz_9 (by first | exact Option.some_ne_none _ | exact hr.some_ (by omega)) (by omega))) ?_
      refine L.va rfl (X.load rfl sc_9 (by first | exact Ld.str hr (by omega))) ?_
      refine L.va rfl (X.move (by conv => lhs; whnf)) ?_
      refine L.va rfl (X.eqlS rfl rfl) ?_
      refine L.va rfl (X.assign (by conv => lhs; whnf)) ?_
      refine L.nil ?_
      -- cond
      refine J.dec rfl (fun heq => ?_) (fun heq => ?_)
      · have hE : among Ws s = true := by rw [← heq]; exact among_iff.2 (ws_at (by omega))
        rw [hE]
        refine J.seq ?_
        refine J.region ?_
        refine L.va rfl (X.assign (by conv => lhs; whnf)) ?_
        refine L.nil ?_
        -- ret
        refine J.ret ?_
        refine inB_ret <|  inB_ret <|  thn_ret <|  inB_ret <|  thn_ret <| ?_
        refine fin1 ?_
        exact ⟨rfl, he⟩
      · refine J.seq ?_
        refine J.region ?_
        refine L.va rfl (X.move (by conv => lhs; whnf)) ?_
        refine L.va rfl (X.move (by conv => lhs; whnf)) ?_
        refine L.va rfl ((by first | exact X.index1n rfl rfl Try.underlying46 sz_9 (by first | exact Option.some_ne_none _ | exact hr.some_ (by omega)) (by omega) | exact X.index1 rfl rfl Try.underlying46 sz_9 (by first | exact Option.some_ne_none _ | exact hr.some_ (by omega)) (by omega))) ?_
        refine L.va rfl (X.load rfl sc_9 (by first | exact Ld.str hr (by omega))) ?_
        refine L.va rfl (X.move (by conv => lhs; whnf)) ?_
        refine L.va rfl (X.lssS rfl rfl) ?_
        refine L.va rfl (X.assign (by conv => lhs; whnf)) ?_
        refine L.nil ?_
        -- cond
        refine J.dec rfl (fun hless => ?_) (fun hless => ?_)
        · refine J.region ?_
          refine L.va rfl (X.move (by conv => lhs; whnf)) ?_
          refine L.va rfl (X.add rfl rfl (by omega)) ?_
          refine L.va rfl (X.assign (by conv => lhs; whnf)) ?_
          refine L.nil ?_
          -- loopend
          refine ⟨(m + 1, hi), At2 (by first | rfl | exact at_int rfl (by omega) | exact at_slice rfl (by omega) | exact at_int rfl (by simp)) (by first | rfl | exact at_int rfl (by omega) | exact at_slice rfl (by omega) | exact at_int rfl (by simp)), (by (iterate 25 refine Agr.lk rfl ?_); exact Agr.lk rfl (Agr.hav rfl Agr.rfl')), ?_⟩
          refine ⟨⟨rfl, by dsimp only; omega, h2, fun j hj hjm hjs => ?_, h4⟩, by dsimp only; omega⟩
          dsimp only at hjm
          rw [← hjs, ws_lt m j (by omega) hj] at hless
          have := of_decide_eq_true hless
          omega
        · refine J.region ?_
          refine L.va rfl (X.move (by conv => lhs; whnf)) ?_
          refine L.va rfl (X.assign (by conv => lhs; whnf)) ?_
          refine L.nil ?_
          -- loopend
          refine ⟨(lo, m), At2 (by first | rfl | exact at_int rfl (by omega) | exact at_slice rfl (by omega) | exact at_int rfl (by simp)) (by first | rfl | exact at_int rfl (by omega) | exact at_slice rfl (by omega) | exact at_int rfl (by simp)), (by (iterate 24 refine Agr.lk rfl ?_); exact Agr.lk rfl (Agr.hav rfl Agr.rfl')), ?_⟩
          refine ⟨⟨rfl, by dsimp only; omega, by dsimp only; omega, h3, fun j hj hjm hjs => ?_⟩, by dsimp only; omega⟩
          dsimp only at hjm
          by_cases hjm' : j = m
          · subst hjm'; exact heq hjs
          · rw [← hjs, ws_lt m j (by omega) hj] at hless
            exact hless (decide_eq_true (by omega))
    · have hE : among Ws s = false := by
        rw [← Bool.not_eq_true]
        intro hm
        replace hm := among_iff.1 hm
        obtain ⟨j, hj, hjs⟩ := ws_mem hm
        dsimp only at hlt
        rcases Nat.lt_or_ge j lo with h | h
        · exact h3 j hj h hjs
        · exact h4 j hj (by omega) hjs
      rw [hE]
      refine J.exit ?_
      refine J.seq ?_
      refine J.region ?_
      refine L.va rfl (X.assign (by conv => lhs; whnf)) ?_
      refine L.nil ?_
      -- ret
      refine J.ret ?_
      refine fin1 ?_
      exact ⟨rfl, he⟩
end Go.Proofs.Ytlipeplfjkgamaa
