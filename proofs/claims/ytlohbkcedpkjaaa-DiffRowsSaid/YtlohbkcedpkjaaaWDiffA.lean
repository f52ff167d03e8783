/-
  diff.Cells, with whatever tells whether two cells are the same; awake.
-/
import Derived.Test.YtlohbkcedpkjaaaAux
namespace Go.Proofs.Ytlohbkcedpkjaaa
set_option maxRecDepth 100000
open Go.RowKit H
set_option linter.unusedVariables false
/-- a cell as its four values -/
structure Ce where
  (key cnt : Int) (iA : Option Addr) (i_n ic : Nat) (nA : Option Addr) (n_n nc : Nat)
abbrev Ce.vals (x : Ce) : List Value := [.int .u64 x.key, .int .i64 x.cnt, .slice x.iA x.i_n x.ic, .slice x.nA x.n_n x.nc]
abbrev Ce.v (x : Ce) : Value := .agg x.vals.toArray
theorem ce_len (x : Ce) : x.vals.length = 4 := rfl
def ce0 : Ce := ⟨0, 0, none, 0, 0, none, 0, 0⟩
def rise (l : List Ce) : Bool := (List.range (l.length - 1)).all fun i => decide ((l.getD i ce0).key < (l.getD (i + 1) ce0).key)
theorem rise_at {l : List Ce} : rise l = true ↔ ∀ i, i + 1 < l.length → (l.getD i ce0).key < (l.getD (i + 1) ce0).key := by
  unfold rise
  rw [List.all_eq_true]
  constructor
  · intro h i hi
    exact of_decide_eq_true (h i (List.mem_range.2 (by omega)))
  · intro h i hi
    have := List.mem_range.1 hi
    exact decide_eq_true (h i (by omega))
/-- the changes, by going through both -/
def mergeD (sm : Ce → Ce → Bool) : List Ce → List Ce → List (Int × Int)
  | [], [] => []
  | x :: a, [] => (x.key, 1) :: mergeD sm a []
  | [], y :: b => (y.key, 2) :: mergeD sm [] b
  | x :: a, y :: b => if x.key < y.key then (x.key, 1) :: mergeD sm a (y :: b) else if y.key < x.key then (y.key, 2) :: mergeD sm (x :: a) b else (if sm x y = true then [] else [(x.key, 3)]) ++ mergeD sm a b
  termination_by a b => a.length + b.length
abbrev chV (p : Int × Int) : List Value := [.int .u64 p.1, .int .i64 p.2]
theorem ch_len (p : Int × Int) : (chV p).length = 2 := rfl
theorem ofcell {w : World} (x : Ce) : Calls Try.prog 98 #[x.v] w fun e w' => e = .returned (.int .u64 x.key) ∧ Ext w w' := by
  refine enter Try.func98 rfl (by kernel_rfl) ?_
  refine J.seq ?_
  refine J.region ?_
  -- box
  refine L.boxA (l := [_, _, _, _]) rfl rfl ?_
  intro b1 w1 hb1 hs1 hk1 he1
  refine L.va rfl (X.assign (by conv => lhs; whnf)) ?_
  refine L.nil ?_
  refine J.seq ?_
  refine J.region ?_
  refine L.va rfl (X.fieldAddr rfl Try.underlying77 rfl sz_73 (by decide)) ?_
  refine L.va rfl (X.load rfl sc_73 (by first | exact Ld.blk hk1 rfl)) ?_
  refine L.va rfl (X.assign (by conv => lhs; whnf)) ?_
  refine L.nil ?_
  -- ret
  refine J.ret ?_
  refine fin1 ?_
  exact ⟨rfl, he1⟩
theorem rising_ {w : World} {N : Nat} (A : Option Addr) (c : Nat) (l : List Ce) (hr : Reads w N 4 A l.length (l.flatMap Ce.vals)) (hN : N ≤ w.heap.size) (hm : l.length ≤ 1000000) : Calls Try.prog 97 #[.slice A l.length c, .func (.func 98) #[] #[]] w fun e w' => e = .returned (.bool (rise l)) ∧ Ext w w' := by
  refine enter Try.func97 rfl (by kernel_rfl) ?_
  refine J.seq ?_
  refine J.region ?_
  refine L.va rfl (X.assign (by conv => lhs; whnf)) ?_
  refine L.nil ?_
  refine J.seq ?_
  refine J.seq ?_
  refine J.region ?_
  refine L.va rfl (X.assign (by conv => lhs; whnf)) ?_
  refine L.nil ?_
  refine J.block ?_
  -- loop
  refine J.loop (X := Nat) [4, 5, 6, 7, 8, 9, 10, 11, 12, 13, 14, 15, 16, 17, 18, 19, 20, 21, 22, 23, 24, 25] (fun i => [(5, .int .i64 (i : Int))]) (fun i w' => 1 ≤ i ∧ (i ≤ l.length ∨ l.length = 0 ∧ i = 1) ∧ Ext w w' ∧ ∀ j, j + 1 < i → (l.getD j ce0).key < (l.getD (j + 1) ce0).key) (fun i => l.length + 1 - i) (1) (At1 (by first | rfl | exact at_int rfl (by omega) | exact at_slice rfl (by omega) | exact at_int rfl (by simp))) ?_ ?_
  · exact ⟨by omega, by omega, Ext.refl _, fun j hj => by omega⟩
  · rintro i g w2 ⟨h1, hi, he, hall⟩
    have hr2 := hr.low (Below.mono he hN) (Nat.le_refl _)
    have z := he.le
    refine J.seq ?_
    refine J.seq ?_
    refine J.region ?_
    refine L.va rfl (X.move (by conv => lhs; whnf)) ?_
    refine L.va rfl (X.move (by conv => lhs; whnf)) ?_
    refine L.va rfl (X.len rfl Try.underlying78) ?_
    refine L.va rfl (X.lss rfl rfl) ?_
    refine L.nil ?_
    -- cond
    refine J.dec rfl (fun hlt => ?_) (fun hlt => ?_)
    · have hil : i < l.length := by omega
      have hA := hr2.some_ (by omega)
      have gi : l[i]? = some (l.getD i ce0) := by simp [List.getD, hil]
      obtain ⟨j, rfl⟩ : ∃ j, i = j + 1 := ⟨i - 1, by omega⟩
      have gj : l[j]? = some (l.getD j ce0) := by simp [List.getD, show j < l.length by omega]
      have hrow1 := fun (w' : World) (hw : Ext w2 w') => hr2.low (Below.mono hw (by omega)) (Nat.le_refl _)
      generalize hx : l.getD (j + 1) ce0 = x at *
      generalize hy : l.getD j ce0 = y at *
      refine J.skip ?_
      refine J.seq ?_
      refine J.block ?_
      refine J.seq ?_
      -- draw
      -- t16
      -- t22
      -- t23
      refine J.quiet mixed (by kernel_rfl) ?_
      refine Qt.va rfl (fun w' hw => X.move (by conv => lhs; whnf)) ?_
      refine Qt.va rfl (fun w' hw => X.move (by conv => lhs; whnf)) ?_
      refine Qt.va rfl (fun w' hw => X.move (by conv => lhs; whnf)) ?_
      refine Qt.va rfl (fun w' hw => (by first | exact X.indexAddrn rfl rfl Try.underlying78 sz_77 (by first | exact Option.some_ne_none _ | exact hA) (by omega) | exact X.indexAddr rfl rfl Try.underlying78 sz_77 (by first | exact Option.some_ne_none _ | exact hA) (by omega))) ?_
      refine Qt.va rfl (fun w' hw => X.loadRow (cs := x.vals) rfl (hrow1 w' hw) (fun r u hu => flat_row ce_len gi r u hu) (Nat.zero_lt_succ _) Try.underlying77 rfl (by kernel_rfl)) ?_
      -- callval
      refine Qt.callV rfl en_98 rfl rfl (fun w' hw => calls_ext hw (ofcell x)) ?_
      refine Qt.va rfl (fun w' hw => X.move (by conv => lhs; whnf)) ?_
      refine Qt.va rfl (fun w' hw => X.move (by conv => lhs; whnf)) ?_
      refine Qt.va rfl (fun w' hw => X.move (by conv => lhs; whnf)) ?_
      refine Qt.va rfl (fun w' hw => X.sub rfl rfl (by omega)) ?_
      refine Qt.va rfl (fun w' hw => X.indexAddrn (j := j) rfl (show Value.int .i64 (((j + 1 : Nat) : Int) - 1) = _ by rw [show (((j + 1 : Nat) : Int) - 1) = (j : Int) by omega]) Try.underlying78 sz_77 hA (by omega)) ?_
      refine Qt.va rfl (fun w' hw => X.loadRow (cs := y.vals) rfl (hrow1 w' hw) (fun r u hu => flat_row ce_len gj r u hu) (Nat.zero_lt_succ _) Try.underlying77 rfl (by kernel_rfl)) ?_
      -- callval
      refine Qt.callV rfl en_98 rfl rfl (fun w' hw => calls_ext hw (ofcell y)) ?_
      refine Qt.va rfl (fun w' hw => X.leq rfl rfl) ?_
      refine Qt.nil (fun w3 hq => ?_)
      -- cond
      have he3 := he.trans hq
      refine J.dec rfl (fun hle => ?_) (fun hle => ?_)
      · have e : rise l = false := by
          rw [← Bool.not_eq_true, rise_at]
          intro h
          have := h j hil
          rw [hx, hy] at this
          omega
        rw [e]
        refine J.seq ?_
        refine J.region ?_
        refine L.va rfl (X.assign (by conv => lhs; whnf)) ?_
        refine L.nil ?_
        -- ret
        refine J.ret ?_
        refine inB_ret <|  thn_ret <|  thn_ret <|  inB_ret <|  thn_ret <| ?_
        refine fin1 ?_
        exact ⟨rfl, he3⟩
      · refine J.skip ?_
        refine J.region ?_
        refine L.va rfl (X.move (by conv => lhs; whnf)) ?_
        refine L.va rfl (X.add rfl rfl (by omega)) ?_
        refine L.va rfl (X.assign (by conv => lhs; whnf)) ?_
        refine L.nil ?_
        -- loopend
        refine ⟨(j + 1) + 1, At1 (by first | rfl | exact at_int rfl (by omega) | exact at_slice rfl (by omega) | exact at_int rfl (by simp)), (by (iterate 21 refine Agr.lk rfl ?_); exact Agr.lk rfl (Agr.hav rfl Agr.rfl')), ?_⟩
        refine ⟨⟨by omega, by omega, he3, fun k hk => ?_⟩, by omega⟩
        rcases Nat.lt_or_ge k j with h2 | h2
        · exact hall k (by omega)
        · obtain rfl : k = j := by omega
          rw [hx, hy]
          omega
    · have e : rise l = true := by
        rw [rise_at]
        intro j hj
        exact hall j (by omega)
      rw [e]
      refine J.exit ?_
      refine J.seq ?_
      refine J.region ?_
      refine L.va rfl (X.assign (by conv => lhs; whnf)) ?_
      refine L.nil ?_
      -- ret
      refine J.ret ?_
      refine fin1 ?_
      exact ⟨rfl, he⟩
theorem cells_ {w : World} {N : Nat} (hN : N ≤ w.heap.size) (sm : Ce → Ce → Bool) (A : Option Addr) (c : Nat) (la : List Ce) (hra : Reads w N 4 A la.length (la.flatMap Ce.vals)) (hca : la.length ≤ c) (B : Option Addr) (d : Nat) (lb : List Ce) (hrb : Reads w N 4 B lb.length (lb.flatMap Ce.vals)) (hcb : lb.length ≤ d) (hm : la.length ≤ 1000000 ∧ lb.length ≤ 1000000)
    (hsm : ∀ x ∈ la, ∀ y ∈ lb, ∀ w', Ext w w' → Calls Try.prog 99 #[x.v, y.v] w' fun e w'' => e = .returned (.bool (sm x y)) ∧ Ext w' w'') (hrs : rise la = true ∧ rise lb = true) :
    Calls Try.prog 43 #[.slice A la.length c, .slice B lb.length d] w fun e w' => ∃ oA oc, e = .returned (.tuple #[.slice oA (mergeD sm la lb).length oc, .int .i64 0]) ∧ w'.ownsRow w.heap.size 83 2 (.slice oA (mergeD sm la lb).length oc) (mergeD sm la lb).length ((mergeD sm la lb).flatMap chV) ∧ Ext w w' := by
  refine enter Try.func43 rfl (by kernel_rfl) ?_
  refine J.seq ?_
  refine J.region ?_
  refine L.va rfl (X.assign (by conv => lhs; whnf)) ?_
  refine L.va rfl (X.assign (by conv => lhs; whnf)) ?_
  refine L.nil ?_
  refine J.seq ?_
  refine J.seq ?_
  refine J.region ?_
  refine L.va rfl (X.move (by conv => lhs; whnf)) ?_
  -- callfn bushel/diff.rising[bushel/api.Cell]
  have c1 := rising_ A c la hra hN hm.1
  rw [hrs.1] at c1
  refine L.call rfl en_97 rfl (c1) ?_
  rintro e w1 ⟨rfl, he1⟩
  refine ⟨_, rfl, ?_⟩
  have he1 : Ext w w1 := he1
  have c2 := rising_ (w := w1) B d lb (hrb.low (Below.mono he1 hN) (Nat.le_refl _)) (by have := he1.le; omega) hm.2
  rw [hrs.2] at c2
  refine L.va rfl (X.not rfl) ?_
  refine L.va rfl (X.move (by conv => lhs; whnf)) ?_
  -- case t10
  refine L.caseBF (k := 10) rfl (by rfl) ?_
  refine L.va rfl (X.move (by conv => lhs; whnf)) ?_
  -- callfn bushel/diff.rising[bushel/api.Cell]
  refine L.call rfl en_97 rfl (c2) ?_
  rintro e w2 ⟨rfl, he2⟩
  refine ⟨_, rfl, ?_⟩
  have he2 : Ext w1 w2 := he2
  refine L.va rfl (X.not rfl) ?_
  refine L.va rfl (X.pickF rfl (by conv => lhs; whnf)) ?_
  refine L.nil ?_
  -- cond
  refine J.iteF rfl ?_
  refine J.skip ?_
  refine J.seq ?_
  refine J.region ?_
  refine L.va rfl (X.assign (by conv => lhs; whnf)) ?_
  refine L.nil ?_
  refine J.seq ?_
  refine J.block ?_
  -- loop
  refine J.loop (X := (Option Addr × Nat × List Ce) × (Option Addr × Nat × List Ce) × (Option Addr × Nat × List (Int × Int))) [0, 1, 6, 15, 16, 17, 18, 19, 20, 21, 22, 23, 24, 25, 26, 27, 28, 29, 30, 31, 32, 33, 34, 35, 36, 37, 38, 39, 40, 41, 42, 43, 44, 45, 46, 47, 48, 49, 50, 51, 52, 53, 54, 55, 56, 57, 58, 59, 60, 61, 62, 63, 64, 65, 66, 67, 68, 69, 70, 71, 72, 73, 74, 75, 76, 77, 78, 79, 80, 81, 82, 83, 84, 85, 86, 87, 88, 89, 90, 91, 92, 93, 94, 95, 96, 97] (fun x => [(0, .slice x.1.1 x.1.2.2.length x.1.2.1), (1, .slice x.2.1.1 x.2.1.2.2.length x.2.1.2.1), (6, .slice x.2.2.1 x.2.2.2.2.length x.2.2.2.1)]) (fun x w' => Reads w' N 4 x.1.1 x.1.2.2.length (x.1.2.2.flatMap Ce.vals) ∧ x.1.2.2.length ≤ x.1.2.1 ∧ Reads w' N 4 x.2.1.1 x.2.1.2.2.length (x.2.1.2.2.flatMap Ce.vals) ∧ x.2.1.2.2.length ≤ x.2.1.2.1 ∧ (∀ y ∈ x.1.2.2, y ∈ la) ∧ (∀ y ∈ x.2.1.2.2, y ∈ lb) ∧ w'.ownsRow w.heap.size 83 2 (.slice x.2.2.1 x.2.2.2.2.length x.2.2.2.1) x.2.2.2.2.length (x.2.2.2.2.flatMap chV) ∧ Ext w w' ∧ x.2.2.2.2 ++ mergeD sm x.1.2.2 x.2.1.2.2 = mergeD sm la lb ∧ x.2.2.2.2.length + x.1.2.2.length + x.2.1.2.2.length ≤ 2000000) (fun x => x.1.2.2.length + x.2.1.2.2.length) (((A, c, la), (B, d, lb), (none, 0, []))) (At3 (by first | rfl | exact at_int rfl (by omega) | exact at_slice rfl (by omega) | exact at_int rfl (by simp)) (by first | rfl | exact at_int rfl (by omega) | exact at_slice rfl (by omega) | exact at_int rfl (by simp)) (by first | rfl | exact at_int rfl (by omega) | exact at_slice rfl (by omega) | exact at_int rfl (by simp))) ?_ ?_
  · have he := he1.trans he2
    exact ⟨hra.low (Below.mono he hN) (Nat.le_refl _), hca, hrb.low (Below.mono he hN) (Nat.le_refl _), hcb, fun y hy => hy, fun y hy => hy, own_nil _ _ _ _, he, rfl, by simp; omega⟩
  · rintro ⟨⟨A, c, a⟩, ⟨B, d, b⟩, ⟨oA, oc, out⟩⟩ g w3 ⟨hra, hca, hrb, hcb, ma, mb, ho, he, heq, hmx⟩
    dsimp only at hra hca hrb hcb ma mb ho heq hmx
    have z := he.le
    rcases a with _ | ⟨x, a⟩ <;> rcases b with _ | ⟨y, b⟩
    · refine J.seq ?_
      refine J.seq ?_
      refine J.region ?_
      refine L.va rfl (X.move (by conv => lhs; whnf)) ?_
      refine L.va rfl (X.len rfl Try.underlying78) ?_
      refine L.va rfl (X.gtr rfl rfl) ?_
      refine L.va rfl (X.move (by conv => lhs; whnf)) ?_
      -- case t18
      refine L.caseDecF (k := 18) rfl (by simp) ?_
      refine L.va rfl (X.move (by conv => lhs; whnf)) ?_
      refine L.va rfl (X.len rfl Try.underlying78) ?_
      refine L.va rfl (X.gtr rfl rfl) ?_
      refine L.va rfl (X.pickF rfl (by conv => lhs; whnf)) ?_
      refine L.nil ?_
      -- cond
      refine J.decF rfl (by simp) ?_
      refine J.exit ?_
      refine J.seq ?_
      refine J.region ?_
      refine L.va rfl (X.move (by conv => lhs; whnf)) ?_
      refine L.va rfl (X.assign (by conv => lhs; whnf)) ?_
      refine L.va rfl (X.assign (by conv => lhs; whnf)) ?_
      refine L.nil ?_
      -- ret
      refine J.ret ?_
      refine fin2 ?_
      have e : out = mergeD sm la lb := by rw [← heq, mergeD, List.append_nil]
      rw [← e]
      exact ⟨oA, oc, rfl, ho, he⟩
    · have hAy := hrb.some_ (by simp)
      have q10 : (((A, c, ([] : List Ce)), (B, d, y :: b), (oA, oc, out)) : (Option Addr × Nat × List Ce) × (Option Addr × Nat × List Ce) × (Option Addr × Nat × List (Int × Int))).1.2.2.length = 0 := rfl
      have q11 : (((A, c, ([] : List Ce)), (B, d, y :: b), (oA, oc, out)) : (Option Addr × Nat × List Ce) × (Option Addr × Nat × List Ce) × (Option Addr × Nat × List (Int × Int))).2.1.2.2.length = b.length + 1 := rfl
      have q12 : (((A, c, ([] : List Ce)), (B, d, y :: b), (oA, oc, out)) : (Option Addr × Nat × List Ce) × (Option Addr × Nat × List Ce) × (Option Addr × Nat × List (Int × Int))).1.2.1 = c := rfl
      have q13 : (((A, c, ([] : List Ce)), (B, d, y :: b), (oA, oc, out)) : (Option Addr × Nat × List Ce) × (Option Addr × Nat × List Ce) × (Option Addr × Nat × List (Int × Int))).2.1.2.1 = d := rfl
      have q14 : (((A, c, ([] : List Ce)), (B, d, y :: b), (oA, oc, out)) : (Option Addr × Nat × List Ce) × (Option Addr × Nat × List Ce) × (Option Addr × Nat × List (Int × Int))).2.2.2.2.length = out.length := rfl
      have hlb : (y :: b).length = b.length + 1 := rfl
      rw [hlb] at hrb hcb hmx
      have em : mergeD sm [] (y :: b) = (y.key, 2) :: mergeD sm [] b := by rw [mergeD]
      rw [em] at heq
      have ry := Ld.flat2 ce_len hrb (i := 0) (x := y) rfl (r := 0) rfl
      have hrt : Reads w3 N 4 (if d = 1 then B else B.map (·.add (1 * 4))) b.length (b.flatMap Ce.vals) := hrb.cut (k := 1) (cap := d) (by omega) hcb
      refine J.seq ?_
      refine J.seq ?_
      refine J.region ?_
      refine L.va rfl (X.move (by conv => lhs; whnf)) ?_
      refine L.va rfl (X.len rfl Try.underlying78) ?_
      refine L.va rfl (X.gtr rfl rfl) ?_
      refine L.va rfl (X.move (by conv => lhs; whnf)) ?_
      -- case t18
      refine L.caseDecF (k := 18) rfl (by simp) ?_
      refine L.va rfl (X.move (by conv => lhs; whnf)) ?_
      refine L.va rfl (X.len rfl Try.underlying78) ?_
      refine L.va rfl (X.gtr rfl rfl) ?_
      refine L.va rfl (X.pickF rfl (by conv => lhs; whnf)) ?_
      refine L.nil ?_
      -- cond
      refine J.decT rfl (by omega) ?_
      refine J.skip ?_
      refine J.block ?_
      refine J.block ?_
      refine J.seq ?_
      -- draw
      refine J.draw (ℓ := 1000000) (S := Ext w3) mixed (fun w4 hS hS_h => ?_)
      refine D.va 0 rfl (by kernel_rfl) (fun _ _ _ h => h) rfl (fun w' hw => X.move (by conv => lhs; whnf)) hS ?_
      refine D.va 1 rfl (by kernel_rfl) (fun _ _ _ h => h) rfl (fun w' hw => X.len rfl Try.underlying78) hS ?_
      refine D.va 2 rfl (by kernel_rfl) (fun _ _ _ h => h) rfl (fun w' hw => X.eql rfl rfl) hS ?_
      refine D.va 3 rfl (by kernel_rfl) (fun _ _ _ h => h) rfl (fun w' hw => X.move (by conv => lhs; whnf)) hS ?_
      -- case t47
      refine D.caseDecF (k := 47) rfl (by omega) ?_
      refine D.va 4 rfl (by kernel_rfl) (fun _ _ _ h => h) rfl (fun w' hw => X.move (by conv => lhs; whnf)) hS ?_
      refine D.va 5 rfl (by kernel_rfl) (fun _ _ _ h => h) rfl (fun w' hw => X.len rfl Try.underlying78) hS ?_
      refine D.va 6 rfl (by kernel_rfl) (fun _ _ _ h => h) rfl (fun w' hw => X.gtr rfl rfl) hS ?_
      refine D.va 7 rfl (by kernel_rfl) (fun _ _ _ h => h) rfl (fun w' hw => X.move (by conv => lhs; whnf)) hS ?_
      -- case t51
      refine D.caseDecF (k := 51) rfl (by simp) ?_
      refine D.no 8 rfl (by kernel_rfl) (fun _ _ _ h => h) rfl hS ?_
      refine D.no 9 rfl (by kernel_rfl) (fun _ _ _ h => h) rfl hS ?_
      refine D.no 10 rfl (by kernel_rfl) (fun _ _ _ h => h) rfl hS ?_
      refine D.no 11 rfl (by kernel_rfl) (fun _ _ _ h => h) rfl hS ?_
      refine D.no 12 rfl (by kernel_rfl) (fun _ _ _ h => h) rfl hS ?_
      refine D.no 13 rfl (by kernel_rfl) (fun _ _ _ h => h) rfl hS ?_
      refine D.no 14 rfl (by kernel_rfl) (fun _ _ _ h => h) rfl hS ?_
      refine D.no 15 rfl (by kernel_rfl) (fun _ _ _ h => h) rfl hS ?_
      refine D.no 16 rfl (by kernel_rfl) (fun _ _ _ h => h) rfl hS ?_
      refine D.va 17 rfl (by kernel_rfl) (fun _ _ _ h => h) rfl (fun w' hw => X.pickF rfl (by conv => lhs; whnf)) hS ?_
      refine D.va 18 rfl (by kernel_rfl) (fun _ _ _ h => h) rfl (fun w' hw => X.pickF rfl (by conv => lhs; whnf)) hS ?_
      refine D.va 19 rfl (by kernel_rfl) (fun _ _ _ h => h) rfl (fun w' hw => X.assign (by conv => lhs; whnf)) hS ?_
      refine D.done (by kernel_rfl) ?_
      -- cond
      refine J.iteF rfl ?_
      refine J.seq ?_
      -- draw
      refine J.draw (ℓ := 1000000) (S := Ext w4) mixed (fun w5 hS2 hS2_h => ?_)
      refine D.va 0 rfl (by kernel_rfl) (fun _ _ _ h => h) rfl (fun w' hw => X.move (by conv => lhs; whnf)) hS2 ?_
      refine D.va 1 rfl (by kernel_rfl) (fun _ _ _ h => h) rfl (fun w' hw => X.len rfl Try.underlying78) hS2 ?_
      refine D.va 2 rfl (by kernel_rfl) (fun _ _ _ h => h) rfl (fun w' hw => X.eql rfl rfl) hS2 ?_
      refine D.va 3 rfl (by kernel_rfl) (fun _ _ _ h => h) rfl (fun w' hw => X.move (by conv => lhs; whnf)) hS2 ?_
      -- case t77
      refine D.caseDecT (k := 77) rfl (by rfl) ?_
      refine D.no 4 rfl (by kernel_rfl) (fun _ _ _ h => h) rfl hS2 ?_
      refine D.no 5 rfl (by kernel_rfl) (fun _ _ _ h => h) rfl hS2 ?_
      refine D.no 6 rfl (by kernel_rfl) (fun _ _ _ h => h) rfl hS2 ?_
      refine D.no 7 rfl (by kernel_rfl) (fun _ _ _ h => h) rfl hS2 ?_
      refine D.no 8 rfl (by kernel_rfl) (fun _ _ _ h => h) rfl hS2 ?_
      refine D.no 9 rfl (by kernel_rfl) (fun _ _ _ h => h) rfl hS2 ?_
      refine D.no 10 rfl (by kernel_rfl) (fun _ _ _ h => h) rfl hS2 ?_
      refine D.no 11 rfl (by kernel_rfl) (fun _ _ _ h => h) rfl hS2 ?_
      refine D.no 12 rfl (by kernel_rfl) (fun _ _ _ h => h) rfl hS2 ?_
      refine D.va 13 rfl (by kernel_rfl) (fun _ _ _ h => h) rfl (fun w' hw => X.pickT rfl (by conv => lhs; whnf)) hS2 ?_
      refine D.va 14 rfl (by kernel_rfl) (fun _ _ _ h => h) rfl (fun w' hw => X.assign (by conv => lhs; whnf)) hS2 ?_
      refine D.done (by kernel_rfl) ?_
      -- cond
      refine J.iteT rfl ?_
      have he5 := hS.trans hS2
      have hr5 := hrb.low (Below.mono he5 (by omega)) (Nat.le_refl _)
      have ry5 := Ld.flat2 ce_len hr5 (i := 0) (x := y) rfl (r := 0) rfl
      -- t92
      refine J.seq ?_
      refine J.region ?_
      refine L.va rfl (X.move (by conv => lhs; whnf)) ?_
      refine L.va rfl (X.move (by conv => lhs; whnf)) ?_
      refine L.va rfl (X.indexAddrn (j := 0) rfl rfl Try.underlying78 sz_77 (by first | exact Option.some_ne_none _ | exact hAy) (by omega)) ?_
      refine L.va rfl (X.fieldP rfl Try.underlying77 rfl sz_73 (by decide) (by first | exact Option.some_ne_none _ | exact hAy)) ?_
      refine L.va rfl (X.load rfl sc_73 ry5) ?_
      refine L.va rfl (X.build (l := [_, _]) (Evs.cons (by conv => lhs; whnf) (Evs.cons (by conv => lhs; whnf) Evs.nil)) (bld_run Try.underlying83 (bp_83 Try.underlying83) zr_83 rfl)) ?_
      -- buildSlice
      refine L.bslice1 (l := [_, _]) rfl rfl rfl Try.underlying79 sz_83 zr_83 rfl ?_
      intro b6 w6 hb6 hs6 hk6 he6
      have z6 := (he5.trans he6).le
      -- append
      refine L.appendV (q := out.length + 1) (ys := (out ++ [(y.key, 2)]).flatMap chV) rfl rfl rfl Try.underlying79 el_83 ((ho.ext he5).ext he6) ((blk_readsN (sz := 2) (q := 1) (l := [.int .u64 y.key, .int .i64 2]) hk6 hk6.lt rfl)) (by first | rfl | exact strs_ones _ | assumption) (by omega) (by simp) (by unfold maxLen; omega) (by omega) ?_
      intro o7 c7 w7 ho7 hg7 hb7 hor7
      refine L.va rfl (X.assign (by conv => lhs; whnf)) ?_
      refine L.nil ?_
      refine J.region ?_
      refine L.va rfl (X.move (by conv => lhs; whnf)) ?_
      refine L.va rfl ((by first | exact X.sliceFromn (i := 1) rfl rfl Try.underlying78 sz_77 (by omega) | exact X.sliceFrom rfl rfl Try.underlying78 sz_77 (by omega))) ?_
      refine L.va rfl (X.assign (by conv => lhs; whnf)) ?_
      refine L.nil ?_
      -- loopend
      have he7 : Ext w w7 := Below.trans ((he.trans he5).trans he6) hb7
      have hrt7 := (hrt.low (Below.mono (he5.trans he6) (by omega)) (Nat.le_refl _)).low (Below.mono hb7 hN) (Nat.le_refl _)
      refine ⟨((A, c, []), (if d = 1 then B else B.map (·.add (1 * 4)), d - 1, b), (o7, c7, out ++ [(y.key, 2)])), At3 (rfl) (at_slice rfl (by simp)) (at_slice rfl (by simp)), (by (iterate 59 refine Agr.lk rfl ?_); exact Agr.lk rfl (Agr.hav rfl Agr.rfl')), ?_⟩
      refine ⟨⟨Reads.none_, hca, hrt7, by dsimp only; omega, (fun z hz => by cases hz), fun z hz => mb z (by simp [hz]), by simpa using ho7, he7, by dsimp only; rw [List.append_assoc]; exact heq, by dsimp only; simp; omega⟩, by dsimp only; simp⟩
    · have hAx := hra.some_ (by simp)
      have q10 : (((A, c, x :: a), (B, d, ([] : List Ce)), (oA, oc, out)) : (Option Addr × Nat × List Ce) × (Option Addr × Nat × List Ce) × (Option Addr × Nat × List (Int × Int))).1.2.2.length = a.length + 1 := rfl
      have q11 : (((A, c, x :: a), (B, d, ([] : List Ce)), (oA, oc, out)) : (Option Addr × Nat × List Ce) × (Option Addr × Nat × List Ce) × (Option Addr × Nat × List (Int × Int))).2.1.2.2.length = 0 := rfl
      have q12 : (((A, c, x :: a), (B, d, ([] : List Ce)), (oA, oc, out)) : (Option Addr × Nat × List Ce) × (Option Addr × Nat × List Ce) × (Option Addr × Nat × List (Int × Int))).1.2.1 = c := rfl
      have q13 : (((A, c, x :: a), (B, d, ([] : List Ce)), (oA, oc, out)) : (Option Addr × Nat × List Ce) × (Option Addr × Nat × List Ce) × (Option Addr × Nat × List (Int × Int))).2.1.2.1 = d := rfl
      have q14 : (((A, c, x :: a), (B, d, ([] : List Ce)), (oA, oc, out)) : (Option Addr × Nat × List Ce) × (Option Addr × Nat × List Ce) × (Option Addr × Nat × List (Int × Int))).2.2.2.2.length = out.length := rfl
      have hla : (x :: a).length = a.length + 1 := rfl
      rw [hla] at hra hca hmx
      have em : mergeD sm (x :: a) [] = (x.key, 1) :: mergeD sm a [] := by rw [mergeD]
      rw [em] at heq
      have hrta : Reads w3 N 4 (if c = 1 then A else A.map (·.add (1 * 4))) a.length (a.flatMap Ce.vals) := hra.cut (k := 1) (cap := c) (by omega) hca
      refine J.seq ?_
      refine J.seq ?_
      refine J.region ?_
      refine L.va rfl (X.move (by conv => lhs; whnf)) ?_
      refine L.va rfl (X.len rfl Try.underlying78) ?_
      refine L.va rfl (X.gtr rfl rfl) ?_
      refine L.va rfl (X.move (by conv => lhs; whnf)) ?_
      -- case t18
      refine L.caseDecT (k := 18) rfl (by omega) ?_
      refine L.no rfl ?_
      refine L.no rfl ?_
      refine L.no rfl ?_
      refine L.va rfl (X.pickT rfl (by conv => lhs; whnf)) ?_
      refine L.nil ?_
      -- cond
      refine J.iteT rfl ?_
      refine J.skip ?_
      refine J.block ?_
      refine J.block ?_
      refine J.seq ?_
      -- draw
      refine J.draw (ℓ := 1000000) (S := Ext w3) mixed (fun w4 hS hS_h => ?_)
      refine D.va 0 rfl (by kernel_rfl) (fun _ _ _ h => h) rfl (fun w' hw => X.move (by conv => lhs; whnf)) hS ?_
      refine D.va 1 rfl (by kernel_rfl) (fun _ _ _ h => h) rfl (fun w' hw => X.len rfl Try.underlying78) hS ?_
      refine D.va 2 rfl (by kernel_rfl) (fun _ _ _ h => h) rfl (fun w' hw => X.eql rfl rfl) hS ?_
      refine D.va 3 rfl (by kernel_rfl) (fun _ _ _ h => h) rfl (fun w' hw => X.move (by conv => lhs; whnf)) hS ?_
      -- case t47
      refine D.caseDecT (k := 47) rfl (by simp) ?_
      refine D.no 4 rfl (by kernel_rfl) (fun _ _ _ h => h) rfl hS ?_
      refine D.no 5 rfl (by kernel_rfl) (fun _ _ _ h => h) rfl hS ?_
      refine D.no 6 rfl (by kernel_rfl) (fun _ _ _ h => h) rfl hS ?_
      refine D.no 7 rfl (by kernel_rfl) (fun _ _ _ h => h) rfl hS ?_
      refine D.no 8 rfl (by kernel_rfl) (fun _ _ _ h => h) rfl hS ?_
      refine D.no 9 rfl (by kernel_rfl) (fun _ _ _ h => h) rfl hS ?_
      refine D.no 10 rfl (by kernel_rfl) (fun _ _ _ h => h) rfl hS ?_
      refine D.no 11 rfl (by kernel_rfl) (fun _ _ _ h => h) rfl hS ?_
      refine D.no 12 rfl (by kernel_rfl) (fun _ _ _ h => h) rfl hS ?_
      refine D.no 13 rfl (by kernel_rfl) (fun _ _ _ h => h) rfl hS ?_
      refine D.no 14 rfl (by kernel_rfl) (fun _ _ _ h => h) rfl hS ?_
      refine D.no 15 rfl (by kernel_rfl) (fun _ _ _ h => h) rfl hS ?_
      refine D.no 16 rfl (by kernel_rfl) (fun _ _ _ h => h) rfl hS ?_
      refine D.no 17 rfl (by kernel_rfl) (fun _ _ _ h => h) rfl hS ?_
      refine D.va 18 rfl (by kernel_rfl) (fun _ _ _ h => h) rfl (fun w' hw => X.pickT rfl (by conv => lhs; whnf)) hS ?_
      refine D.va 19 rfl (by kernel_rfl) (fun _ _ _ h => h) rfl (fun w' hw => X.assign (by conv => lhs; whnf)) hS ?_
      refine D.done (by kernel_rfl) ?_
      -- cond
      refine J.iteT rfl ?_
      have hr4 := hra.low (Below.mono hS (by omega)) (Nat.le_refl _)
      have rx4 := Ld.flat2 ce_len hr4 (i := 0) (x := x) rfl (r := 0) rfl
      -- t67
      refine J.seq ?_
      refine J.region ?_
      refine L.va rfl (X.move (by conv => lhs; whnf)) ?_
      refine L.va rfl (X.move (by conv => lhs; whnf)) ?_
      refine L.va rfl (X.indexAddrn (j := 0) rfl rfl Try.underlying78 sz_77 (by first | exact Option.some_ne_none _ | exact hAx) (by omega)) ?_
      refine L.va rfl (X.fieldP rfl Try.underlying77 rfl sz_73 (by decide) (by first | exact Option.some_ne_none _ | exact hAx)) ?_
      refine L.va rfl (X.load rfl sc_73 rx4) ?_
      refine L.va rfl (X.build (l := [_, _]) (Evs.cons (by conv => lhs; whnf) (Evs.cons (by conv => lhs; whnf) Evs.nil)) (bld_run Try.underlying83 (bp_83 Try.underlying83) zr_83 rfl)) ?_
      -- buildSlice
      refine L.bslice1 (l := [_, _]) rfl rfl rfl Try.underlying79 sz_83 zr_83 rfl ?_
      intro b6 w6 hb6 hs6 hk6 he6
      have z6 := ((hS).trans he6).le
      -- append
      refine L.appendV (q := out.length + 1) (ys := (out ++ [(x.key, 1)]).flatMap chV) rfl rfl rfl Try.underlying79 el_83 ((ho.ext (hS)).ext he6) ((blk_readsN (sz := 2) (q := 1) (l := [.int .u64 x.key, .int .i64 1]) hk6 hk6.lt rfl)) (by first | rfl | exact strs_ones _ | assumption) (by omega) (by simp) (by unfold maxLen; omega) (by omega) ?_
      intro o7 c7 w7 ho7 hg7 hb7 hor7
      refine L.va rfl (X.assign (by conv => lhs; whnf)) ?_
      refine L.nil ?_
      refine J.region ?_
      refine L.va rfl (X.move (by conv => lhs; whnf)) ?_
      refine L.va rfl ((by first | exact X.sliceFromn (i := 1) rfl rfl Try.underlying78 sz_77 (by omega) | exact X.sliceFrom rfl rfl Try.underlying78 sz_77 (by omega))) ?_
      refine L.va rfl (X.assign (by conv => lhs; whnf)) ?_
      refine L.nil ?_
      -- loopend
      have he7 : Ext w w7 := Below.trans ((he.trans hS).trans he6) hb7
      refine ⟨((if c = 1 then A else A.map (·.add (1 * 4)), c - 1, a), (B, d, []), (o7, c7, out ++ [(x.key, 1)])), At3 (at_slice rfl (by simp)) (rfl) (at_slice rfl (by simp)), (by (iterate 42 refine Agr.lk rfl ?_); exact Agr.lk rfl (Agr.hav rfl Agr.rfl')), ?_⟩
      refine ⟨⟨((hrta.low (Below.mono ((hS).trans he6) (by omega)) (Nat.le_refl _)).low (Below.mono hb7 hN) (Nat.le_refl _)), by dsimp only; omega, Reads.none_, hcb, fun z hz => ma z (by simp [hz]), (fun z hz => by cases hz), by simpa using ho7, he7, by dsimp only; rw [List.append_assoc]; exact heq, by dsimp only; simp; omega⟩, by dsimp only; simp⟩
    · have hAx := hra.some_ (by simp)
      have hAy := hrb.some_ (by simp)
      have q10 : (((A, c, x :: a), (B, d, y :: b), (oA, oc, out)) : (Option Addr × Nat × List Ce) × (Option Addr × Nat × List Ce) × (Option Addr × Nat × List (Int × Int))).1.2.2.length = a.length + 1 := rfl
      have q11 : (((A, c, x :: a), (B, d, y :: b), (oA, oc, out)) : (Option Addr × Nat × List Ce) × (Option Addr × Nat × List Ce) × (Option Addr × Nat × List (Int × Int))).2.1.2.2.length = b.length + 1 := rfl
      have q12 : (((A, c, x :: a), (B, d, y :: b), (oA, oc, out)) : (Option Addr × Nat × List Ce) × (Option Addr × Nat × List Ce) × (Option Addr × Nat × List (Int × Int))).1.2.1 = c := rfl
      have q13 : (((A, c, x :: a), (B, d, y :: b), (oA, oc, out)) : (Option Addr × Nat × List Ce) × (Option Addr × Nat × List Ce) × (Option Addr × Nat × List (Int × Int))).2.1.2.1 = d := rfl
      have q14 : (((A, c, x :: a), (B, d, y :: b), (oA, oc, out)) : (Option Addr × Nat × List Ce) × (Option Addr × Nat × List Ce) × (Option Addr × Nat × List (Int × Int))).2.2.2.2.length = out.length := rfl
      have hla : (x :: a).length = a.length + 1 := rfl
      have hlb : (y :: b).length = b.length + 1 := rfl
      rw [hla] at hra hca hmx
      rw [hlb] at hrb hcb hmx
      have em : mergeD sm (x :: a) (y :: b) = if x.key < y.key then (x.key, 1) :: mergeD sm a (y :: b) else if y.key < x.key then (y.key, 2) :: mergeD sm (x :: a) b else (if sm x y = true then [] else [(x.key, 3)]) ++ mergeD sm a b := by rw [mergeD]
      rw [em] at heq
      have hrta : Reads w3 N 4 (if c = 1 then A else A.map (·.add (1 * 4))) a.length (a.flatMap Ce.vals) := hra.cut (k := 1) (cap := c) (by omega) hca
      have hrtb : Reads w3 N 4 (if d = 1 then B else B.map (·.add (1 * 4))) b.length (b.flatMap Ce.vals) := hrb.cut (k := 1) (cap := d) (by omega) hcb
      have rx := fun (w' : World) (hw : Ext w3 w') => Ld.flat2 ce_len (hra.low (Below.mono hw (by omega)) (Nat.le_refl _)) (i := 0) (x := x) rfl (r := 0) rfl
      have ry := fun (w' : World) (hw : Ext w3 w') => Ld.flat2 ce_len (hrb.low (Below.mono hw (by omega)) (Nat.le_refl _)) (i := 0) (x := y) rfl (r := 0) rfl
      refine J.seq ?_
      refine J.seq ?_
      refine J.region ?_
      refine L.va rfl (X.move (by conv => lhs; whnf)) ?_
      refine L.va rfl (X.len rfl Try.underlying78) ?_
      refine L.va rfl (X.gtr rfl rfl) ?_
      refine L.va rfl (X.move (by conv => lhs; whnf)) ?_
      -- case t18
      refine L.caseDecT (k := 18) rfl (by omega) ?_
      refine L.no rfl ?_
      refine L.no rfl ?_
      refine L.no rfl ?_
      refine L.va rfl (X.pickT rfl (by conv => lhs; whnf)) ?_
      refine L.nil ?_
      -- cond
      refine J.iteT rfl ?_
      refine J.skip ?_
      refine J.block ?_
      refine J.block ?_
      refine J.seq ?_
      -- draw
      refine J.draw (ℓ := 1000000) (S := Ext w3) mixed (fun w4 hS hS_h => ?_)
      -- t55
      -- t59
      refine D.va 0 rfl (by kernel_rfl) (fun _ _ _ h => h) rfl (fun w' hw => X.move (by conv => lhs; whnf)) hS ?_
      refine D.va 1 rfl (by kernel_rfl) (fun _ _ _ h => h) rfl (fun w' hw => X.len rfl Try.underlying78) hS ?_
      refine D.va 2 rfl (by kernel_rfl) (fun _ _ _ h => h) rfl (fun w' hw => X.eql rfl rfl) hS ?_
      refine D.va 3 rfl (by kernel_rfl) (fun _ _ _ h => h) rfl (fun w' hw => X.move (by conv => lhs; whnf)) hS ?_
      -- case t47
      refine D.caseDecF (k := 47) rfl (by omega) ?_
      refine D.va 4 rfl (by kernel_rfl) (fun _ _ _ h => h) rfl (fun w' hw => X.move (by conv => lhs; whnf)) hS ?_
      refine D.va 5 rfl (by kernel_rfl) (fun _ _ _ h => h) rfl (fun w' hw => X.len rfl Try.underlying78) hS ?_
      refine D.va 6 rfl (by kernel_rfl) (fun _ _ _ h => h) rfl (fun w' hw => X.gtr rfl rfl) hS ?_
      refine D.va 7 rfl (by kernel_rfl) (fun _ _ _ h => h) rfl (fun w' hw => X.move (by conv => lhs; whnf)) hS ?_
      -- case t51
      refine D.caseDecT (k := 51) rfl (by omega) ?_
      refine D.va 8 rfl (by kernel_rfl) (fun _ _ _ h => h) rfl (fun w' hw => X.move (by conv => lhs; whnf)) hS ?_
      refine D.va 9 rfl (by kernel_rfl) (fun _ _ _ h => h) rfl (fun w' hw => X.indexAddrn (j := 0) rfl rfl Try.underlying78 sz_77 (by first | exact Option.some_ne_none _ | exact hAx | exact hAy) (by omega)) hS ?_
      refine D.va 10 rfl (by kernel_rfl) (fun _ _ _ h => h) rfl (fun w' hw => X.fieldP rfl Try.underlying77 rfl sz_73 (by decide) (by first | exact Option.some_ne_none _ | exact hAx | exact hAy)) hS ?_
      refine D.va 11 rfl (by kernel_rfl) (fun _ _ _ h => h) rfl (fun w' hw => X.load rfl sc_73 (rx w' hw)) hS ?_
      refine D.va 12 rfl (by kernel_rfl) (fun _ _ _ h => h) rfl (fun w' hw => X.move (by conv => lhs; whnf)) hS ?_
      refine D.va 13 rfl (by kernel_rfl) (fun _ _ _ h => h) rfl (fun w' hw => X.indexAddrn (j := 0) rfl rfl Try.underlying78 sz_77 (by first | exact Option.some_ne_none _ | exact hAx | exact hAy) (by omega)) hS ?_
      refine D.va 14 rfl (by kernel_rfl) (fun _ _ _ h => h) rfl (fun w' hw => X.fieldP rfl Try.underlying77 rfl sz_73 (by decide) (by first | exact Option.some_ne_none _ | exact hAx | exact hAy)) hS ?_
      refine D.va 15 rfl (by kernel_rfl) (fun _ _ _ h => h) rfl (fun w' hw => X.load rfl sc_73 (ry w' hw)) hS ?_
      refine D.va 16 rfl (by kernel_rfl) (fun _ _ _ h => h) rfl (fun w' hw => X.lss rfl rfl) hS ?_
      refine D.va 17 rfl (by kernel_rfl) (fun _ _ _ h => h) rfl (fun w' hw => X.pickT rfl (by conv => lhs; whnf)) hS ?_
      refine D.va 18 rfl (by kernel_rfl) (fun _ _ _ h => h) rfl (fun w' hw => X.pickF rfl (by conv => lhs; whnf)) hS ?_
      refine D.va 19 rfl (by kernel_rfl) (fun _ _ _ h => h) rfl (fun w' hw => X.assign (by conv => lhs; whnf)) hS ?_
      refine D.done (by kernel_rfl) ?_
      -- cond
      refine J.dec rfl (fun h1 => ?_) (fun h1 => ?_)
      · rw [if_pos h1] at heq
        -- t67
        refine J.seq ?_
        refine J.region ?_
        refine L.va rfl (X.move (by conv => lhs; whnf)) ?_
        refine L.va rfl (X.move (by conv => lhs; whnf)) ?_
        refine L.va rfl (X.indexAddrn (j := 0) rfl rfl Try.underlying78 sz_77 (by first | exact Option.some_ne_none _ | exact hAx | exact hAy) (by omega)) ?_
        refine L.va rfl (X.fieldP rfl Try.underlying77 rfl sz_73 (by decide) (by first | exact Option.some_ne_none _ | exact hAx | exact hAy)) ?_
        refine L.va rfl (X.load rfl sc_73 (rx _ hS)) ?_
        refine L.va rfl (X.build (l := [_, _]) (Evs.cons (by conv => lhs; whnf) (Evs.cons (by conv => lhs; whnf) Evs.nil)) (bld_run Try.underlying83 (bp_83 Try.underlying83) zr_83 rfl)) ?_
        -- buildSlice
        refine L.bslice1 (l := [_, _]) rfl rfl rfl Try.underlying79 sz_83 zr_83 rfl ?_
        intro b6 w6 hb6 hs6 hk6 he6
        have z6 := ((hS).trans he6).le
        -- append
        refine L.appendV (q := out.length + 1) (ys := (out ++ [(x.key, 1)]).flatMap chV) rfl rfl rfl Try.underlying79 el_83 ((ho.ext (hS)).ext he6) ((blk_readsN (sz := 2) (q := 1) (l := [.int .u64 x.key, .int .i64 1]) hk6 hk6.lt rfl)) (by first | rfl | exact strs_ones _ | assumption) (by omega) (by simp) (by unfold maxLen; omega) (by omega) ?_
        intro o7 c7 w7 ho7 hg7 hb7 hor7
        refine L.va rfl (X.assign (by conv => lhs; whnf)) ?_
        refine L.nil ?_
        refine J.region ?_
        refine L.va rfl (X.move (by conv => lhs; whnf)) ?_
        refine L.va rfl ((by first | exact X.sliceFromn (i := 1) rfl rfl Try.underlying78 sz_77 (by omega) | exact X.sliceFrom rfl rfl Try.underlying78 sz_77 (by omega))) ?_
        refine L.va rfl (X.assign (by conv => lhs; whnf)) ?_
        refine L.nil ?_
        -- loopend
        have he7 : Ext w w7 := Below.trans ((he.trans hS).trans he6) hb7
        have hrb7 := ((hrb.low (Below.mono ((hS).trans he6) (by omega)) (Nat.le_refl _)).low (Below.mono hb7 hN) (Nat.le_refl _))
        refine ⟨((if c = 1 then A else A.map (·.add (1 * 4)), c - 1, a), (B, d, y :: b), (o7, c7, out ++ [(x.key, 1)])), At3 (at_slice rfl (by simp)) (rfl) (at_slice rfl (by simp)), (by (iterate 43 refine Agr.lk rfl ?_); exact Agr.lk rfl (Agr.hav rfl Agr.rfl')), ?_⟩
        refine ⟨⟨((hrta.low (Below.mono ((hS).trans he6) (by omega)) (Nat.le_refl _)).low (Below.mono hb7 hN) (Nat.le_refl _)), by dsimp only; omega, hrb7, hcb, fun z hz => ma z (by simp [hz]), mb, by simpa using ho7, he7, by dsimp only; rw [List.append_assoc]; exact heq, by dsimp only; simp; omega⟩, by dsimp only; simp⟩
      · rw [if_neg h1] at heq
        refine J.seq ?_
        -- draw
        refine J.draw (ℓ := 1000000) (S := Ext w4) mixed (fun w5 hS2 hS2_h => ?_)
        have he5 := hS.trans hS2
        -- t81
        -- t85
        refine D.va 0 rfl (by kernel_rfl) (fun _ _ _ h => h) rfl (fun w' hw => X.move (by conv => lhs; whnf)) hS2 ?_
        refine D.va 1 rfl (by kernel_rfl) (fun _ _ _ h => h) rfl (fun w' hw => X.len rfl Try.underlying78) hS2 ?_
        refine D.va 2 rfl (by kernel_rfl) (fun _ _ _ h => h) rfl (fun w' hw => X.eql rfl rfl) hS2 ?_
        refine D.va 3 rfl (by kernel_rfl) (fun _ _ _ h => h) rfl (fun w' hw => X.move (by conv => lhs; whnf)) hS2 ?_
        -- case t77
        refine D.caseDecF (k := 77) rfl (by omega) ?_
        refine D.va 4 rfl (by kernel_rfl) (fun _ _ _ h => h) rfl (fun w' hw => X.move (by conv => lhs; whnf)) hS2 ?_
        refine D.va 5 rfl (by kernel_rfl) (fun _ _ _ h => h) rfl (fun w' hw => X.indexAddrn (j := 0) rfl rfl Try.underlying78 sz_77 (by first | exact Option.some_ne_none _ | exact hAx | exact hAy) (by omega)) hS2 ?_
        refine D.va 6 rfl (by kernel_rfl) (fun _ _ _ h => h) rfl (fun w' hw => X.fieldP rfl Try.underlying77 rfl sz_73 (by decide) (by first | exact Option.some_ne_none _ | exact hAx | exact hAy)) hS2 ?_
        refine D.va 7 rfl (by kernel_rfl) (fun _ _ _ h => h) rfl (fun w' hw => X.load rfl sc_73 (ry w' (hS.trans hw))) hS2 ?_
        refine D.va 8 rfl (by kernel_rfl) (fun _ _ _ h => h) rfl (fun w' hw => X.move (by conv => lhs; whnf)) hS2 ?_
        refine D.va 9 rfl (by kernel_rfl) (fun _ _ _ h => h) rfl (fun w' hw => X.indexAddrn (j := 0) rfl rfl Try.underlying78 sz_77 (by first | exact Option.some_ne_none _ | exact hAx | exact hAy) (by omega)) hS2 ?_
        refine D.va 10 rfl (by kernel_rfl) (fun _ _ _ h => h) rfl (fun w' hw => X.fieldP rfl Try.underlying77 rfl sz_73 (by decide) (by first | exact Option.some_ne_none _ | exact hAx | exact hAy)) hS2 ?_
        refine D.va 11 rfl (by kernel_rfl) (fun _ _ _ h => h) rfl (fun w' hw => X.load rfl sc_73 (rx w' (hS.trans hw))) hS2 ?_
        refine D.va 12 rfl (by kernel_rfl) (fun _ _ _ h => h) rfl (fun w' hw => X.lss rfl rfl) hS2 ?_
        refine D.va 13 rfl (by kernel_rfl) (fun _ _ _ h => h) rfl (fun w' hw => X.pickF rfl (by conv => lhs; whnf)) hS2 ?_
        refine D.va 14 rfl (by kernel_rfl) (fun _ _ _ h => h) rfl (fun w' hw => X.assign (by conv => lhs; whnf)) hS2 ?_
        refine D.done (by kernel_rfl) ?_
        -- cond
        refine J.dec rfl (fun h2 => ?_) (fun h2 => ?_)
        · rw [if_pos h2] at heq
          -- t92
          refine J.seq ?_
          refine J.region ?_
          refine L.va rfl (X.move (by conv => lhs; whnf)) ?_
          refine L.va rfl (X.move (by conv => lhs; whnf)) ?_
          refine L.va rfl (X.indexAddrn (j := 0) rfl rfl Try.underlying78 sz_77 (by first | exact Option.some_ne_none _ | exact hAx | exact hAy) (by omega)) ?_
          refine L.va rfl (X.fieldP rfl Try.underlying77 rfl sz_73 (by decide) (by first | exact Option.some_ne_none _ | exact hAx | exact hAy)) ?_
          refine L.va rfl (X.load rfl sc_73 (ry _ he5)) ?_
          refine L.va rfl (X.build (l := [_, _]) (Evs.cons (by conv => lhs; whnf) (Evs.cons (by conv => lhs; whnf) Evs.nil)) (bld_run Try.underlying83 (bp_83 Try.underlying83) zr_83 rfl)) ?_
          -- buildSlice
          refine L.bslice1 (l := [_, _]) rfl rfl rfl Try.underlying79 sz_83 zr_83 rfl ?_
          intro b6 w6 hb6 hs6 hk6 he6
          have z6 := ((he5).trans he6).le
          -- append
          refine L.appendV (q := out.length + 1) (ys := (out ++ [(y.key, 2)]).flatMap chV) rfl rfl rfl Try.underlying79 el_83 ((ho.ext (he5)).ext he6) ((blk_readsN (sz := 2) (q := 1) (l := [.int .u64 y.key, .int .i64 2]) hk6 hk6.lt rfl)) (by first | rfl | exact strs_ones _ | assumption) (by omega) (by simp) (by unfold maxLen; omega) (by omega) ?_
          intro o7 c7 w7 ho7 hg7 hb7 hor7
          refine L.va rfl (X.assign (by conv => lhs; whnf)) ?_
          refine L.nil ?_
          refine J.region ?_
          refine L.va rfl (X.move (by conv => lhs; whnf)) ?_
          refine L.va rfl ((by first | exact X.sliceFromn (i := 1) rfl rfl Try.underlying78 sz_77 (by omega) | exact X.sliceFrom rfl rfl Try.underlying78 sz_77 (by omega))) ?_
          refine L.va rfl (X.assign (by conv => lhs; whnf)) ?_
          refine L.nil ?_
          -- loopend
          have he7 : Ext w w7 := Below.trans ((he.trans he5).trans he6) hb7
          have hra7 := ((hra.low (Below.mono ((he5).trans he6) (by omega)) (Nat.le_refl _)).low (Below.mono hb7 hN) (Nat.le_refl _))
          refine ⟨((A, c, x :: a), (if d = 1 then B else B.map (·.add (1 * 4)), d - 1, b), (o7, c7, out ++ [(y.key, 2)])), At3 (rfl) (at_slice rfl (by simp)) (at_slice rfl (by simp)), (by (iterate 59 refine Agr.lk rfl ?_); exact Agr.lk rfl (Agr.hav rfl Agr.rfl')), ?_⟩
          refine ⟨⟨hra7, hca, ((hrtb.low (Below.mono ((he5).trans he6) (by omega)) (Nat.le_refl _)).low (Below.mono hb7 hN) (Nat.le_refl _)), by dsimp only; omega, ma, fun z hz => mb z (by simp [hz]), by simpa using ho7, he7, by dsimp only; rw [List.append_assoc]; exact heq, by dsimp only; simp; omega⟩, by dsimp only; simp⟩
        · rw [if_neg h2] at heq
          -- until
          refine J.cut (X := Option Addr × Nat × List (Int × Int)) [6, 23, 24, 25, 26, 27, 28, 29, 30, 31, 32, 33, 34, 35, 36, 37, 38] (fun z => [(6, .slice z.1 z.2.2.length z.2.1)]) (fun z w' => w'.ownsRow w.heap.size 83 2 (.slice z.1 z.2.2.length z.2.1) z.2.2.length (z.2.2.flatMap chV) ∧ Below w.heap.size w5 w' ∧ z.2.2 = out ++ (if sm x y = true then [] else [(x.key, 3)])) ?_ ?_
          · refine J.seq ?_
            -- draw
            -- t25
            -- t28
            refine J.quiet mixed (by kernel_rfl) ?_
            refine Qt.va rfl (fun w' hw => X.move (by conv => lhs; whnf)) ?_
            refine Qt.va rfl (fun w' hw => X.indexAddrn (j := 0) rfl rfl Try.underlying78 sz_77 (by first | exact Option.some_ne_none _ | exact hAx | exact hAy) (by omega)) ?_
            refine Qt.va rfl (fun w' hw => X.loadRow (cs := x.vals) rfl (hra.low (Below.mono (he5.trans hw) (by omega)) (Nat.le_refl _)) (fun r u hu => flat_row (i := 0) (l := x :: a) ce_len rfl r u hu) (Nat.zero_lt_succ _) Try.underlying77 rfl (by kernel_rfl)) ?_
            refine Qt.va rfl (fun w' hw => X.move (by conv => lhs; whnf)) ?_
            refine Qt.va rfl (fun w' hw => X.indexAddrn (j := 0) rfl rfl Try.underlying78 sz_77 (by first | exact Option.some_ne_none _ | exact hAx | exact hAy) (by omega)) ?_
            refine Qt.va rfl (fun w' hw => X.loadRow (cs := y.vals) rfl (hrb.low (Below.mono (he5.trans hw) (by omega)) (Nat.le_refl _)) (fun r u hu => flat_row (i := 0) (l := y :: b) ce_len rfl r u hu) (Nat.zero_lt_succ _) Try.underlying77 rfl (by kernel_rfl)) ?_
            -- callfn bushel/agg.Same
            refine Qt.call rfl en_99 rfl (fun w' hw => calls_ext hw (hsm x (ma x (by simp)) y (mb y (by simp)) w' ((he.trans he5).trans hw))) ?_
            refine Qt.va rfl (fun w' hw => X.not rfl) ?_
            refine Qt.nil (fun w6 hq => ?_)
            -- cond
            have hE := he5.trans hq
            cases hs : sm x y
            · refine J.iteT rfl ?_
              have hB6 : Below w.heap.size w5 w6 := Below.mono hq (by have := he5.le; omega)
              -- t35
              refine J.region ?_
              refine L.va rfl (X.move (by conv => lhs; whnf)) ?_
              refine L.va rfl (X.move (by conv => lhs; whnf)) ?_
              refine L.va rfl (X.indexAddrn (j := 0) rfl rfl Try.underlying78 sz_77 (by first | exact Option.some_ne_none _ | exact hAx | exact hAy) (by omega)) ?_
              refine L.va rfl (X.fieldP rfl Try.underlying77 rfl sz_73 (by decide) (by first | exact Option.some_ne_none _ | exact hAx | exact hAy)) ?_
              refine L.va rfl (X.load rfl sc_73 (rx _ hE)) ?_
              refine L.va rfl (X.build (l := [_, _]) (Evs.cons (by conv => lhs; whnf) (Evs.cons (by conv => lhs; whnf) Evs.nil)) (bld_run Try.underlying83 (bp_83 Try.underlying83) zr_83 rfl)) ?_
              -- buildSlice
              refine L.bslice1 (l := [_, _]) rfl rfl rfl Try.underlying79 sz_83 zr_83 rfl ?_
              intro b8 w8 hb8 hs8 hk8 he8
              have z8 := (hE.trans he8).le
              -- append
              refine L.appendV (q := out.length + 1) (ys := (out ++ [(x.key, 3)]).flatMap chV) rfl rfl rfl Try.underlying79 el_83 ((ho.ext hE).ext he8) ((blk_readsN (sz := 2) (q := 1) (l := [.int .u64 x.key, .int .i64 3]) hk8 hk8.lt rfl)) (by first | rfl | exact strs_ones _ | assumption) (by omega) (by simp) (by unfold maxLen; omega) (by omega) ?_
              intro o9 c9 w9 ho9 hg9 hb9 hor9
              refine L.va rfl (X.assign (by conv => lhs; whnf)) ?_
              refine L.nil ?_
              -- cutend
              refine ⟨(o9, c9, out ++ [(x.key, 3)]), At1 (at_slice rfl (by simp)), (by (iterate 17 refine Agr.lk rfl ?_); exact Agr.rfl'), ?_⟩
              refine ⟨by simpa using ho9, (hB6.trans (Below.mono he8 (by have := hE.le; omega))).trans hb9, by rw [if_neg (by decide)]⟩
            · refine J.iteF rfl ?_
              refine J.skip ?_
              -- cutend
              refine ⟨(oA, oc, out), At1 (by first | rfl | exact at_int rfl (by omega) | exact at_slice rfl (by omega) | exact at_int rfl (by simp)), (by (iterate 8 refine Agr.lk rfl ?_); exact Agr.rfl'), ?_⟩
              exact ⟨ho.ext hE, Below.mono hq (by have := he5.le; omega), by rw [if_pos rfl, List.append_nil]⟩
          · rintro ⟨o9, c9, out9⟩ g w9 ⟨ho9, hB9, hout⟩
            dsimp only at ho9 hout
            subst hout
            have z9 := hB9.size
            -- draw
            refine J.quiet mixed (by kernel_rfl) ?_
            refine Qt.va rfl (fun w' hw => X.move (by conv => lhs; whnf)) ?_
            refine Qt.va rfl (fun w' hw => (by first | exact X.sliceFromn (i := 1) rfl rfl Try.underlying78 sz_77 (by omega) | exact X.sliceFrom rfl rfl Try.underlying78 sz_77 (by omega))) ?_
            refine Qt.va rfl (fun w' hw => X.move (by conv => lhs; whnf)) ?_
            refine Qt.va rfl (fun w' hw => (by first | exact X.sliceFromn (i := 1) rfl rfl Try.underlying78 sz_77 (by omega) | exact X.sliceFrom rfl rfl Try.underlying78 sz_77 (by omega))) ?_
            refine Qt.va rfl (fun w' hw => X.assign (by conv => lhs; whnf)) ?_
            refine Qt.va rfl (fun w' hw => X.assign (by conv => lhs; whnf)) ?_
            refine Qt.nil (fun w10 hq => ?_)
            -- loopend
            refine ⟨((if c = 1 then A else A.map (·.add (1 * 4)), c - 1, a), (if d = 1 then B else B.map (·.add (1 * 4)), d - 1, b), (o9, c9, out ++ (if sm x y = true then [] else [(x.key, 3)]))), At3 (at_slice rfl (by simp)) (at_slice rfl (by simp)) (rfl), (by (iterate 6 refine Agr.lk rfl ?_); refine Agr.lk rfl ?_; refine Agr.hav rfl ?_; (iterate 47 refine Agr.lk rfl ?_); exact Agr.lk rfl (Agr.hav rfl Agr.rfl')), ?_⟩
            have hLow : ∀ {A' : Option Addr} {n' : Nat} {xs : List Value}, Reads w3 N 4 A' n' xs → Reads w10 N 4 A' n' xs := fun h => ((h.low (Below.mono he5 (by omega)) (Nat.le_refl _)).low (Below.mono hB9 hN) (Nat.le_refl _)).low (Below.mono hq (by have := he5.le; omega)) (Nat.le_refl _)
            have he10 : Ext w w10 := (Below.trans (he.trans he5) hB9).trans (Below.mono hq (by have := he5.le; omega))
            have hll : (out ++ (if sm x y = true then [] else [(x.key, (3 : Int))])).length ≤ out.length + 1 := by split <;> simp
            refine ⟨⟨hLow hrta, by dsimp only; omega, hLow hrtb, by dsimp only; omega, fun z hz => ma z (by simp [hz]), fun z hz => mb z (by simp [hz]), ho9.ext hq, he10, by dsimp only; rw [List.append_assoc]; exact heq, by dsimp only; omega⟩, by dsimp only; simp; omega⟩
end Go.Proofs.Ytlohbkcedpkjaaa
