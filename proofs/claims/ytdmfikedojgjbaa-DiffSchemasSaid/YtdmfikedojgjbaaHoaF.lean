/-
  The logic's sixth part: stores into rows of the call's own; arrays.
-/
import Derived.Test.YtdmfikedojgjbaaHoaE
namespace Go.Proofs.Ytdmfikedojgjbaa.H
open Go.RowKit Go.Proofs.Ytdmfikedojgjbaa
set_option linter.unusedSimpArgs false
set_option linter.unusedVariables false
section
variable {P : Program} {n : Nat} {ops rest : List Oper} {Q : Exit → Fr → World → Prop} {f : Fr} {w w' : World} {d : Option Tmp} {ty : TypeId} {pos : String} {aft : Array Edge} {g : Option (Nat × Bool)} {x y z o : Operand} {v u p : Value} {t e tx tz : TypeId}
theorem X.indexArr1n {ρ : Operand → Value} {b o q j : Nat} {k : IntKind} (hx : ρ x = .pointer (some ⟨b, o, none⟩)) (hy : ρ y = .int k (j : Int)) (ht : P.underlying t = some (.array q e)) (hs : Siz P e 1) (hj : j < q) : (execOp ρ ⟨d, .indexAddr t x y, ty, pos, aft, g⟩).run P w = .ok (.value (pA (some ⟨b, o, none⟩) j)) w := by
  have := X.indexArrn (P := P) (w := w) (d := d) (ty := ty) (pos := pos) (aft := aft) (g := g) hx hy ht hs hj
  rwa [Nat.mul_one] at this
/-- a store of one cell into a row of the call's own -/
theorem L.storeO {A : Option Addr} {n' c j base size : Nat} {xs : List Value} (hg : wn ops f g = true) (hx : ev f x = pA A j) (hy : ev f y = v) (h1 : v.oneCell' = true) (hz : Siz P t 1) (hown : w.ownsRow base e size (.slice A n' c) n' xs) (hj : j < n' * size)
    (h : ∀ w', w'.ownsRow base e size (.slice A n' c) n' (xs.set j v) → w.grownBy w' (Value.ownBlock (.slice A n' c)) → Below base w w' → w'.heap.size = w.heap.size → L P n ops Q rest (putO f d undef) w') : L P n ops Q (⟨d, .store t x y, ty, pos, aft, g⟩ :: rest) f w := by
  have hn : 0 < n' := Nat.pos_of_ne_zero (fun h0 => by subst h0; simp at hj)
  obtain ⟨b, cap, hA, hb, hlt⟩ := hown.form hn
  injection hA with hA _ hc
  subst hA hc
  obtain ⟨s1, s2⟩ := hown.stored j v
  have hcell : (w.cell? ⟨b, j, none⟩).isSome = true := by
    rw [hown.cellAt j hj, List.getElem?_eq_getElem (by rw [hown.1]; exact hj)]; rfl
  refine L.skip hg ?_ (h (w.setCell ⟨b, j, none⟩ v) s1 s2 ((Below.refl _ _).setCell hb _) (by simp [World.setCell]))
  have hcs : v.cells = #[v] := by cases v <;> first | rfl | cases h1
  have hth : w.there b j #[v].size := fun i hi => by
    have : i = 0 := by simpa using hi
    subst this
    exact ⟨hcell, hown.frozenAt j⟩
  obtain ⟨inf, hinf, hsz⟩ := hz
  have hrun := run_storeVar_mid (P := P) w b j t #[v] hth (by rw [hinf]; simp [hsz]) (by simp [h1])
  have e1 : (storeVar t ⟨b, j, none⟩ v).run P w = (storeVar t ⟨b, j, none⟩ (.agg #[v])).run P w := by
    unfold storeVar
    rw [hcs, show (Value.agg #[v]).cells = #[v] from rfl]
  have hx' : ev f x = .pointer (some ⟨b, j, none⟩) := by rw [hx]; simp [pA, Addr.add_mid]
  simp only [execOp, Instr.storeAt, hx', hy, Instr.sureAddr, Sem.run_bind, Sem.run_pure, Result.andThen_ok]
  rw [e1, hrun]
  rfl
theorem at_bool {k : Nat} {a b : Bool} (h : f k = .bool a) (e : a = b) : f k = .bool b := by rw [h, e]
theorem nums_set' (k : IntKind) (zs : List Int) (i : Nat) (z : Int) : (nums k zs).set i (.int k z) = nums k (zs.set i z) := by
  unfold nums
  rw [List.map_set]
/-- the same of a number -/
theorem L.storeON {A : Option Addr} {n' c j base : Nat} {k : IntKind} {zs : List Int} {m : Int} (hg : wn ops f g = true) (hx : ev f x = pA A j) (hy : ev f y = .int k m) (hz : Siz P t 1) (hown : w.ownsRow base e 1 (.slice A n' c) n' (nums k zs)) (hj : j < n')
    (h : ∀ w', w'.ownsRow base e 1 (.slice A n' c) n' (nums k (zs.set j m)) → w.grownBy w' (Value.ownBlock (.slice A n' c)) → Below base w w' → w'.heap.size = w.heap.size → L P n ops Q rest (putO f d undef) w') : L P n ops Q (⟨d, .store t x y, ty, pos, aft, g⟩ :: rest) f w := by
  refine L.storeO hg hx hy rfl hz hown (by omega) ?_
  rw [nums_set']
  exact h
end
end Go.Proofs.Ytdmfikedojgjbaa.H
