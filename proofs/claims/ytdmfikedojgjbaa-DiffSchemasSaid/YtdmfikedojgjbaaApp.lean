/-
  Appends onto rows of the call's own, as this seat's walks meet them: the result is spelled as a slice; a guarded operation fits too. Bytes, and other numbers.
-/
import Derived.Test.YtdmfikedojgjbaaWords
namespace Go.Proofs.Ytdmfikedojgjbaa
set_option maxRecDepth 100000
open Go.RowKit

theorem ownsRow_slice {w : World} {base : Nat} {e : TypeId} {size : Nat} {v : Value} {n : Nat} {xs : List Value} (h : w.ownsRow base e size v n xs) : ∃ A c, v = .slice A n c := by
  rcases h.2 with ⟨rfl, rfl⟩ | ⟨g, cap, cur, rfl, _⟩
  · exact ⟨none, 0, rfl⟩
  · exact ⟨_, cap, rfl⟩
theorem below_grown {base : Nat} {e : TypeId} {size : Nat} {v : Value} {n : Nat} {xs : List Value} {w w' : World} (h : w.ownsRow base e size v n xs) (hg : w.grownBy w' v.ownBlock) (hb : base ≤ w.heap.size) : Below base w w' :=
  (Below.refl _ _).grown hg hb fun k hk => (h.lt k hk).1

section
variable {P : Program} {w : World} {ops : Array Oper} {rest : List Oper} {o : Oper} {a : Act} {Q : Exit → Act → World → Prop}
theorem wpl_append (hw : Region.wanted o (yielded ops a.tmps) = true) (s x : Operand) (t : TypeId)
    (ho : o.op = .call { callee := .builtin .append, args := #[s, x], argTypes := #[t, t] })
    (e : TypeId) (z : Value) (size bytes : Nat) (ht : P.underlying t = some (.slice e)) (hi : (P.info? e).map (fun i => (i.zero, i.size, i.bytes)) = some (some z, size, bytes))
    (hzs : z.cells.size = size) (hsz : 0 < size)
    (base : Nat) (v : Value) (n : Nat) (xs : List Value) (hs : a.eval s = v) (hown : w.ownsRow base e size v n xs)
    (B : Nat) (A : Option Addr) (m c : Nat) (news : List Value) (hx : a.eval x = .slice A m c) (hr : Reads w B size A m news) (h1 : ∀ u ∈ news, u.oneCell' = true)
    (h63 : n + m ≤ maxLen) (hbytes : (n + m) * bytes ≤ 140737488355328) (hbase : base ≤ w.heap.size)
    (h : ∀ A' c' w', w'.ownsRow base e size (.slice A' (n + m) c') (n + m) (xs ++ news) → w.grownBy w' v.ownBlock → Below base w w' → (Value.ownBlock (.slice A' (n + m) c') = v.ownBlock ∨ Value.ownBlock (.slice A' (n + m) c') = some w.heap.size) →
      wpList P ops Q rest (a.put o.dst (.slice A' (n + m) c')) w') : wpList P ops Q (o :: rest) a w := by
  obtain ⟨i, hi0, hz, hs1, hb1⟩ := info_parts hi
  refine wpList_step fun K hK => ?_
  rw [if_pos hw]
  refine wp_append_any w s x t ho base e i z size bytes ht hi0 hz hs1 hb1 hzs hsz v n xs hs hown B A m c news hx hr h1 h63 hbytes hbase fun v' w' h2 h3 h4 => hK _ _ ?_
  obtain ⟨A', c', rfl⟩ := ownsRow_slice h2
  exact h A' c' w' h2 h3 (below_grown hown h3 hbase) h4
end
theorem nums_one (k : IntKind) (zs : List Int) : ∀ u ∈ nums k zs, u.oneCell' = true := by
  intro u hu
  simp only [nums, List.mem_map] at hu
  obtain ⟨z, _, rfl⟩ := hu
  rfl
theorem nums_append (k : IntKind) (xs ys : List Int) : nums k xs ++ nums k ys = nums k (xs ++ ys) := by simp [nums]
/-- an owned row reads -/
theorem own_reads {w : World} {base : Nat} {e : TypeId} {n c : Nat} {A : Option Addr} {xs : List Value} (h : w.ownsRow base e 1 (.slice A n c) n xs) : Reads w w.heap.size 1 A n xs := Reads.of_own h
theorem own_bd {w : World} {base : Nat} {e : TypeId} {size n c : Nat} {A : Option Addr} {xs : List Value} (h : w.ownsRow base e size (.slice A n c) n xs) : n ≤ c ∧ c ≤ maxLen := by
  rcases h.2 with ⟨h', rfl⟩ | ⟨g, cap, cur, h', _, _, h1, h2, _⟩
  · injection h' with _ _ h3
    subst h3
    exact ⟨Nat.le_refl _, Nat.zero_le _⟩
  · injection h' with _ _ h3
    subst h3
    exact ⟨h1, h2⟩
theorem own_cap (w : World) (base : Nat) (e : TypeId) (k : IntKind) (zs : List Int) (c g : Nat) (hg : g = w.heap.size) (hb : base ≤ g) (hn : c = zs.length) (hm : c ≤ maxLen) :
    (w.alloc (.cells (nums k zs).toArray e)).ownsRow base e 1 (.slice (some ⟨g, 0, none⟩) 0 c) 0 (nums k []) := by
  subst hn hg
  refine ⟨by simp [nums], .inr ⟨w.heap.size, zs.length, (nums k zs).toArray, rfl, hb, ?_, Nat.zero_le _, hm, by simp [nums], by simp [nums]⟩⟩
  show (w.heap.push _)[w.heap.size]? = _
  simp
theorem own_new (w : World) (base : Nat) (e : TypeId) (k : IntKind) (zs : List Int) (n g : Nat) (hg : g = w.heap.size) (hb : base ≤ g) (hn : n = zs.length) (hm : n ≤ maxLen) :
    (w.alloc (.cells (nums k zs).toArray e)).ownsRow base e 1 (.slice (some ⟨g, 0, none⟩) n n) n (nums k zs) := by
  subst hn hg
  refine ⟨by simp [nums], .inr ⟨w.heap.size, zs.length, (nums k zs).toArray, rfl, hb, ?_, Nat.le_refl _, hm, by simp [nums], ?_⟩⟩
  · show (w.heap.push _)[w.heap.size]? = _
    simp
  · rw [List.take_of_length_le (by simp [nums])]
theorem own_empty (W : World) (base : Nat) (e : TypeId) (g : Nat) (hg : g = W.heap.size) (hb : base ≤ g) : (W.alloc (.cells #[] e)).ownsRow base e 1 (.slice (some ⟨g, 0, none⟩) 0 0) 0 (nums .u8 []) :=
  own_new W base e .u8 [] 0 g hg hb rfl (Nat.zero_le _)
theorem reads_new (w : World) (l : List Value) (t : TypeId) (m : Nat × Nat) (n g B : Nat) (hg : g = w.heap.size) (hn : n = l.length) (hB : g < B) : Reads (w.alloc (.cells l.toArray t m)) B 1 (some ⟨g, 0, none⟩) n l := by
  subst hg
  exact (Reads.new w l t m n hn).more hB
end Go.Proofs.Ytdmfikedojgjbaa
