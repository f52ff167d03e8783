/-
  Appends of bytes, and bytes made, as the elder walks meet them.
-/
import Derived.Test.YtlohbkcedpkjaaaDoorBase
namespace Go.Proofs.YtlohbkcedpkjaaaDoor
set_option maxRecDepth 100000
open Go.RowKit
section
variable {w : World} {ops : Array Oper} {rest : List Oper} {o : Oper} {a : Act} {Q : Exit → Act → World → Prop}
/-- append of bytes onto bytes of the call's own -/
theorem wpl_bytes (hw : Region.wanted o (yielded ops a.tmps) = true) (s x : Operand)
    (ho : o.op = .call { callee := .builtin .append, args := #[s, x], argTypes := #[23, 23] })
    (base : Nat) (v : Value) (n : Nat) (xs : List Int) (hs : a.eval s = v) (hown : w.ownsRow base 5 1 v n (nums .u8 xs))
    (B : Nat) (A : Option Addr) (m c : Nat) (zs : List Int) (hx : a.eval x = .slice A m c) (hr : Reads w B 1 A m (nums .u8 zs))
    (hlen : n + m ≤ 140737488355328) (hbase : base ≤ w.heap.size)
    (h : ∀ A' c' w', w'.ownsRow base 5 1 (.slice A' (n + m) c') (n + m) (nums .u8 (xs ++ zs)) → w.grownBy w' v.ownBlock → Below base w w' → (Value.ownBlock (.slice A' (n + m) c') = v.ownBlock ∨ Value.ownBlock (.slice A' (n + m) c') = some w.heap.size) →
      wpList Tryd.prog ops Q rest (a.put o.dst (.slice A' (n + m) c')) w') : wpList Tryd.prog ops Q (o :: rest) a w := by
  refine wpl_append hw s x 23 ho 5 (.int .u8 0) 1 1 Tryd.underlying23 (by kernel_rfl) rfl (by decide) base v n _ hs hown B A m c _ hx hr (nums_one _ _) (by unfold maxLen; omega) (by omega) hbase ?_
  rw [nums_append]
  exact h
end
theorem make_bytes (n : Nat) (hn : n ≤ 281474976710656) (w : World) :
    (Instr.makeSlice 23 (.int .i64 (n : Int)) (.int .i64 (n : Int))).run Tryd.prog w = .ok (.slice (some ⟨w.heap.size, 0, none⟩) n n) (w.alloc (.cells (nums .u8 (List.replicate n 0)).toArray 5)) := by
  have h := run_make_row' (P := Tryd.prog) 23 5 (.int .u8 0) 1 Tryd.underlying23 (by kernel_rfl) rfl .i64 .i64 n (by omega) (by omega) w
  rw [h]
  congr 3
  apply Array.ext'
  rw [toList_madeCells_one]
  simp [nums]
theorem make_cap (c : Nat) (hc : c ≤ 281474976710656) (w : World) :
    (Instr.makeSlice 23 (.int .i64 0) (.int .i64 (c : Int))).run Tryd.prog w = .ok (.slice (some ⟨w.heap.size, 0, none⟩) 0 c) (w.alloc (.cells (nums .u8 (List.replicate c 0)).toArray 5)) := by
  have hinfo : (Tryd.prog.info? 5).map (fun i => (i.zero, i.size, i.bytes)) = some (some (.int .u8 0), 1, 1) := by kernel_rfl
  obtain ⟨i, hi, hz, hs, hb⟩ := info_parts hinfo
  have h := run_make_rowN (P := Tryd.prog) 23 5 i (.int .u8 0) Tryd.underlying23 hi hz .i64 .i64 0 c (Nat.zero_le _) (by rw [hb]; omega) (by omega) w
  rw [hs, Nat.mul_one] at h
  refine h.trans ?_
  congr 3
  apply Array.ext'
  rw [show (Value.int IntKind.u8 0).cells = #[.int .u8 0] from rfl, toList_madeCells_one]
  simp [nums]
end Go.Proofs.YtlohbkcedpkjaaaDoor
