/-
  Facts on the types and functions of this seat, for the logic of YtfgkbghagklacaaDoorHoa.
-/
import Derived.Test.YtfgkbghagklacaaDoorHoaF
namespace Go.Proofs.YtfgkbghagklacaaDoor.H
open Go.RowKit Go.Proofs.YtfgkbghagklacaaDoor
theorem mixed : Tryd.prog.follows .mixedOrders = true := by kernel_rfl
theorem sc_2 : Scal Tryd.prog 2 := Scal.of Tryd.underlying2 rfl
theorem is_2 : (Tryd.prog.underlying 2).isSome = true := by rw [Tryd.underlying2]; rfl
theorem sz_2 : Siz Tryd.prog 2 1 := Siz.of (by kernel_rfl)
theorem zr_2 : Zer Tryd.prog 2 [.int .i64 (0)] := Zer.of (by kernel_rfl)
theorem el_2 : Elm Tryd.prog 2 (.int .i64 (0)) 1 8 := Elm.of (by kernel_rfl) rfl (by decide)
theorem sc_3 : Scal Tryd.prog 3 := Scal.of Tryd.underlying3 rfl
theorem is_3 : (Tryd.prog.underlying 3).isSome = true := by rw [Tryd.underlying3]; rfl
theorem sz_3 : Siz Tryd.prog 3 1 := Siz.of (by kernel_rfl)
theorem zr_3 : Zer Tryd.prog 3 [.int .i64 (0)] := Zer.of (by kernel_rfl)
theorem el_3 : Elm Tryd.prog 3 (.int .i64 (0)) 1 8 := Elm.of (by kernel_rfl) rfl (by decide)
theorem sc_4 : Scal Tryd.prog 4 := Scal.of Tryd.underlying4 rfl
theorem is_4 : (Tryd.prog.underlying 4).isSome = true := by rw [Tryd.underlying4]; rfl
theorem sz_4 : Siz Tryd.prog 4 1 := Siz.of (by kernel_rfl)
theorem zr_4 : Zer Tryd.prog 4 [.bool false] := Zer.of (by kernel_rfl)
theorem el_4 : Elm Tryd.prog 4 (.bool false) 1 1 := Elm.of (by kernel_rfl) rfl (by decide)
theorem sc_5 : Scal Tryd.prog 5 := Scal.of Tryd.underlying5 rfl
theorem is_5 : (Tryd.prog.underlying 5).isSome = true := by rw [Tryd.underlying5]; rfl
theorem sz_5 : Siz Tryd.prog 5 1 := Siz.of (by kernel_rfl)
theorem zr_5 : Zer Tryd.prog 5 [.int .u8 (0)] := Zer.of (by kernel_rfl)
theorem el_5 : Elm Tryd.prog 5 (.int .u8 (0)) 1 1 := Elm.of (by kernel_rfl) rfl (by decide)
theorem sc_6 : Scal Tryd.prog 6 := Scal.of Tryd.underlying6 rfl
theorem is_6 : (Tryd.prog.underlying 6).isSome = true := by rw [Tryd.underlying6]; rfl
theorem sz_6 : Siz Tryd.prog 6 1 := Siz.of (by kernel_rfl)
theorem zr_6 : Zer Tryd.prog 6 [.int .u8 (0)] := Zer.of (by kernel_rfl)
theorem el_6 : Elm Tryd.prog 6 (.int .u8 (0)) 1 1 := Elm.of (by kernel_rfl) rfl (by decide)
theorem is_7 : (Tryd.prog.underlying 7).isSome = true := by rw [Tryd.underlying7]; rfl
theorem sz_7 : Siz Tryd.prog 7 4 := Siz.of (by kernel_rfl)
theorem zr_7 : Zer Tryd.prog 7 [.int .i64 (0), .int .i64 (0), .bool false, .int .u8 (0)] := Zer.of (by kernel_rfl)
theorem el_7 : Elm Tryd.prog 7 (.agg #[.int .i64 (0), .int .i64 (0), .bool false, .int .u8 (0)]) 4 24 := Elm.of (by kernel_rfl) rfl (by decide)
theorem bp_7 {fs : Array Field} (h : Tryd.prog.underlying 7 = some (.struct fs)) : Plc Tryd.prog fs [(0, 1), (1, 1), (2, 1), (3, 1)] := by
  have e := h.symm.trans Tryd.underlying7
  injection e with e
  injection e with e
  subst e
  unfold Plc
  intro w
  kernel_rfl
theorem is_8 : (Tryd.prog.underlying 8).isSome = true := by rw [Tryd.underlying8]; rfl
theorem sz_8 : Siz Tryd.prog 8 4 := Siz.of (by kernel_rfl)
theorem zr_8 : Zer Tryd.prog 8 [.int .i64 (0), .int .i64 (0), .bool false, .int .u8 (0)] := Zer.of (by kernel_rfl)
theorem el_8 : Elm Tryd.prog 8 (.agg #[.int .i64 (0), .int .i64 (0), .bool false, .int .u8 (0)]) 4 24 := Elm.of (by kernel_rfl) rfl (by decide)
theorem bp_8 {fs : Array Field} (h : Tryd.prog.underlying 8 = some (.struct fs)) : Plc Tryd.prog fs [(0, 1), (1, 1), (2, 1), (3, 1)] := by
  have e := h.symm.trans Tryd.underlying8
  injection e with e
  injection e with e
  subst e
  unfold Plc
  intro w
  kernel_rfl
theorem sc_9 : Scal Tryd.prog 9 := Scal.of Tryd.underlying9 rfl
theorem is_9 : (Tryd.prog.underlying 9).isSome = true := by rw [Tryd.underlying9]; rfl
theorem sz_9 : Siz Tryd.prog 9 1 := Siz.of (by kernel_rfl)
theorem zr_9 : Zer Tryd.prog 9 [.string ⟨#[]⟩] := Zer.of (by kernel_rfl)
theorem el_9 : Elm Tryd.prog 9 (.string ⟨#[]⟩) 1 16 := Elm.of (by kernel_rfl) rfl (by decide)
theorem sc_10 : Scal Tryd.prog 10 := Scal.of Tryd.underlying10 rfl
theorem is_10 : (Tryd.prog.underlying 10).isSome = true := by rw [Tryd.underlying10]; rfl
theorem sz_10 : Siz Tryd.prog 10 1 := Siz.of (by kernel_rfl)
theorem zr_10 : Zer Tryd.prog 10 [.string ⟨#[]⟩] := Zer.of (by kernel_rfl)
theorem el_10 : Elm Tryd.prog 10 (.string ⟨#[]⟩) 1 16 := Elm.of (by kernel_rfl) rfl (by decide)
theorem sc_11 : Scal Tryd.prog 11 := Scal.of Tryd.underlying11 rfl
theorem is_11 : (Tryd.prog.underlying 11).isSome = true := by rw [Tryd.underlying11]; rfl
theorem sz_11 : Siz Tryd.prog 11 1 := Siz.of (by kernel_rfl)
theorem zr_11 : Zer Tryd.prog 11 [.string ⟨#[]⟩] := Zer.of (by kernel_rfl)
theorem el_11 : Elm Tryd.prog 11 (.string ⟨#[]⟩) 1 16 := Elm.of (by kernel_rfl) rfl (by decide)
theorem sc_12 : Scal Tryd.prog 12 := Scal.of Tryd.underlying12 rfl
theorem is_12 : (Tryd.prog.underlying 12).isSome = true := by rw [Tryd.underlying12]; rfl
theorem sz_12 : Siz Tryd.prog 12 1 := Siz.of (by kernel_rfl)
theorem zr_12 : Zer Tryd.prog 12 [.int .u64 (0)] := Zer.of (by kernel_rfl)
theorem el_12 : Elm Tryd.prog 12 (.int .u64 (0)) 1 8 := Elm.of (by kernel_rfl) rfl (by decide)
theorem is_13 : (Tryd.prog.underlying 13).isSome = true := by rw [Tryd.underlying13]; rfl
theorem sz_13 : Siz Tryd.prog 13 2 := Siz.of (by kernel_rfl)
theorem zr_13 : Zer Tryd.prog 13 [.string ⟨#[]⟩, .int .u64 (0)] := Zer.of (by kernel_rfl)
theorem el_13 : Elm Tryd.prog 13 (.agg #[.string ⟨#[]⟩, .int .u64 (0)]) 2 24 := Elm.of (by kernel_rfl) rfl (by decide)
theorem bp_13 {fs : Array Field} (h : Tryd.prog.underlying 13 = some (.struct fs)) : Plc Tryd.prog fs [(0, 1), (1, 1)] := by
  have e := h.symm.trans Tryd.underlying13
  injection e with e
  injection e with e
  subst e
  unfold Plc
  intro w
  kernel_rfl
theorem is_14 : (Tryd.prog.underlying 14).isSome = true := by rw [Tryd.underlying14]; rfl
theorem sz_14 : Siz Tryd.prog 14 2 := Siz.of (by kernel_rfl)
theorem zr_14 : Zer Tryd.prog 14 [.string ⟨#[]⟩, .int .u64 (0)] := Zer.of (by kernel_rfl)
theorem el_14 : Elm Tryd.prog 14 (.agg #[.string ⟨#[]⟩, .int .u64 (0)]) 2 24 := Elm.of (by kernel_rfl) rfl (by decide)
theorem bp_14 {fs : Array Field} (h : Tryd.prog.underlying 14 = some (.struct fs)) : Plc Tryd.prog fs [(0, 1), (1, 1)] := by
  have e := h.symm.trans Tryd.underlying14
  injection e with e
  injection e with e
  subst e
  unfold Plc
  intro w
  kernel_rfl
theorem sc_15 : Scal Tryd.prog 15 := Scal.of Tryd.underlying15 rfl
theorem is_15 : (Tryd.prog.underlying 15).isSome = true := by rw [Tryd.underlying15]; rfl
theorem sz_15 : Siz Tryd.prog 15 1 := Siz.of (by kernel_rfl)
theorem zr_15 : Zer Tryd.prog 15 [.pointer none] := Zer.of (by kernel_rfl)
theorem el_15 : Elm Tryd.prog 15 (.pointer none) 1 8 := Elm.of (by kernel_rfl) rfl (by decide)
theorem sc_16 : Scal Tryd.prog 16 := Scal.of Tryd.underlying16 rfl
theorem is_16 : (Tryd.prog.underlying 16).isSome = true := by rw [Tryd.underlying16]; rfl
theorem sz_16 : Siz Tryd.prog 16 1 := Siz.of (by kernel_rfl)
theorem zr_16 : Zer Tryd.prog 16 [.pointer none] := Zer.of (by kernel_rfl)
theorem el_16 : Elm Tryd.prog 16 (.pointer none) 1 8 := Elm.of (by kernel_rfl) rfl (by decide)
theorem sc_17 : Scal Tryd.prog 17 := Scal.of Tryd.underlying17 rfl
theorem is_17 : (Tryd.prog.underlying 17).isSome = true := by rw [Tryd.underlying17]; rfl
theorem sz_17 : Siz Tryd.prog 17 1 := Siz.of (by kernel_rfl)
theorem zr_17 : Zer Tryd.prog 17 [.pointer none] := Zer.of (by kernel_rfl)
theorem el_17 : Elm Tryd.prog 17 (.pointer none) 1 8 := Elm.of (by kernel_rfl) rfl (by decide)
theorem is_18 : (Tryd.prog.underlying 18).isSome = true := by rw [Tryd.underlying18]; rfl
theorem sz_18 : Siz Tryd.prog 18 1 := Siz.of (by kernel_rfl)
theorem zr_18 : Zer Tryd.prog 18 [.pointer none] := Zer.of (by kernel_rfl)
theorem el_18 : Elm Tryd.prog 18 (.agg #[.pointer none]) 1 8 := Elm.of (by kernel_rfl) rfl (by decide)
theorem bp_18 {fs : Array Field} (h : Tryd.prog.underlying 18 = some (.struct fs)) : Plc Tryd.prog fs [(0, 1)] := by
  have e := h.symm.trans Tryd.underlying18
  injection e with e
  injection e with e
  subst e
  unfold Plc
  intro w
  kernel_rfl
theorem is_19 : (Tryd.prog.underlying 19).isSome = true := by rw [Tryd.underlying19]; rfl
theorem sz_19 : Siz Tryd.prog 19 1 := Siz.of (by kernel_rfl)
theorem zr_19 : Zer Tryd.prog 19 [.pointer none] := Zer.of (by kernel_rfl)
theorem el_19 : Elm Tryd.prog 19 (.agg #[.pointer none]) 1 8 := Elm.of (by kernel_rfl) rfl (by decide)
theorem bp_19 {fs : Array Field} (h : Tryd.prog.underlying 19 = some (.struct fs)) : Plc Tryd.prog fs [(0, 1)] := by
  have e := h.symm.trans Tryd.underlying19
  injection e with e
  injection e with e
  subst e
  unfold Plc
  intro w
  kernel_rfl
theorem sc_21 : Scal Tryd.prog 21 := Scal.of Tryd.underlying21 rfl
theorem is_21 : (Tryd.prog.underlying 21).isSome = true := by rw [Tryd.underlying21]; rfl
theorem sz_21 : Siz Tryd.prog 21 1 := Siz.of (by kernel_rfl)
theorem zr_21 : Zer Tryd.prog 21 [.int .i32 (0)] := Zer.of (by kernel_rfl)
theorem el_21 : Elm Tryd.prog 21 (.int .i32 (0)) 1 4 := Elm.of (by kernel_rfl) rfl (by decide)
theorem sc_22 : Scal Tryd.prog 22 := Scal.of Tryd.underlying22 rfl
theorem is_22 : (Tryd.prog.underlying 22).isSome = true := by rw [Tryd.underlying22]; rfl
theorem sz_22 : Siz Tryd.prog 22 1 := Siz.of (by kernel_rfl)
theorem zr_22 : Zer Tryd.prog 22 [.slice none 0 0] := Zer.of (by kernel_rfl)
theorem el_22 : Elm Tryd.prog 22 (.slice none 0 0) 1 24 := Elm.of (by kernel_rfl) rfl (by decide)
theorem sc_23 : Scal Tryd.prog 23 := Scal.of Tryd.underlying23 rfl
theorem is_23 : (Tryd.prog.underlying 23).isSome = true := by rw [Tryd.underlying23]; rfl
theorem sz_23 : Siz Tryd.prog 23 1 := Siz.of (by kernel_rfl)
theorem zr_23 : Zer Tryd.prog 23 [.int .u32 (0)] := Zer.of (by kernel_rfl)
theorem el_23 : Elm Tryd.prog 23 (.int .u32 (0)) 1 4 := Elm.of (by kernel_rfl) rfl (by decide)
theorem is_28 : (Tryd.prog.underlying 28).isSome = true := by rw [Tryd.underlying28]; rfl
theorem sz_28 : Siz Tryd.prog 28 4 := Siz.of (by kernel_rfl)
theorem zr_28 : Zer Tryd.prog 28 [.int .u8 (0), .int .u8 (0), .int .u8 (0), .int .u8 (0)] := Zer.of (by kernel_rfl)
theorem el_28 : Elm Tryd.prog 28 (.agg #[.int .u8 (0), .int .u8 (0), .int .u8 (0), .int .u8 (0)]) 4 4 := Elm.of (by kernel_rfl) rfl (by decide)
theorem sc_33 : Scal Tryd.prog 33 := Scal.of Tryd.underlying33 rfl
theorem is_33 : (Tryd.prog.underlying 33).isSome = true := by rw [Tryd.underlying33]; rfl
theorem sz_33 : Siz Tryd.prog 33 1 := Siz.of (by kernel_rfl)
theorem zr_33 : Zer Tryd.prog 33 [.int .u64 (0)] := Zer.of (by kernel_rfl)
theorem el_33 : Elm Tryd.prog 33 (.int .u64 (0)) 1 8 := Elm.of (by kernel_rfl) rfl (by decide)
theorem is_34 : (Tryd.prog.underlying 34).isSome = true := by rw [Tryd.underlying34]; rfl
theorem sz_34 : Siz Tryd.prog 34 4 := Siz.of (by kernel_rfl)
theorem zr_34 : Zer Tryd.prog 34 [.int .i64 (0), .int .u64 (0), .int .u64 (0), .slice none 0 0] := Zer.of (by kernel_rfl)
theorem el_34 : Elm Tryd.prog 34 (.agg #[.int .i64 (0), .int .u64 (0), .int .u64 (0), .slice none 0 0]) 4 48 := Elm.of (by kernel_rfl) rfl (by decide)
theorem bp_34 {fs : Array Field} (h : Tryd.prog.underlying 34 = some (.struct fs)) : Plc Tryd.prog fs [(0, 1), (1, 1), (2, 1), (3, 1)] := by
  have e := h.symm.trans Tryd.underlying34
  injection e with e
  injection e with e
  subst e
  unfold Plc
  intro w
  kernel_rfl
theorem is_35 : (Tryd.prog.underlying 35).isSome = true := by rw [Tryd.underlying35]; rfl
theorem sz_35 : Siz Tryd.prog 35 4 := Siz.of (by kernel_rfl)
theorem zr_35 : Zer Tryd.prog 35 [.int .i64 (0), .int .u64 (0), .int .u64 (0), .slice none 0 0] := Zer.of (by kernel_rfl)
theorem el_35 : Elm Tryd.prog 35 (.agg #[.int .i64 (0), .int .u64 (0), .int .u64 (0), .slice none 0 0]) 4 48 := Elm.of (by kernel_rfl) rfl (by decide)
theorem bp_35 {fs : Array Field} (h : Tryd.prog.underlying 35 = some (.struct fs)) : Plc Tryd.prog fs [(0, 1), (1, 1), (2, 1), (3, 1)] := by
  have e := h.symm.trans Tryd.underlying35
  injection e with e
  injection e with e
  subst e
  unfold Plc
  intro w
  kernel_rfl
theorem sc_38 : Scal Tryd.prog 38 := Scal.of Tryd.underlying38 rfl
theorem is_38 : (Tryd.prog.underlying 38).isSome = true := by rw [Tryd.underlying38]; rfl
theorem sz_38 : Siz Tryd.prog 38 1 := Siz.of (by kernel_rfl)
theorem zr_38 : Zer Tryd.prog 38 [.int .i64 (0)] := Zer.of (by kernel_rfl)
theorem el_38 : Elm Tryd.prog 38 (.int .i64 (0)) 1 8 := Elm.of (by kernel_rfl) rfl (by decide)
theorem sc_45 : Scal Tryd.prog 45 := Scal.of Tryd.underlying45 rfl
theorem is_45 : (Tryd.prog.underlying 45).isSome = true := by rw [Tryd.underlying45]; rfl
theorem sz_45 : Siz Tryd.prog 45 1 := Siz.of (by kernel_rfl)
theorem zr_45 : Zer Tryd.prog 45 [.int .u64 (0)] := Zer.of (by kernel_rfl)
theorem el_45 : Elm Tryd.prog 45 (.int .u64 (0)) 1 8 := Elm.of (by kernel_rfl) rfl (by decide)
theorem sc_55 : Scal Tryd.prog 55 := Scal.of Tryd.underlying55 rfl
theorem is_55 : (Tryd.prog.underlying 55).isSome = true := by rw [Tryd.underlying55]; rfl
theorem sz_55 : Siz Tryd.prog 55 1 := Siz.of (by kernel_rfl)
theorem zr_55 : Zer Tryd.prog 55 [.slice none 0 0] := Zer.of (by kernel_rfl)
theorem el_55 : Elm Tryd.prog 55 (.slice none 0 0) 1 24 := Elm.of (by kernel_rfl) rfl (by decide)
theorem is_63 : (Tryd.prog.underlying 63).isSome = true := by rw [Tryd.underlying63]; rfl
theorem sz_63 : Siz Tryd.prog 63 16 := Siz.of (by kernel_rfl)
theorem zr_63 : Zer Tryd.prog 63 [.int .u32 (0), .int .u32 (0), .int .u32 (0), .int .u32 (0), .int .u32 (0), .int .u32 (0), .int .u32 (0), .int .u32 (0), .int .u32 (0), .int .u32 (0), .int .u32 (0), .int .u32 (0), .int .u32 (0), .int .u32 (0), .int .u32 (0), .int .u32 (0)] := Zer.of (by kernel_rfl)
theorem el_63 : Elm Tryd.prog 63 (.agg #[.int .u32 (0), .int .u32 (0), .int .u32 (0), .int .u32 (0), .int .u32 (0), .int .u32 (0), .int .u32 (0), .int .u32 (0), .int .u32 (0), .int .u32 (0), .int .u32 (0), .int .u32 (0), .int .u32 (0), .int .u32 (0), .int .u32 (0), .int .u32 (0)]) 16 64 := Elm.of (by kernel_rfl) rfl (by decide)
theorem is_64 : (Tryd.prog.underlying 64).isSome = true := by rw [Tryd.underlying64]; rfl
theorem sz_64 : Siz Tryd.prog 64 32 := Siz.of (by kernel_rfl)
theorem zr_64 : Zer Tryd.prog 64 [.int .u32 (0), .int .u32 (0), .int .u32 (0), .int .u32 (0), .int .u32 (0), .int .u32 (0), .int .u32 (0), .int .u32 (0), .int .u32 (0), .int .u32 (0), .int .u32 (0), .int .u32 (0), .int .u32 (0), .int .u32 (0), .int .u32 (0), .int .u32 (0), .int .u32 (0), .int .u32 (0), .int .u32 (0), .int .u32 (0), .int .u32 (0), .int .u32 (0), .int .u32 (0), .int .u32 (0), .int .u32 (0), .int .u32 (0), .int .u32 (0), .int .u32 (0), .int .u32 (0), .int .u32 (0), .int .u32 (0), .int .u32 (0)] := Zer.of (by kernel_rfl)
theorem el_64 : Elm Tryd.prog 64 (.agg #[.int .u32 (0), .int .u32 (0), .int .u32 (0), .int .u32 (0), .int .u32 (0), .int .u32 (0), .int .u32 (0), .int .u32 (0), .int .u32 (0), .int .u32 (0), .int .u32 (0), .int .u32 (0), .int .u32 (0), .int .u32 (0), .int .u32 (0), .int .u32 (0), .int .u32 (0), .int .u32 (0), .int .u32 (0), .int .u32 (0), .int .u32 (0), .int .u32 (0), .int .u32 (0), .int .u32 (0), .int .u32 (0), .int .u32 (0), .int .u32 (0), .int .u32 (0), .int .u32 (0), .int .u32 (0), .int .u32 (0), .int .u32 (0)]) 32 128 := Elm.of (by kernel_rfl) rfl (by decide)
theorem is_65 : (Tryd.prog.underlying 65).isSome = true := by rw [Tryd.underlying65]; rfl
theorem sz_65 : Siz Tryd.prog 65 32 := Siz.of (by kernel_rfl)
theorem zr_65 : Zer Tryd.prog 65 [.int .u32 (0), .int .u32 (0), .int .u32 (0), .int .u32 (0), .int .u32 (0), .int .u32 (0), .int .u32 (0), .int .u32 (0), .int .u32 (0), .int .u32 (0), .int .u32 (0), .int .u32 (0), .int .u32 (0), .int .u32 (0), .int .u32 (0), .int .u32 (0), .int .u32 (0), .int .u32 (0), .int .u32 (0), .int .u32 (0), .int .u32 (0), .int .u32 (0), .int .u32 (0), .int .u32 (0), .int .u32 (0), .int .u32 (0), .int .u32 (0), .int .u32 (0), .int .u32 (0), .int .u32 (0), .int .u32 (0), .int .u32 (0)] := Zer.of (by kernel_rfl)
theorem el_65 : Elm Tryd.prog 65 (.agg #[.int .u32 (0), .int .u32 (0), .int .u32 (0), .int .u32 (0), .int .u32 (0), .int .u32 (0), .int .u32 (0), .int .u32 (0), .int .u32 (0), .int .u32 (0), .int .u32 (0), .int .u32 (0), .int .u32 (0), .int .u32 (0), .int .u32 (0), .int .u32 (0), .int .u32 (0), .int .u32 (0), .int .u32 (0), .int .u32 (0), .int .u32 (0), .int .u32 (0), .int .u32 (0), .int .u32 (0), .int .u32 (0), .int .u32 (0), .int .u32 (0), .int .u32 (0), .int .u32 (0), .int .u32 (0), .int .u32 (0), .int .u32 (0)]) 32 128 := Elm.of (by kernel_rfl) rfl (by decide)
theorem sc_78 : Scal Tryd.prog 78 := Scal.of Tryd.underlying78 rfl
theorem is_78 : (Tryd.prog.underlying 78).isSome = true := by rw [Tryd.underlying78]; rfl
theorem sz_78 : Siz Tryd.prog 78 1 := Siz.of (by kernel_rfl)
theorem zr_78 : Zer Tryd.prog 78 [.pointer none] := Zer.of (by kernel_rfl)
theorem el_78 : Elm Tryd.prog 78 (.pointer none) 1 8 := Elm.of (by kernel_rfl) rfl (by decide)
theorem sc_80 : Scal Tryd.prog 80 := Scal.of Tryd.underlying80 rfl
theorem is_80 : (Tryd.prog.underlying 80).isSome = true := by rw [Tryd.underlying80]; rfl
theorem sz_80 : Siz Tryd.prog 80 1 := Siz.of (by kernel_rfl)
theorem zr_80 : Zer Tryd.prog 80 [.pointer none] := Zer.of (by kernel_rfl)
theorem el_80 : Elm Tryd.prog 80 (.pointer none) 1 8 := Elm.of (by kernel_rfl) rfl (by decide)
theorem is_83 : (Tryd.prog.underlying 83).isSome = true := by rw [Tryd.underlying83]; rfl
theorem sz_83 : Siz Tryd.prog 83 4 := Siz.of (by kernel_rfl)
theorem zr_83 : Zer Tryd.prog 83 [.pointer none, .pointer none, .pointer none, .string ⟨#[]⟩] := Zer.of (by kernel_rfl)
theorem el_83 : Elm Tryd.prog 83 (.agg #[.pointer none, .pointer none, .pointer none, .string ⟨#[]⟩]) 4 40 := Elm.of (by kernel_rfl) rfl (by decide)
theorem bp_83 {fs : Array Field} (h : Tryd.prog.underlying 83 = some (.struct fs)) : Plc Tryd.prog fs [(0, 1), (1, 1), (2, 1), (3, 1)] := by
  have e := h.symm.trans Tryd.underlying83
  injection e with e
  injection e with e
  subst e
  unfold Plc
  intro w
  kernel_rfl
theorem is_84 : (Tryd.prog.underlying 84).isSome = true := by rw [Tryd.underlying84]; rfl
theorem sz_84 : Siz Tryd.prog 84 4 := Siz.of (by kernel_rfl)
theorem zr_84 : Zer Tryd.prog 84 [.pointer none, .pointer none, .pointer none, .string ⟨#[]⟩] := Zer.of (by kernel_rfl)
theorem el_84 : Elm Tryd.prog 84 (.agg #[.pointer none, .pointer none, .pointer none, .string ⟨#[]⟩]) 4 40 := Elm.of (by kernel_rfl) rfl (by decide)
theorem bp_84 {fs : Array Field} (h : Tryd.prog.underlying 84 = some (.struct fs)) : Plc Tryd.prog fs [(0, 1), (1, 1), (2, 1), (3, 1)] := by
  have e := h.symm.trans Tryd.underlying84
  injection e with e
  injection e with e
  subst e
  unfold Plc
  intro w
  kernel_rfl
theorem is_85 : (Tryd.prog.underlying 85).isSome = true := by rw [Tryd.underlying85]; rfl
theorem is_86 : (Tryd.prog.underlying 86).isSome = true := by rw [Tryd.underlying86]; rfl
theorem is_87 : (Tryd.prog.underlying 87).isSome = true := by rw [Tryd.underlying87]; rfl
theorem sc_88 : Scal Tryd.prog 88 := Scal.of Tryd.underlying88 rfl
theorem is_88 : (Tryd.prog.underlying 88).isSome = true := by rw [Tryd.underlying88]; rfl
theorem sz_88 : Siz Tryd.prog 88 1 := Siz.of (by kernel_rfl)
theorem zr_88 : Zer Tryd.prog 88 [.int .u8 (0)] := Zer.of (by kernel_rfl)
theorem el_88 : Elm Tryd.prog 88 (.int .u8 (0)) 1 1 := Elm.of (by kernel_rfl) rfl (by decide)
theorem sc_89 : Scal Tryd.prog 89 := Scal.of Tryd.underlying89 rfl
theorem is_89 : (Tryd.prog.underlying 89).isSome = true := by rw [Tryd.underlying89]; rfl
theorem sz_89 : Siz Tryd.prog 89 1 := Siz.of (by kernel_rfl)
theorem zr_89 : Zer Tryd.prog 89 [.int .u8 (0)] := Zer.of (by kernel_rfl)
theorem el_89 : Elm Tryd.prog 89 (.int .u8 (0)) 1 1 := Elm.of (by kernel_rfl) rfl (by decide)
theorem sc_91 : Scal Tryd.prog 91 := Scal.of Tryd.underlying91 rfl
theorem is_91 : (Tryd.prog.underlying 91).isSome = true := by rw [Tryd.underlying91]; rfl
theorem sz_91 : Siz Tryd.prog 91 1 := Siz.of (by kernel_rfl)
theorem zr_91 : Zer Tryd.prog 91 [.pointer none] := Zer.of (by kernel_rfl)
theorem el_91 : Elm Tryd.prog 91 (.pointer none) 1 8 := Elm.of (by kernel_rfl) rfl (by decide)
theorem sc_92 : Scal Tryd.prog 92 := Scal.of Tryd.underlying92 rfl
theorem is_92 : (Tryd.prog.underlying 92).isSome = true := by rw [Tryd.underlying92]; rfl
theorem sz_92 : Siz Tryd.prog 92 1 := Siz.of (by kernel_rfl)
theorem zr_92 : Zer Tryd.prog 92 [.int .i32 (0)] := Zer.of (by kernel_rfl)
theorem el_92 : Elm Tryd.prog 92 (.int .i32 (0)) 1 4 := Elm.of (by kernel_rfl) rfl (by decide)
theorem sc_93 : Scal Tryd.prog 93 := Scal.of Tryd.underlying93 rfl
theorem is_93 : (Tryd.prog.underlying 93).isSome = true := by rw [Tryd.underlying93]; rfl
theorem sz_93 : Siz Tryd.prog 93 1 := Siz.of (by kernel_rfl)
theorem zr_93 : Zer Tryd.prog 93 [.int .i32 (0)] := Zer.of (by kernel_rfl)
theorem el_93 : Elm Tryd.prog 93 (.int .i32 (0)) 1 4 := Elm.of (by kernel_rfl) rfl (by decide)
theorem is_94 : (Tryd.prog.underlying 94).isSome = true := by rw [Tryd.underlying94]; rfl
theorem sz_94 : Siz Tryd.prog 94 11 := Siz.of (by kernel_rfl)
theorem zr_94 : Zer Tryd.prog 94 [.int .u64 (0), .int .u64 (0), .int .u32 (0), .int .u8 (0), .int .u8 (0), .int .u8 (0), .int .u8 (0), .nilFunc, .pointer none, .int .i32 (0), .int .i32 (0)] := Zer.of (by kernel_rfl)
theorem el_94 : Elm Tryd.prog 94 (.agg #[.int .u64 (0), .int .u64 (0), .int .u32 (0), .int .u8 (0), .int .u8 (0), .int .u8 (0), .int .u8 (0), .nilFunc, .pointer none, .int .i32 (0), .int .i32 (0)]) 11 48 := Elm.of (by kernel_rfl) rfl (by decide)
theorem bp_94 {fs : Array Field} (h : Tryd.prog.underlying 94 = some (.struct fs)) : Plc Tryd.prog fs [(0, 1), (1, 1), (2, 1), (3, 1), (4, 1), (5, 1), (6, 1), (7, 1), (8, 1), (9, 1), (10, 1)] := by
  have e := h.symm.trans Tryd.underlying94
  injection e with e
  injection e with e
  subst e
  unfold Plc
  intro w
  kernel_rfl
theorem is_95 : (Tryd.prog.underlying 95).isSome = true := by rw [Tryd.underlying95]; rfl
theorem sz_95 : Siz Tryd.prog 95 11 := Siz.of (by kernel_rfl)
theorem zr_95 : Zer Tryd.prog 95 [.int .u64 (0), .int .u64 (0), .int .u32 (0), .int .u8 (0), .int .u8 (0), .int .u8 (0), .int .u8 (0), .nilFunc, .pointer none, .int .i32 (0), .int .i32 (0)] := Zer.of (by kernel_rfl)
theorem el_95 : Elm Tryd.prog 95 (.agg #[.int .u64 (0), .int .u64 (0), .int .u32 (0), .int .u8 (0), .int .u8 (0), .int .u8 (0), .int .u8 (0), .nilFunc, .pointer none, .int .i32 (0), .int .i32 (0)]) 11 48 := Elm.of (by kernel_rfl) rfl (by decide)
theorem bp_95 {fs : Array Field} (h : Tryd.prog.underlying 95 = some (.struct fs)) : Plc Tryd.prog fs [(0, 1), (1, 1), (2, 1), (3, 1), (4, 1), (5, 1), (6, 1), (7, 1), (8, 1), (9, 1), (10, 1)] := by
  have e := h.symm.trans Tryd.underlying95
  injection e with e
  injection e with e
  subst e
  unfold Plc
  intro w
  kernel_rfl
theorem sc_96 : Scal Tryd.prog 96 := Scal.of Tryd.underlying96 rfl
theorem is_96 : (Tryd.prog.underlying 96).isSome = true := by rw [Tryd.underlying96]; rfl
theorem sz_96 : Siz Tryd.prog 96 1 := Siz.of (by kernel_rfl)
theorem zr_96 : Zer Tryd.prog 96 [.pointer none] := Zer.of (by kernel_rfl)
theorem el_96 : Elm Tryd.prog 96 (.pointer none) 1 8 := Elm.of (by kernel_rfl) rfl (by decide)
theorem en_2 : Ent Tryd.prog 2 := by unfold Ent; kernel_rfl
theorem en_3 : Ent Tryd.prog 3 := by unfold Ent; kernel_rfl
theorem en_4 : Ent Tryd.prog 4 := by unfold Ent; kernel_rfl
theorem en_5 : Ent Tryd.prog 5 := by unfold Ent; kernel_rfl
theorem en_6 : Ent Tryd.prog 6 := by unfold Ent; kernel_rfl
theorem en_7 : Ent Tryd.prog 7 := by unfold Ent; kernel_rfl
theorem en_8 : Ent Tryd.prog 8 := by unfold Ent; kernel_rfl
theorem en_9 : Ent Tryd.prog 9 := by unfold Ent; kernel_rfl
theorem en_10 : Ent Tryd.prog 10 := by unfold Ent; kernel_rfl
theorem en_11 : Ent Tryd.prog 11 := by unfold Ent; kernel_rfl
theorem en_12 : Ent Tryd.prog 12 := by unfold Ent; kernel_rfl
theorem en_13 : Ent Tryd.prog 13 := by unfold Ent; kernel_rfl
theorem en_14 : Ent Tryd.prog 14 := by unfold Ent; kernel_rfl
theorem en_15 : Ent Tryd.prog 15 := by unfold Ent; kernel_rfl
theorem en_16 : Ent Tryd.prog 16 := by unfold Ent; kernel_rfl
theorem en_17 : Ent Tryd.prog 17 := by unfold Ent; kernel_rfl
theorem en_18 : Ent Tryd.prog 18 := by unfold Ent; kernel_rfl
theorem en_19 : Ent Tryd.prog 19 := by unfold Ent; kernel_rfl
theorem en_20 : Ent Tryd.prog 20 := by unfold Ent; kernel_rfl
theorem en_21 : Ent Tryd.prog 21 := by unfold Ent; kernel_rfl
theorem en_22 : Ent Tryd.prog 22 := by unfold Ent; kernel_rfl
theorem en_23 : Ent Tryd.prog 23 := by unfold Ent; kernel_rfl
theorem en_24 : Ent Tryd.prog 24 := by unfold Ent; kernel_rfl
theorem en_25 : Ent Tryd.prog 25 := by unfold Ent; kernel_rfl
theorem en_26 : Ent Tryd.prog 26 := by unfold Ent; kernel_rfl
theorem en_27 : Ent Tryd.prog 27 := by unfold Ent; kernel_rfl
theorem en_28 : Ent Tryd.prog 28 := by unfold Ent; kernel_rfl
theorem en_29 : Ent Tryd.prog 29 := by unfold Ent; kernel_rfl
theorem en_30 : Ent Tryd.prog 30 := by unfold Ent; kernel_rfl
theorem en_31 : Ent Tryd.prog 31 := by unfold Ent; kernel_rfl
theorem en_32 : Ent Tryd.prog 32 := by unfold Ent; kernel_rfl
theorem en_33 : Ent Tryd.prog 33 := by unfold Ent; kernel_rfl
theorem en_34 : Ent Tryd.prog 34 := by unfold Ent; kernel_rfl
theorem en_35 : Ent Tryd.prog 35 := by unfold Ent; kernel_rfl
theorem en_36 : Ent Tryd.prog 36 := by unfold Ent; kernel_rfl
theorem en_37 : Ent Tryd.prog 37 := by unfold Ent; kernel_rfl
theorem en_38 : Ent Tryd.prog 38 := by unfold Ent; kernel_rfl
theorem en_39 : Ent Tryd.prog 39 := by unfold Ent; kernel_rfl
theorem en_40 : Ent Tryd.prog 40 := by unfold Ent; kernel_rfl
theorem en_41 : Ent Tryd.prog 41 := by unfold Ent; kernel_rfl
theorem en_42 : Ent Tryd.prog 42 := by unfold Ent; kernel_rfl
theorem en_43 : Ent Tryd.prog 43 := by unfold Ent; kernel_rfl
theorem en_44 : Ent Tryd.prog 44 := by unfold Ent; kernel_rfl
theorem en_45 : Ent Tryd.prog 45 := by unfold Ent; kernel_rfl
theorem en_46 : Ent Tryd.prog 46 := by unfold Ent; kernel_rfl
theorem en_47 : Ent Tryd.prog 47 := by unfold Ent; kernel_rfl
theorem en_48 : Ent Tryd.prog 48 := by unfold Ent; kernel_rfl
theorem en_68 : Ent Tryd.prog 68 := by unfold Ent; kernel_rfl
end Go.Proofs.YtfgkbghagklacaaDoor.H
