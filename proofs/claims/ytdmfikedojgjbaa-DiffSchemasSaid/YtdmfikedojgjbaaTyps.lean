/-
  Facts on the types and functions of this seat, for the logic of YtdmfikedojgjbaaHoa.
-/
import Derived.Test.YtdmfikedojgjbaaHoaF
namespace Go.Proofs.Ytdmfikedojgjbaa.H
open Go.RowKit Go.Proofs.Ytdmfikedojgjbaa
theorem mixed : Try.prog.follows .mixedOrders = true := by kernel_rfl
theorem sc_2 : Scal Try.prog 2 := Scal.of Try.underlying2 rfl
theorem is_2 : (Try.prog.underlying 2).isSome = true := by rw [Try.underlying2]; rfl
theorem sz_2 : Siz Try.prog 2 1 := Siz.of (by kernel_rfl)
theorem zr_2 : Zer Try.prog 2 [.int .i64 (0)] := Zer.of (by kernel_rfl)
theorem el_2 : Elm Try.prog 2 (.int .i64 (0)) 1 8 := Elm.of (by kernel_rfl) rfl (by decide)
theorem sc_3 : Scal Try.prog 3 := Scal.of Try.underlying3 rfl
theorem is_3 : (Try.prog.underlying 3).isSome = true := by rw [Try.underlying3]; rfl
theorem sz_3 : Siz Try.prog 3 1 := Siz.of (by kernel_rfl)
theorem zr_3 : Zer Try.prog 3 [.int .i64 (0)] := Zer.of (by kernel_rfl)
theorem el_3 : Elm Try.prog 3 (.int .i64 (0)) 1 8 := Elm.of (by kernel_rfl) rfl (by decide)
theorem sc_4 : Scal Try.prog 4 := Scal.of Try.underlying4 rfl
theorem is_4 : (Try.prog.underlying 4).isSome = true := by rw [Try.underlying4]; rfl
theorem sz_4 : Siz Try.prog 4 1 := Siz.of (by kernel_rfl)
theorem zr_4 : Zer Try.prog 4 [.bool false] := Zer.of (by kernel_rfl)
theorem el_4 : Elm Try.prog 4 (.bool false) 1 1 := Elm.of (by kernel_rfl) rfl (by decide)
theorem sc_5 : Scal Try.prog 5 := Scal.of Try.underlying5 rfl
theorem is_5 : (Try.prog.underlying 5).isSome = true := by rw [Try.underlying5]; rfl
theorem sz_5 : Siz Try.prog 5 1 := Siz.of (by kernel_rfl)
theorem zr_5 : Zer Try.prog 5 [.int .u8 (0)] := Zer.of (by kernel_rfl)
theorem el_5 : Elm Try.prog 5 (.int .u8 (0)) 1 1 := Elm.of (by kernel_rfl) rfl (by decide)
theorem sc_6 : Scal Try.prog 6 := Scal.of Try.underlying6 rfl
theorem is_6 : (Try.prog.underlying 6).isSome = true := by rw [Try.underlying6]; rfl
theorem sz_6 : Siz Try.prog 6 1 := Siz.of (by kernel_rfl)
theorem zr_6 : Zer Try.prog 6 [.int .u8 (0)] := Zer.of (by kernel_rfl)
theorem el_6 : Elm Try.prog 6 (.int .u8 (0)) 1 1 := Elm.of (by kernel_rfl) rfl (by decide)
theorem is_7 : (Try.prog.underlying 7).isSome = true := by rw [Try.underlying7]; rfl
theorem sz_7 : Siz Try.prog 7 4 := Siz.of (by kernel_rfl)
theorem zr_7 : Zer Try.prog 7 [.int .i64 (0), .int .i64 (0), .bool false, .int .u8 (0)] := Zer.of (by kernel_rfl)
theorem el_7 : Elm Try.prog 7 (.agg #[.int .i64 (0), .int .i64 (0), .bool false, .int .u8 (0)]) 4 24 := Elm.of (by kernel_rfl) rfl (by decide)
theorem bp_7 {fs : Array Field} (h : Try.prog.underlying 7 = some (.struct fs)) : Plc Try.prog fs [(0, 1), (1, 1), (2, 1), (3, 1)] := by
  have e := h.symm.trans Try.underlying7
  injection e with e
  injection e with e
  subst e
  unfold Plc
  intro w
  kernel_rfl
theorem is_8 : (Try.prog.underlying 8).isSome = true := by rw [Try.underlying8]; rfl
theorem sz_8 : Siz Try.prog 8 4 := Siz.of (by kernel_rfl)
theorem zr_8 : Zer Try.prog 8 [.int .i64 (0), .int .i64 (0), .bool false, .int .u8 (0)] := Zer.of (by kernel_rfl)
theorem el_8 : Elm Try.prog 8 (.agg #[.int .i64 (0), .int .i64 (0), .bool false, .int .u8 (0)]) 4 24 := Elm.of (by kernel_rfl) rfl (by decide)
theorem bp_8 {fs : Array Field} (h : Try.prog.underlying 8 = some (.struct fs)) : Plc Try.prog fs [(0, 1), (1, 1), (2, 1), (3, 1)] := by
  have e := h.symm.trans Try.underlying8
  injection e with e
  injection e with e
  subst e
  unfold Plc
  intro w
  kernel_rfl
theorem sc_9 : Scal Try.prog 9 := Scal.of Try.underlying9 rfl
theorem is_9 : (Try.prog.underlying 9).isSome = true := by rw [Try.underlying9]; rfl
theorem sz_9 : Siz Try.prog 9 1 := Siz.of (by kernel_rfl)
theorem zr_9 : Zer Try.prog 9 [.string ⟨#[]⟩] := Zer.of (by kernel_rfl)
theorem el_9 : Elm Try.prog 9 (.string ⟨#[]⟩) 1 16 := Elm.of (by kernel_rfl) rfl (by decide)
theorem sc_10 : Scal Try.prog 10 := Scal.of Try.underlying10 rfl
theorem is_10 : (Try.prog.underlying 10).isSome = true := by rw [Try.underlying10]; rfl
theorem sz_10 : Siz Try.prog 10 1 := Siz.of (by kernel_rfl)
theorem zr_10 : Zer Try.prog 10 [.string ⟨#[]⟩] := Zer.of (by kernel_rfl)
theorem el_10 : Elm Try.prog 10 (.string ⟨#[]⟩) 1 16 := Elm.of (by kernel_rfl) rfl (by decide)
theorem sc_11 : Scal Try.prog 11 := Scal.of Try.underlying11 rfl
theorem is_11 : (Try.prog.underlying 11).isSome = true := by rw [Try.underlying11]; rfl
theorem sz_11 : Siz Try.prog 11 1 := Siz.of (by kernel_rfl)
theorem zr_11 : Zer Try.prog 11 [.string ⟨#[]⟩] := Zer.of (by kernel_rfl)
theorem el_11 : Elm Try.prog 11 (.string ⟨#[]⟩) 1 16 := Elm.of (by kernel_rfl) rfl (by decide)
theorem sc_12 : Scal Try.prog 12 := Scal.of Try.underlying12 rfl
theorem is_12 : (Try.prog.underlying 12).isSome = true := by rw [Try.underlying12]; rfl
theorem sz_12 : Siz Try.prog 12 1 := Siz.of (by kernel_rfl)
theorem zr_12 : Zer Try.prog 12 [.int .u64 (0)] := Zer.of (by kernel_rfl)
theorem el_12 : Elm Try.prog 12 (.int .u64 (0)) 1 8 := Elm.of (by kernel_rfl) rfl (by decide)
theorem is_13 : (Try.prog.underlying 13).isSome = true := by rw [Try.underlying13]; rfl
theorem sz_13 : Siz Try.prog 13 2 := Siz.of (by kernel_rfl)
theorem zr_13 : Zer Try.prog 13 [.string ⟨#[]⟩, .int .u64 (0)] := Zer.of (by kernel_rfl)
theorem el_13 : Elm Try.prog 13 (.agg #[.string ⟨#[]⟩, .int .u64 (0)]) 2 24 := Elm.of (by kernel_rfl) rfl (by decide)
theorem bp_13 {fs : Array Field} (h : Try.prog.underlying 13 = some (.struct fs)) : Plc Try.prog fs [(0, 1), (1, 1)] := by
  have e := h.symm.trans Try.underlying13
  injection e with e
  injection e with e
  subst e
  unfold Plc
  intro w
  kernel_rfl
theorem is_14 : (Try.prog.underlying 14).isSome = true := by rw [Try.underlying14]; rfl
theorem sz_14 : Siz Try.prog 14 2 := Siz.of (by kernel_rfl)
theorem zr_14 : Zer Try.prog 14 [.string ⟨#[]⟩, .int .u64 (0)] := Zer.of (by kernel_rfl)
theorem el_14 : Elm Try.prog 14 (.agg #[.string ⟨#[]⟩, .int .u64 (0)]) 2 24 := Elm.of (by kernel_rfl) rfl (by decide)
theorem bp_14 {fs : Array Field} (h : Try.prog.underlying 14 = some (.struct fs)) : Plc Try.prog fs [(0, 1), (1, 1)] := by
  have e := h.symm.trans Try.underlying14
  injection e with e
  injection e with e
  subst e
  unfold Plc
  intro w
  kernel_rfl
theorem sc_15 : Scal Try.prog 15 := Scal.of Try.underlying15 rfl
theorem is_15 : (Try.prog.underlying 15).isSome = true := by rw [Try.underlying15]; rfl
theorem sz_15 : Siz Try.prog 15 1 := Siz.of (by kernel_rfl)
theorem zr_15 : Zer Try.prog 15 [.pointer none] := Zer.of (by kernel_rfl)
theorem el_15 : Elm Try.prog 15 (.pointer none) 1 8 := Elm.of (by kernel_rfl) rfl (by decide)
theorem sc_16 : Scal Try.prog 16 := Scal.of Try.underlying16 rfl
theorem is_16 : (Try.prog.underlying 16).isSome = true := by rw [Try.underlying16]; rfl
theorem sz_16 : Siz Try.prog 16 1 := Siz.of (by kernel_rfl)
theorem zr_16 : Zer Try.prog 16 [.pointer none] := Zer.of (by kernel_rfl)
theorem el_16 : Elm Try.prog 16 (.pointer none) 1 8 := Elm.of (by kernel_rfl) rfl (by decide)
theorem sc_17 : Scal Try.prog 17 := Scal.of Try.underlying17 rfl
theorem is_17 : (Try.prog.underlying 17).isSome = true := by rw [Try.underlying17]; rfl
theorem sz_17 : Siz Try.prog 17 1 := Siz.of (by kernel_rfl)
theorem zr_17 : Zer Try.prog 17 [.pointer none] := Zer.of (by kernel_rfl)
theorem el_17 : Elm Try.prog 17 (.pointer none) 1 8 := Elm.of (by kernel_rfl) rfl (by decide)
theorem is_18 : (Try.prog.underlying 18).isSome = true := by rw [Try.underlying18]; rfl
theorem sz_18 : Siz Try.prog 18 1 := Siz.of (by kernel_rfl)
theorem zr_18 : Zer Try.prog 18 [.pointer none] := Zer.of (by kernel_rfl)
theorem el_18 : Elm Try.prog 18 (.agg #[.pointer none]) 1 8 := Elm.of (by kernel_rfl) rfl (by decide)
theorem bp_18 {fs : Array Field} (h : Try.prog.underlying 18 = some (.struct fs)) : Plc Try.prog fs [(0, 1)] := by
  have e := h.symm.trans Try.underlying18
  injection e with e
  injection e with e
  subst e
  unfold Plc
  intro w
  kernel_rfl
theorem is_19 : (Try.prog.underlying 19).isSome = true := by rw [Try.underlying19]; rfl
theorem sz_19 : Siz Try.prog 19 1 := Siz.of (by kernel_rfl)
theorem zr_19 : Zer Try.prog 19 [.pointer none] := Zer.of (by kernel_rfl)
theorem el_19 : Elm Try.prog 19 (.agg #[.pointer none]) 1 8 := Elm.of (by kernel_rfl) rfl (by decide)
theorem bp_19 {fs : Array Field} (h : Try.prog.underlying 19 = some (.struct fs)) : Plc Try.prog fs [(0, 1)] := by
  have e := h.symm.trans Try.underlying19
  injection e with e
  injection e with e
  subst e
  unfold Plc
  intro w
  kernel_rfl
theorem sc_21 : Scal Try.prog 21 := Scal.of Try.underlying21 rfl
theorem is_21 : (Try.prog.underlying 21).isSome = true := by rw [Try.underlying21]; rfl
theorem sz_21 : Siz Try.prog 21 1 := Siz.of (by kernel_rfl)
theorem zr_21 : Zer Try.prog 21 [.int .i32 (0)] := Zer.of (by kernel_rfl)
theorem el_21 : Elm Try.prog 21 (.int .i32 (0)) 1 4 := Elm.of (by kernel_rfl) rfl (by decide)
theorem sc_22 : Scal Try.prog 22 := Scal.of Try.underlying22 rfl
theorem is_22 : (Try.prog.underlying 22).isSome = true := by rw [Try.underlying22]; rfl
theorem sz_22 : Siz Try.prog 22 1 := Siz.of (by kernel_rfl)
theorem zr_22 : Zer Try.prog 22 [.slice none 0 0] := Zer.of (by kernel_rfl)
theorem el_22 : Elm Try.prog 22 (.slice none 0 0) 1 24 := Elm.of (by kernel_rfl) rfl (by decide)
theorem sc_23 : Scal Try.prog 23 := Scal.of Try.underlying23 rfl
theorem is_23 : (Try.prog.underlying 23).isSome = true := by rw [Try.underlying23]; rfl
theorem sz_23 : Siz Try.prog 23 1 := Siz.of (by kernel_rfl)
theorem zr_23 : Zer Try.prog 23 [.slice none 0 0] := Zer.of (by kernel_rfl)
theorem el_23 : Elm Try.prog 23 (.slice none 0 0) 1 24 := Elm.of (by kernel_rfl) rfl (by decide)
theorem sc_26 : Scal Try.prog 26 := Scal.of Try.underlying26 rfl
theorem is_26 : (Try.prog.underlying 26).isSome = true := by rw [Try.underlying26]; rfl
theorem sz_26 : Siz Try.prog 26 1 := Siz.of (by kernel_rfl)
theorem zr_26 : Zer Try.prog 26 [.pointer none] := Zer.of (by kernel_rfl)
theorem el_26 : Elm Try.prog 26 (.pointer none) 1 8 := Elm.of (by kernel_rfl) rfl (by decide)
theorem sc_27 : Scal Try.prog 27 := Scal.of Try.underlying27 rfl
theorem is_27 : (Try.prog.underlying 27).isSome = true := by rw [Try.underlying27]; rfl
theorem sz_27 : Siz Try.prog 27 1 := Siz.of (by kernel_rfl)
theorem zr_27 : Zer Try.prog 27 [.int .i64 (0)] := Zer.of (by kernel_rfl)
theorem el_27 : Elm Try.prog 27 (.int .i64 (0)) 1 8 := Elm.of (by kernel_rfl) rfl (by decide)
theorem sc_30 : Scal Try.prog 30 := Scal.of Try.underlying30 rfl
theorem is_30 : (Try.prog.underlying 30).isSome = true := by rw [Try.underlying30]; rfl
theorem sz_30 : Siz Try.prog 30 1 := Siz.of (by kernel_rfl)
theorem zr_30 : Zer Try.prog 30 [.slice none 0 0] := Zer.of (by kernel_rfl)
theorem el_30 : Elm Try.prog 30 (.slice none 0 0) 1 24 := Elm.of (by kernel_rfl) rfl (by decide)
theorem is_33 : (Try.prog.underlying 33).isSome = true := by rw [Try.underlying33]; rfl
theorem sz_33 : Siz Try.prog 33 5 := Siz.of (by kernel_rfl)
theorem zr_33 : Zer Try.prog 33 [.int .i64 (0), .int .i64 (0), .slice none 0 0, .bool false, .slice none 0 0] := Zer.of (by kernel_rfl)
theorem el_33 : Elm Try.prog 33 (.agg #[.int .i64 (0), .int .i64 (0), .slice none 0 0, .bool false, .slice none 0 0]) 5 72 := Elm.of (by kernel_rfl) rfl (by decide)
theorem bp_33 {fs : Array Field} (h : Try.prog.underlying 33 = some (.struct fs)) : Plc Try.prog fs [(0, 1), (1, 1), (2, 1), (3, 1), (4, 1)] := by
  have e := h.symm.trans Try.underlying33
  injection e with e
  injection e with e
  subst e
  unfold Plc
  intro w
  kernel_rfl
theorem is_34 : (Try.prog.underlying 34).isSome = true := by rw [Try.underlying34]; rfl
theorem sz_34 : Siz Try.prog 34 5 := Siz.of (by kernel_rfl)
theorem zr_34 : Zer Try.prog 34 [.int .i64 (0), .int .i64 (0), .slice none 0 0, .bool false, .slice none 0 0] := Zer.of (by kernel_rfl)
theorem el_34 : Elm Try.prog 34 (.agg #[.int .i64 (0), .int .i64 (0), .slice none 0 0, .bool false, .slice none 0 0]) 5 72 := Elm.of (by kernel_rfl) rfl (by decide)
theorem bp_34 {fs : Array Field} (h : Try.prog.underlying 34 = some (.struct fs)) : Plc Try.prog fs [(0, 1), (1, 1), (2, 1), (3, 1), (4, 1)] := by
  have e := h.symm.trans Try.underlying34
  injection e with e
  injection e with e
  subst e
  unfold Plc
  intro w
  kernel_rfl
theorem sc_41 : Scal Try.prog 41 := Scal.of Try.underlying41 rfl
theorem is_41 : (Try.prog.underlying 41).isSome = true := by rw [Try.underlying41]; rfl
theorem sz_41 : Siz Try.prog 41 1 := Siz.of (by kernel_rfl)
theorem zr_41 : Zer Try.prog 41 [.slice none 0 0] := Zer.of (by kernel_rfl)
theorem el_41 : Elm Try.prog 41 (.slice none 0 0) 1 24 := Elm.of (by kernel_rfl) rfl (by decide)
theorem sc_42 : Scal Try.prog 42 := Scal.of Try.underlying42 rfl
theorem is_42 : (Try.prog.underlying 42).isSome = true := by rw [Try.underlying42]; rfl
theorem sz_42 : Siz Try.prog 42 1 := Siz.of (by kernel_rfl)
theorem zr_42 : Zer Try.prog 42 [.slice none 0 0] := Zer.of (by kernel_rfl)
theorem el_42 : Elm Try.prog 42 (.slice none 0 0) 1 24 := Elm.of (by kernel_rfl) rfl (by decide)
theorem is_43 : (Try.prog.underlying 43).isSome = true := by rw [Try.underlying43]; rfl
theorem sz_43 : Siz Try.prog 43 7 := Siz.of (by kernel_rfl)
theorem zr_43 : Zer Try.prog 43 [.slice none 0 0, .slice none 0 0, .bool false, .int .i64 (0), .int .i64 (0), .int .i64 (0), .int .i64 (0)] := Zer.of (by kernel_rfl)
theorem el_43 : Elm Try.prog 43 (.agg #[.slice none 0 0, .slice none 0 0, .bool false, .int .i64 (0), .int .i64 (0), .int .i64 (0), .int .i64 (0)]) 7 88 := Elm.of (by kernel_rfl) rfl (by decide)
theorem bp_43 {fs : Array Field} (h : Try.prog.underlying 43 = some (.struct fs)) : Plc Try.prog fs [(0, 1), (1, 1), (2, 1), (3, 1), (4, 1), (5, 1), (6, 1)] := by
  have e := h.symm.trans Try.underlying43
  injection e with e
  injection e with e
  subst e
  unfold Plc
  intro w
  kernel_rfl
theorem is_44 : (Try.prog.underlying 44).isSome = true := by rw [Try.underlying44]; rfl
theorem sz_44 : Siz Try.prog 44 7 := Siz.of (by kernel_rfl)
theorem zr_44 : Zer Try.prog 44 [.slice none 0 0, .slice none 0 0, .bool false, .int .i64 (0), .int .i64 (0), .int .i64 (0), .int .i64 (0)] := Zer.of (by kernel_rfl)
theorem el_44 : Elm Try.prog 44 (.agg #[.slice none 0 0, .slice none 0 0, .bool false, .int .i64 (0), .int .i64 (0), .int .i64 (0), .int .i64 (0)]) 7 88 := Elm.of (by kernel_rfl) rfl (by decide)
theorem bp_44 {fs : Array Field} (h : Try.prog.underlying 44 = some (.struct fs)) : Plc Try.prog fs [(0, 1), (1, 1), (2, 1), (3, 1), (4, 1), (5, 1), (6, 1)] := by
  have e := h.symm.trans Try.underlying44
  injection e with e
  injection e with e
  subst e
  unfold Plc
  intro w
  kernel_rfl
theorem is_54 : (Try.prog.underlying 54).isSome = true := by rw [Try.underlying54]; rfl
theorem sz_54 : Siz Try.prog 54 2 := Siz.of (by kernel_rfl)
theorem zr_54 : Zer Try.prog 54 [.bool false, .int .i64 (0)] := Zer.of (by kernel_rfl)
theorem el_54 : Elm Try.prog 54 (.agg #[.bool false, .int .i64 (0)]) 2 16 := Elm.of (by kernel_rfl) rfl (by decide)
theorem bp_54 {fs : Array Field} (h : Try.prog.underlying 54 = some (.struct fs)) : Plc Try.prog fs [(0, 1), (1, 1)] := by
  have e := h.symm.trans Try.underlying54
  injection e with e
  injection e with e
  subst e
  unfold Plc
  intro w
  kernel_rfl
theorem is_55 : (Try.prog.underlying 55).isSome = true := by rw [Try.underlying55]; rfl
theorem sz_55 : Siz Try.prog 55 2 := Siz.of (by kernel_rfl)
theorem zr_55 : Zer Try.prog 55 [.bool false, .int .i64 (0)] := Zer.of (by kernel_rfl)
theorem el_55 : Elm Try.prog 55 (.agg #[.bool false, .int .i64 (0)]) 2 16 := Elm.of (by kernel_rfl) rfl (by decide)
theorem bp_55 {fs : Array Field} (h : Try.prog.underlying 55 = some (.struct fs)) : Plc Try.prog fs [(0, 1), (1, 1)] := by
  have e := h.symm.trans Try.underlying55
  injection e with e
  injection e with e
  subst e
  unfold Plc
  intro w
  kernel_rfl
theorem sc_56 : Scal Try.prog 56 := Scal.of Try.underlying56 rfl
theorem is_56 : (Try.prog.underlying 56).isSome = true := by rw [Try.underlying56]; rfl
theorem sz_56 : Siz Try.prog 56 1 := Siz.of (by kernel_rfl)
theorem zr_56 : Zer Try.prog 56 [.slice none 0 0] := Zer.of (by kernel_rfl)
theorem el_56 : Elm Try.prog 56 (.slice none 0 0) 1 24 := Elm.of (by kernel_rfl) rfl (by decide)
theorem is_57 : (Try.prog.underlying 57).isSome = true := by rw [Try.underlying57]; rfl
theorem sz_57 : Siz Try.prog 57 8 := Siz.of (by kernel_rfl)
theorem zr_57 : Zer Try.prog 57 [.bool false, .int .i64 (0), .bool false, .slice none 0 0, .slice none 0 0, .int .i64 (0), .int .i64 (0), .int .i64 (0)] := Zer.of (by kernel_rfl)
theorem el_57 : Elm Try.prog 57 (.agg #[.bool false, .int .i64 (0), .bool false, .slice none 0 0, .slice none 0 0, .int .i64 (0), .int .i64 (0), .int .i64 (0)]) 8 96 := Elm.of (by kernel_rfl) rfl (by decide)
theorem bp_57 {fs : Array Field} (h : Try.prog.underlying 57 = some (.struct fs)) : Plc Try.prog fs [(0, 2), (2, 1), (3, 1), (4, 1), (5, 1), (6, 1), (7, 1)] := by
  have e := h.symm.trans Try.underlying57
  injection e with e
  injection e with e
  subst e
  unfold Plc
  intro w
  kernel_rfl
theorem is_58 : (Try.prog.underlying 58).isSome = true := by rw [Try.underlying58]; rfl
theorem sz_58 : Siz Try.prog 58 8 := Siz.of (by kernel_rfl)
theorem zr_58 : Zer Try.prog 58 [.bool false, .int .i64 (0), .bool false, .slice none 0 0, .slice none 0 0, .int .i64 (0), .int .i64 (0), .int .i64 (0)] := Zer.of (by kernel_rfl)
theorem el_58 : Elm Try.prog 58 (.agg #[.bool false, .int .i64 (0), .bool false, .slice none 0 0, .slice none 0 0, .int .i64 (0), .int .i64 (0), .int .i64 (0)]) 8 96 := Elm.of (by kernel_rfl) rfl (by decide)
theorem bp_58 {fs : Array Field} (h : Try.prog.underlying 58 = some (.struct fs)) : Plc Try.prog fs [(0, 2), (2, 1), (3, 1), (4, 1), (5, 1), (6, 1), (7, 1)] := by
  have e := h.symm.trans Try.underlying58
  injection e with e
  injection e with e
  subst e
  unfold Plc
  intro w
  kernel_rfl
theorem sc_62 : Scal Try.prog 62 := Scal.of Try.underlying62 rfl
theorem is_62 : (Try.prog.underlying 62).isSome = true := by rw [Try.underlying62]; rfl
theorem sz_62 : Siz Try.prog 62 1 := Siz.of (by kernel_rfl)
theorem zr_62 : Zer Try.prog 62 [.slice none 0 0] := Zer.of (by kernel_rfl)
theorem el_62 : Elm Try.prog 62 (.slice none 0 0) 1 24 := Elm.of (by kernel_rfl) rfl (by decide)
theorem sc_63 : Scal Try.prog 63 := Scal.of Try.underlying63 rfl
theorem is_63 : (Try.prog.underlying 63).isSome = true := by rw [Try.underlying63]; rfl
theorem sz_63 : Siz Try.prog 63 1 := Siz.of (by kernel_rfl)
theorem zr_63 : Zer Try.prog 63 [.pointer none] := Zer.of (by kernel_rfl)
theorem el_63 : Elm Try.prog 63 (.pointer none) 1 8 := Elm.of (by kernel_rfl) rfl (by decide)
theorem sc_69 : Scal Try.prog 69 := Scal.of Try.underlying69 rfl
theorem is_69 : (Try.prog.underlying 69).isSome = true := by rw [Try.underlying69]; rfl
theorem sz_69 : Siz Try.prog 69 1 := Siz.of (by kernel_rfl)
theorem zr_69 : Zer Try.prog 69 [.slice none 0 0] := Zer.of (by kernel_rfl)
theorem el_69 : Elm Try.prog 69 (.slice none 0 0) 1 24 := Elm.of (by kernel_rfl) rfl (by decide)
theorem is_70 : (Try.prog.underlying 70).isSome = true := by rw [Try.underlying70]; rfl
theorem sz_70 : Siz Try.prog 70 1 := Siz.of (by kernel_rfl)
theorem zr_70 : Zer Try.prog 70 [.slice none 0 0] := Zer.of (by kernel_rfl)
theorem el_70 : Elm Try.prog 70 (.agg #[.slice none 0 0]) 1 24 := Elm.of (by kernel_rfl) rfl (by decide)
theorem bp_70 {fs : Array Field} (h : Try.prog.underlying 70 = some (.struct fs)) : Plc Try.prog fs [(0, 1)] := by
  have e := h.symm.trans Try.underlying70
  injection e with e
  injection e with e
  subst e
  unfold Plc
  intro w
  kernel_rfl
theorem is_71 : (Try.prog.underlying 71).isSome = true := by rw [Try.underlying71]; rfl
theorem sz_71 : Siz Try.prog 71 1 := Siz.of (by kernel_rfl)
theorem zr_71 : Zer Try.prog 71 [.slice none 0 0] := Zer.of (by kernel_rfl)
theorem el_71 : Elm Try.prog 71 (.agg #[.slice none 0 0]) 1 24 := Elm.of (by kernel_rfl) rfl (by decide)
theorem bp_71 {fs : Array Field} (h : Try.prog.underlying 71 = some (.struct fs)) : Plc Try.prog fs [(0, 1)] := by
  have e := h.symm.trans Try.underlying71
  injection e with e
  injection e with e
  subst e
  unfold Plc
  intro w
  kernel_rfl
theorem is_75 : (Try.prog.underlying 75).isSome = true := by rw [Try.underlying75]; rfl
theorem sz_75 : Siz Try.prog 75 2 := Siz.of (by kernel_rfl)
theorem zr_75 : Zer Try.prog 75 [.int .i64 (0), .slice none 0 0] := Zer.of (by kernel_rfl)
theorem el_75 : Elm Try.prog 75 (.agg #[.int .i64 (0), .slice none 0 0]) 2 32 := Elm.of (by kernel_rfl) rfl (by decide)
theorem bp_75 {fs : Array Field} (h : Try.prog.underlying 75 = some (.struct fs)) : Plc Try.prog fs [(0, 1), (1, 1)] := by
  have e := h.symm.trans Try.underlying75
  injection e with e
  injection e with e
  subst e
  unfold Plc
  intro w
  kernel_rfl
theorem is_76 : (Try.prog.underlying 76).isSome = true := by rw [Try.underlying76]; rfl
theorem sz_76 : Siz Try.prog 76 2 := Siz.of (by kernel_rfl)
theorem zr_76 : Zer Try.prog 76 [.int .i64 (0), .slice none 0 0] := Zer.of (by kernel_rfl)
theorem el_76 : Elm Try.prog 76 (.agg #[.int .i64 (0), .slice none 0 0]) 2 32 := Elm.of (by kernel_rfl) rfl (by decide)
theorem bp_76 {fs : Array Field} (h : Try.prog.underlying 76 = some (.struct fs)) : Plc Try.prog fs [(0, 1), (1, 1)] := by
  have e := h.symm.trans Try.underlying76
  injection e with e
  injection e with e
  subst e
  unfold Plc
  intro w
  kernel_rfl
theorem sc_81 : Scal Try.prog 81 := Scal.of Try.underlying81 rfl
theorem is_81 : (Try.prog.underlying 81).isSome = true := by rw [Try.underlying81]; rfl
theorem sz_81 : Siz Try.prog 81 1 := Siz.of (by kernel_rfl)
theorem zr_81 : Zer Try.prog 81 [.slice none 0 0] := Zer.of (by kernel_rfl)
theorem el_81 : Elm Try.prog 81 (.slice none 0 0) 1 24 := Elm.of (by kernel_rfl) rfl (by decide)
theorem is_82 : (Try.prog.underlying 82).isSome = true := by rw [Try.underlying82]; rfl
theorem sz_82 : Siz Try.prog 82 2 := Siz.of (by kernel_rfl)
theorem zr_82 : Zer Try.prog 82 [.slice none 0 0, .slice none 0 0] := Zer.of (by kernel_rfl)
theorem el_82 : Elm Try.prog 82 (.agg #[.slice none 0 0, .slice none 0 0]) 2 48 := Elm.of (by kernel_rfl) rfl (by decide)
theorem bp_82 {fs : Array Field} (h : Try.prog.underlying 82 = some (.struct fs)) : Plc Try.prog fs [(0, 1), (1, 1)] := by
  have e := h.symm.trans Try.underlying82
  injection e with e
  injection e with e
  subst e
  unfold Plc
  intro w
  kernel_rfl
theorem is_83 : (Try.prog.underlying 83).isSome = true := by rw [Try.underlying83]; rfl
theorem sz_83 : Siz Try.prog 83 2 := Siz.of (by kernel_rfl)
theorem zr_83 : Zer Try.prog 83 [.slice none 0 0, .slice none 0 0] := Zer.of (by kernel_rfl)
theorem el_83 : Elm Try.prog 83 (.agg #[.slice none 0 0, .slice none 0 0]) 2 48 := Elm.of (by kernel_rfl) rfl (by decide)
theorem bp_83 {fs : Array Field} (h : Try.prog.underlying 83 = some (.struct fs)) : Plc Try.prog fs [(0, 1), (1, 1)] := by
  have e := h.symm.trans Try.underlying83
  injection e with e
  injection e with e
  subst e
  unfold Plc
  intro w
  kernel_rfl
theorem sc_87 : Scal Try.prog 87 := Scal.of Try.underlying87 rfl
theorem is_87 : (Try.prog.underlying 87).isSome = true := by rw [Try.underlying87]; rfl
theorem sz_87 : Siz Try.prog 87 1 := Siz.of (by kernel_rfl)
theorem zr_87 : Zer Try.prog 87 [.slice none 0 0] := Zer.of (by kernel_rfl)
theorem el_87 : Elm Try.prog 87 (.slice none 0 0) 1 24 := Elm.of (by kernel_rfl) rfl (by decide)
theorem sc_93 : Scal Try.prog 93 := Scal.of Try.underlying93 rfl
theorem is_93 : (Try.prog.underlying 93).isSome = true := by rw [Try.underlying93]; rfl
theorem sz_93 : Siz Try.prog 93 1 := Siz.of (by kernel_rfl)
theorem zr_93 : Zer Try.prog 93 [.slice none 0 0] := Zer.of (by kernel_rfl)
theorem el_93 : Elm Try.prog 93 (.slice none 0 0) 1 24 := Elm.of (by kernel_rfl) rfl (by decide)
theorem sc_94 : Scal Try.prog 94 := Scal.of Try.underlying94 rfl
theorem is_94 : (Try.prog.underlying 94).isSome = true := by rw [Try.underlying94]; rfl
theorem sz_94 : Siz Try.prog 94 1 := Siz.of (by kernel_rfl)
theorem zr_94 : Zer Try.prog 94 [.slice none 0 0] := Zer.of (by kernel_rfl)
theorem el_94 : Elm Try.prog 94 (.slice none 0 0) 1 24 := Elm.of (by kernel_rfl) rfl (by decide)
theorem sc_95 : Scal Try.prog 95 := Scal.of Try.underlying95 rfl
theorem is_95 : (Try.prog.underlying 95).isSome = true := by rw [Try.underlying95]; rfl
theorem sz_95 : Siz Try.prog 95 1 := Siz.of (by kernel_rfl)
theorem zr_95 : Zer Try.prog 95 [.slice none 0 0] := Zer.of (by kernel_rfl)
theorem el_95 : Elm Try.prog 95 (.slice none 0 0) 1 24 := Elm.of (by kernel_rfl) rfl (by decide)
theorem is_96 : (Try.prog.underlying 96).isSome = true := by rw [Try.underlying96]; rfl
theorem sz_96 : Siz Try.prog 96 4 := Siz.of (by kernel_rfl)
theorem zr_96 : Zer Try.prog 96 [.slice none 0 0, .slice none 0 0, .slice none 0 0, .slice none 0 0] := Zer.of (by kernel_rfl)
theorem el_96 : Elm Try.prog 96 (.agg #[.slice none 0 0, .slice none 0 0, .slice none 0 0, .slice none 0 0]) 4 96 := Elm.of (by kernel_rfl) rfl (by decide)
theorem bp_96 {fs : Array Field} (h : Try.prog.underlying 96 = some (.struct fs)) : Plc Try.prog fs [(0, 1), (1, 1), (2, 1), (3, 1)] := by
  have e := h.symm.trans Try.underlying96
  injection e with e
  injection e with e
  subst e
  unfold Plc
  intro w
  kernel_rfl
theorem is_97 : (Try.prog.underlying 97).isSome = true := by rw [Try.underlying97]; rfl
theorem sz_97 : Siz Try.prog 97 4 := Siz.of (by kernel_rfl)
theorem zr_97 : Zer Try.prog 97 [.slice none 0 0, .slice none 0 0, .slice none 0 0, .slice none 0 0] := Zer.of (by kernel_rfl)
theorem el_97 : Elm Try.prog 97 (.agg #[.slice none 0 0, .slice none 0 0, .slice none 0 0, .slice none 0 0]) 4 96 := Elm.of (by kernel_rfl) rfl (by decide)
theorem bp_97 {fs : Array Field} (h : Try.prog.underlying 97 = some (.struct fs)) : Plc Try.prog fs [(0, 1), (1, 1), (2, 1), (3, 1)] := by
  have e := h.symm.trans Try.underlying97
  injection e with e
  injection e with e
  subst e
  unfold Plc
  intro w
  kernel_rfl
theorem sc_103 : Scal Try.prog 103 := Scal.of Try.underlying103 rfl
theorem is_103 : (Try.prog.underlying 103).isSome = true := by rw [Try.underlying103]; rfl
theorem sz_103 : Siz Try.prog 103 1 := Siz.of (by kernel_rfl)
theorem zr_103 : Zer Try.prog 103 [.int .u32 (0)] := Zer.of (by kernel_rfl)
theorem el_103 : Elm Try.prog 103 (.int .u32 (0)) 1 4 := Elm.of (by kernel_rfl) rfl (by decide)
theorem sc_104 : Scal Try.prog 104 := Scal.of Try.underlying104 rfl
theorem is_104 : (Try.prog.underlying 104).isSome = true := by rw [Try.underlying104]; rfl
theorem sz_104 : Siz Try.prog 104 1 := Siz.of (by kernel_rfl)
theorem zr_104 : Zer Try.prog 104 [.slice none 0 0] := Zer.of (by kernel_rfl)
theorem el_104 : Elm Try.prog 104 (.slice none 0 0) 1 24 := Elm.of (by kernel_rfl) rfl (by decide)
theorem sc_105 : Scal Try.prog 105 := Scal.of Try.underlying105 rfl
theorem is_105 : (Try.prog.underlying 105).isSome = true := by rw [Try.underlying105]; rfl
theorem sz_105 : Siz Try.prog 105 1 := Siz.of (by kernel_rfl)
theorem zr_105 : Zer Try.prog 105 [.slice none 0 0] := Zer.of (by kernel_rfl)
theorem el_105 : Elm Try.prog 105 (.slice none 0 0) 1 24 := Elm.of (by kernel_rfl) rfl (by decide)
theorem sc_106 : Scal Try.prog 106 := Scal.of Try.underlying106 rfl
theorem is_106 : (Try.prog.underlying 106).isSome = true := by rw [Try.underlying106]; rfl
theorem sz_106 : Siz Try.prog 106 1 := Siz.of (by kernel_rfl)
theorem zr_106 : Zer Try.prog 106 [.slice none 0 0] := Zer.of (by kernel_rfl)
theorem el_106 : Elm Try.prog 106 (.slice none 0 0) 1 24 := Elm.of (by kernel_rfl) rfl (by decide)
theorem is_107 : (Try.prog.underlying 107).isSome = true := by rw [Try.underlying107]; rfl
theorem sz_107 : Siz Try.prog 107 5 := Siz.of (by kernel_rfl)
theorem zr_107 : Zer Try.prog 107 [.int .u32 (0), .slice none 0 0, .slice none 0 0, .slice none 0 0, .int .i64 (0)] := Zer.of (by kernel_rfl)
theorem el_107 : Elm Try.prog 107 (.agg #[.int .u32 (0), .slice none 0 0, .slice none 0 0, .slice none 0 0, .int .i64 (0)]) 5 88 := Elm.of (by kernel_rfl) rfl (by decide)
theorem bp_107 {fs : Array Field} (h : Try.prog.underlying 107 = some (.struct fs)) : Plc Try.prog fs [(0, 1), (1, 1), (2, 1), (3, 1), (4, 1)] := by
  have e := h.symm.trans Try.underlying107
  injection e with e
  injection e with e
  subst e
  unfold Plc
  intro w
  kernel_rfl
theorem is_108 : (Try.prog.underlying 108).isSome = true := by rw [Try.underlying108]; rfl
theorem sz_108 : Siz Try.prog 108 5 := Siz.of (by kernel_rfl)
theorem zr_108 : Zer Try.prog 108 [.int .u32 (0), .slice none 0 0, .slice none 0 0, .slice none 0 0, .int .i64 (0)] := Zer.of (by kernel_rfl)
theorem el_108 : Elm Try.prog 108 (.agg #[.int .u32 (0), .slice none 0 0, .slice none 0 0, .slice none 0 0, .int .i64 (0)]) 5 88 := Elm.of (by kernel_rfl) rfl (by decide)
theorem bp_108 {fs : Array Field} (h : Try.prog.underlying 108 = some (.struct fs)) : Plc Try.prog fs [(0, 1), (1, 1), (2, 1), (3, 1), (4, 1)] := by
  have e := h.symm.trans Try.underlying108
  injection e with e
  injection e with e
  subst e
  unfold Plc
  intro w
  kernel_rfl
theorem is_122 : (Try.prog.underlying 122).isSome = true := by rw [Try.underlying122]; rfl
theorem sz_122 : Siz Try.prog 122 2 := Siz.of (by kernel_rfl)
theorem zr_122 : Zer Try.prog 122 [.int .i64 (0), .slice none 0 0] := Zer.of (by kernel_rfl)
theorem el_122 : Elm Try.prog 122 (.agg #[.int .i64 (0), .slice none 0 0]) 2 32 := Elm.of (by kernel_rfl) rfl (by decide)
theorem bp_122 {fs : Array Field} (h : Try.prog.underlying 122 = some (.struct fs)) : Plc Try.prog fs [(0, 1), (1, 1)] := by
  have e := h.symm.trans Try.underlying122
  injection e with e
  injection e with e
  subst e
  unfold Plc
  intro w
  kernel_rfl
theorem is_123 : (Try.prog.underlying 123).isSome = true := by rw [Try.underlying123]; rfl
theorem sz_123 : Siz Try.prog 123 2 := Siz.of (by kernel_rfl)
theorem zr_123 : Zer Try.prog 123 [.int .i64 (0), .slice none 0 0] := Zer.of (by kernel_rfl)
theorem el_123 : Elm Try.prog 123 (.agg #[.int .i64 (0), .slice none 0 0]) 2 32 := Elm.of (by kernel_rfl) rfl (by decide)
theorem bp_123 {fs : Array Field} (h : Try.prog.underlying 123 = some (.struct fs)) : Plc Try.prog fs [(0, 1), (1, 1)] := by
  have e := h.symm.trans Try.underlying123
  injection e with e
  injection e with e
  subst e
  unfold Plc
  intro w
  kernel_rfl
theorem sc_129 : Scal Try.prog 129 := Scal.of Try.underlying129 rfl
theorem is_129 : (Try.prog.underlying 129).isSome = true := by rw [Try.underlying129]; rfl
theorem sz_129 : Siz Try.prog 129 1 := Siz.of (by kernel_rfl)
theorem zr_129 : Zer Try.prog 129 [.pointer none] := Zer.of (by kernel_rfl)
theorem el_129 : Elm Try.prog 129 (.pointer none) 1 8 := Elm.of (by kernel_rfl) rfl (by decide)
theorem sc_132 : Scal Try.prog 132 := Scal.of Try.underlying132 rfl
theorem is_132 : (Try.prog.underlying 132).isSome = true := by rw [Try.underlying132]; rfl
theorem sz_132 : Siz Try.prog 132 1 := Siz.of (by kernel_rfl)
theorem zr_132 : Zer Try.prog 132 [.slice none 0 0] := Zer.of (by kernel_rfl)
theorem el_132 : Elm Try.prog 132 (.slice none 0 0) 1 24 := Elm.of (by kernel_rfl) rfl (by decide)
theorem is_133 : (Try.prog.underlying 133).isSome = true := by rw [Try.underlying133]; rfl
theorem sz_133 : Siz Try.prog 133 2 := Siz.of (by kernel_rfl)
theorem zr_133 : Zer Try.prog 133 [.slice none 0 0, .slice none 0 0] := Zer.of (by kernel_rfl)
theorem el_133 : Elm Try.prog 133 (.agg #[.slice none 0 0, .slice none 0 0]) 2 48 := Elm.of (by kernel_rfl) rfl (by decide)
theorem bp_133 {fs : Array Field} (h : Try.prog.underlying 133 = some (.struct fs)) : Plc Try.prog fs [(0, 1), (1, 1)] := by
  have e := h.symm.trans Try.underlying133
  injection e with e
  injection e with e
  subst e
  unfold Plc
  intro w
  kernel_rfl
theorem is_134 : (Try.prog.underlying 134).isSome = true := by rw [Try.underlying134]; rfl
theorem sz_134 : Siz Try.prog 134 2 := Siz.of (by kernel_rfl)
theorem zr_134 : Zer Try.prog 134 [.slice none 0 0, .slice none 0 0] := Zer.of (by kernel_rfl)
theorem el_134 : Elm Try.prog 134 (.agg #[.slice none 0 0, .slice none 0 0]) 2 48 := Elm.of (by kernel_rfl) rfl (by decide)
theorem bp_134 {fs : Array Field} (h : Try.prog.underlying 134 = some (.struct fs)) : Plc Try.prog fs [(0, 1), (1, 1)] := by
  have e := h.symm.trans Try.underlying134
  injection e with e
  injection e with e
  subst e
  unfold Plc
  intro w
  kernel_rfl
theorem sc_135 : Scal Try.prog 135 := Scal.of Try.underlying135 rfl
theorem is_135 : (Try.prog.underlying 135).isSome = true := by rw [Try.underlying135]; rfl
theorem sz_135 : Siz Try.prog 135 1 := Siz.of (by kernel_rfl)
theorem zr_135 : Zer Try.prog 135 [.int .u64 (0)] := Zer.of (by kernel_rfl)
theorem el_135 : Elm Try.prog 135 (.int .u64 (0)) 1 8 := Elm.of (by kernel_rfl) rfl (by decide)
theorem sc_136 : Scal Try.prog 136 := Scal.of Try.underlying136 rfl
theorem is_136 : (Try.prog.underlying 136).isSome = true := by rw [Try.underlying136]; rfl
theorem sz_136 : Siz Try.prog 136 1 := Siz.of (by kernel_rfl)
theorem zr_136 : Zer Try.prog 136 [.slice none 0 0] := Zer.of (by kernel_rfl)
theorem el_136 : Elm Try.prog 136 (.slice none 0 0) 1 24 := Elm.of (by kernel_rfl) rfl (by decide)
theorem sc_137 : Scal Try.prog 137 := Scal.of Try.underlying137 rfl
theorem is_137 : (Try.prog.underlying 137).isSome = true := by rw [Try.underlying137]; rfl
theorem sz_137 : Siz Try.prog 137 1 := Siz.of (by kernel_rfl)
theorem zr_137 : Zer Try.prog 137 [.slice none 0 0] := Zer.of (by kernel_rfl)
theorem el_137 : Elm Try.prog 137 (.slice none 0 0) 1 24 := Elm.of (by kernel_rfl) rfl (by decide)
theorem is_138 : (Try.prog.underlying 138).isSome = true := by rw [Try.underlying138]; rfl
theorem sz_138 : Siz Try.prog 138 4 := Siz.of (by kernel_rfl)
theorem zr_138 : Zer Try.prog 138 [.int .u64 (0), .int .i64 (0), .slice none 0 0, .slice none 0 0] := Zer.of (by kernel_rfl)
theorem el_138 : Elm Try.prog 138 (.agg #[.int .u64 (0), .int .i64 (0), .slice none 0 0, .slice none 0 0]) 4 64 := Elm.of (by kernel_rfl) rfl (by decide)
theorem bp_138 {fs : Array Field} (h : Try.prog.underlying 138 = some (.struct fs)) : Plc Try.prog fs [(0, 1), (1, 1), (2, 1), (3, 1)] := by
  have e := h.symm.trans Try.underlying138
  injection e with e
  injection e with e
  subst e
  unfold Plc
  intro w
  kernel_rfl
theorem is_139 : (Try.prog.underlying 139).isSome = true := by rw [Try.underlying139]; rfl
theorem sz_139 : Siz Try.prog 139 4 := Siz.of (by kernel_rfl)
theorem zr_139 : Zer Try.prog 139 [.int .u64 (0), .int .i64 (0), .slice none 0 0, .slice none 0 0] := Zer.of (by kernel_rfl)
theorem el_139 : Elm Try.prog 139 (.agg #[.int .u64 (0), .int .i64 (0), .slice none 0 0, .slice none 0 0]) 4 64 := Elm.of (by kernel_rfl) rfl (by decide)
theorem bp_139 {fs : Array Field} (h : Try.prog.underlying 139 = some (.struct fs)) : Plc Try.prog fs [(0, 1), (1, 1), (2, 1), (3, 1)] := by
  have e := h.symm.trans Try.underlying139
  injection e with e
  injection e with e
  subst e
  unfold Plc
  intro w
  kernel_rfl
theorem sc_140 : Scal Try.prog 140 := Scal.of Try.underlying140 rfl
theorem is_140 : (Try.prog.underlying 140).isSome = true := by rw [Try.underlying140]; rfl
theorem sz_140 : Siz Try.prog 140 1 := Siz.of (by kernel_rfl)
theorem zr_140 : Zer Try.prog 140 [.slice none 0 0] := Zer.of (by kernel_rfl)
theorem el_140 : Elm Try.prog 140 (.slice none 0 0) 1 24 := Elm.of (by kernel_rfl) rfl (by decide)
theorem sc_141 : Scal Try.prog 141 := Scal.of Try.underlying141 rfl
theorem is_141 : (Try.prog.underlying 141).isSome = true := by rw [Try.underlying141]; rfl
theorem sz_141 : Siz Try.prog 141 1 := Siz.of (by kernel_rfl)
theorem zr_141 : Zer Try.prog 141 [.slice none 0 0] := Zer.of (by kernel_rfl)
theorem el_141 : Elm Try.prog 141 (.slice none 0 0) 1 24 := Elm.of (by kernel_rfl) rfl (by decide)
theorem is_144 : (Try.prog.underlying 144).isSome = true := by rw [Try.underlying144]; rfl
theorem sz_144 : Siz Try.prog 144 2 := Siz.of (by kernel_rfl)
theorem zr_144 : Zer Try.prog 144 [.int .u64 (0), .int .i64 (0)] := Zer.of (by kernel_rfl)
theorem el_144 : Elm Try.prog 144 (.agg #[.int .u64 (0), .int .i64 (0)]) 2 16 := Elm.of (by kernel_rfl) rfl (by decide)
theorem bp_144 {fs : Array Field} (h : Try.prog.underlying 144 = some (.struct fs)) : Plc Try.prog fs [(0, 1), (1, 1)] := by
  have e := h.symm.trans Try.underlying144
  injection e with e
  injection e with e
  subst e
  unfold Plc
  intro w
  kernel_rfl
theorem is_145 : (Try.prog.underlying 145).isSome = true := by rw [Try.underlying145]; rfl
theorem sz_145 : Siz Try.prog 145 2 := Siz.of (by kernel_rfl)
theorem zr_145 : Zer Try.prog 145 [.int .u64 (0), .int .i64 (0)] := Zer.of (by kernel_rfl)
theorem el_145 : Elm Try.prog 145 (.agg #[.int .u64 (0), .int .i64 (0)]) 2 16 := Elm.of (by kernel_rfl) rfl (by decide)
theorem bp_145 {fs : Array Field} (h : Try.prog.underlying 145 = some (.struct fs)) : Plc Try.prog fs [(0, 1), (1, 1)] := by
  have e := h.symm.trans Try.underlying145
  injection e with e
  injection e with e
  subst e
  unfold Plc
  intro w
  kernel_rfl
theorem is_150 : (Try.prog.underlying 150).isSome = true := by rw [Try.underlying150]; rfl
theorem sz_150 : Siz Try.prog 150 2 := Siz.of (by kernel_rfl)
theorem zr_150 : Zer Try.prog 150 [.string ⟨#[]⟩, .int .i64 (0)] := Zer.of (by kernel_rfl)
theorem el_150 : Elm Try.prog 150 (.agg #[.string ⟨#[]⟩, .int .i64 (0)]) 2 24 := Elm.of (by kernel_rfl) rfl (by decide)
theorem bp_150 {fs : Array Field} (h : Try.prog.underlying 150 = some (.struct fs)) : Plc Try.prog fs [(0, 1), (1, 1)] := by
  have e := h.symm.trans Try.underlying150
  injection e with e
  injection e with e
  subst e
  unfold Plc
  intro w
  kernel_rfl
theorem is_151 : (Try.prog.underlying 151).isSome = true := by rw [Try.underlying151]; rfl
theorem sz_151 : Siz Try.prog 151 2 := Siz.of (by kernel_rfl)
theorem zr_151 : Zer Try.prog 151 [.string ⟨#[]⟩, .int .i64 (0)] := Zer.of (by kernel_rfl)
theorem el_151 : Elm Try.prog 151 (.agg #[.string ⟨#[]⟩, .int .i64 (0)]) 2 24 := Elm.of (by kernel_rfl) rfl (by decide)
theorem bp_151 {fs : Array Field} (h : Try.prog.underlying 151 = some (.struct fs)) : Plc Try.prog fs [(0, 1), (1, 1)] := by
  have e := h.symm.trans Try.underlying151
  injection e with e
  injection e with e
  subst e
  unfold Plc
  intro w
  kernel_rfl
theorem sc_155 : Scal Try.prog 155 := Scal.of Try.underlying155 rfl
theorem is_155 : (Try.prog.underlying 155).isSome = true := by rw [Try.underlying155]; rfl
theorem sz_155 : Siz Try.prog 155 1 := Siz.of (by kernel_rfl)
theorem zr_155 : Zer Try.prog 155 [.slice none 0 0] := Zer.of (by kernel_rfl)
theorem el_155 : Elm Try.prog 155 (.slice none 0 0) 1 24 := Elm.of (by kernel_rfl) rfl (by decide)
theorem sc_157 : Scal Try.prog 157 := Scal.of Try.underlying157 rfl
theorem is_157 : (Try.prog.underlying 157).isSome = true := by rw [Try.underlying157]; rfl
theorem sz_157 : Siz Try.prog 157 1 := Siz.of (by kernel_rfl)
theorem zr_157 : Zer Try.prog 157 [.map none] := Zer.of (by kernel_rfl)
theorem el_157 : Elm Try.prog 157 (.map none) 1 8 := Elm.of (by kernel_rfl) rfl (by decide)
theorem is_162 : (Try.prog.underlying 162).isSome = true := by rw [Try.underlying162]; rfl
theorem sz_162 : Siz Try.prog 162 2 := Siz.of (by kernel_rfl)
theorem zr_162 : Zer Try.prog 162 [.int .i64 (0), .slice none 0 0] := Zer.of (by kernel_rfl)
theorem el_162 : Elm Try.prog 162 (.agg #[.int .i64 (0), .slice none 0 0]) 2 32 := Elm.of (by kernel_rfl) rfl (by decide)
theorem bp_162 {fs : Array Field} (h : Try.prog.underlying 162 = some (.struct fs)) : Plc Try.prog fs [(0, 1), (1, 1)] := by
  have e := h.symm.trans Try.underlying162
  injection e with e
  injection e with e
  subst e
  unfold Plc
  intro w
  kernel_rfl
theorem is_163 : (Try.prog.underlying 163).isSome = true := by rw [Try.underlying163]; rfl
theorem sz_163 : Siz Try.prog 163 2 := Siz.of (by kernel_rfl)
theorem zr_163 : Zer Try.prog 163 [.int .i64 (0), .slice none 0 0] := Zer.of (by kernel_rfl)
theorem el_163 : Elm Try.prog 163 (.agg #[.int .i64 (0), .slice none 0 0]) 2 32 := Elm.of (by kernel_rfl) rfl (by decide)
theorem bp_163 {fs : Array Field} (h : Try.prog.underlying 163 = some (.struct fs)) : Plc Try.prog fs [(0, 1), (1, 1)] := by
  have e := h.symm.trans Try.underlying163
  injection e with e
  injection e with e
  subst e
  unfold Plc
  intro w
  kernel_rfl
theorem is_164 : (Try.prog.underlying 164).isSome = true := by rw [Try.underlying164]; rfl
theorem sz_164 : Siz Try.prog 164 2 := Siz.of (by kernel_rfl)
theorem zr_164 : Zer Try.prog 164 [.int .i64 (0), .int .i64 (0)] := Zer.of (by kernel_rfl)
theorem el_164 : Elm Try.prog 164 (.agg #[.int .i64 (0), .int .i64 (0)]) 2 16 := Elm.of (by kernel_rfl) rfl (by decide)
theorem bp_164 {fs : Array Field} (h : Try.prog.underlying 164 = some (.struct fs)) : Plc Try.prog fs [(0, 1), (1, 1)] := by
  have e := h.symm.trans Try.underlying164
  injection e with e
  injection e with e
  subst e
  unfold Plc
  intro w
  kernel_rfl
theorem is_165 : (Try.prog.underlying 165).isSome = true := by rw [Try.underlying165]; rfl
theorem sz_165 : Siz Try.prog 165 2 := Siz.of (by kernel_rfl)
theorem zr_165 : Zer Try.prog 165 [.int .i64 (0), .int .i64 (0)] := Zer.of (by kernel_rfl)
theorem el_165 : Elm Try.prog 165 (.agg #[.int .i64 (0), .int .i64 (0)]) 2 16 := Elm.of (by kernel_rfl) rfl (by decide)
theorem bp_165 {fs : Array Field} (h : Try.prog.underlying 165 = some (.struct fs)) : Plc Try.prog fs [(0, 1), (1, 1)] := by
  have e := h.symm.trans Try.underlying165
  injection e with e
  injection e with e
  subst e
  unfold Plc
  intro w
  kernel_rfl
theorem is_173 : (Try.prog.underlying 173).isSome = true := by rw [Try.underlying173]; rfl
theorem sz_173 : Siz Try.prog 173 2 := Siz.of (by kernel_rfl)
theorem zr_173 : Zer Try.prog 173 [.int .i64 (0), .bool false] := Zer.of (by kernel_rfl)
theorem el_173 : Elm Try.prog 173 (.agg #[.int .i64 (0), .bool false]) 2 16 := Elm.of (by kernel_rfl) rfl (by decide)
theorem bp_173 {fs : Array Field} (h : Try.prog.underlying 173 = some (.struct fs)) : Plc Try.prog fs [(0, 1), (1, 1)] := by
  have e := h.symm.trans Try.underlying173
  injection e with e
  injection e with e
  subst e
  unfold Plc
  intro w
  kernel_rfl
theorem is_174 : (Try.prog.underlying 174).isSome = true := by rw [Try.underlying174]; rfl
theorem sz_174 : Siz Try.prog 174 2 := Siz.of (by kernel_rfl)
theorem zr_174 : Zer Try.prog 174 [.int .i64 (0), .bool false] := Zer.of (by kernel_rfl)
theorem el_174 : Elm Try.prog 174 (.agg #[.int .i64 (0), .bool false]) 2 16 := Elm.of (by kernel_rfl) rfl (by decide)
theorem bp_174 {fs : Array Field} (h : Try.prog.underlying 174 = some (.struct fs)) : Plc Try.prog fs [(0, 1), (1, 1)] := by
  have e := h.symm.trans Try.underlying174
  injection e with e
  injection e with e
  subst e
  unfold Plc
  intro w
  kernel_rfl
theorem sc_175 : Scal Try.prog 175 := Scal.of Try.underlying175 rfl
theorem is_175 : (Try.prog.underlying 175).isSome = true := by rw [Try.underlying175]; rfl
theorem sz_175 : Siz Try.prog 175 1 := Siz.of (by kernel_rfl)
theorem zr_175 : Zer Try.prog 175 [.pointer none] := Zer.of (by kernel_rfl)
theorem el_175 : Elm Try.prog 175 (.pointer none) 1 8 := Elm.of (by kernel_rfl) rfl (by decide)
theorem is_177 : (Try.prog.underlying 177).isSome = true := by rw [Try.underlying177]; rfl
theorem sz_177 : Siz Try.prog 177 2 := Siz.of (by kernel_rfl)
theorem zr_177 : Zer Try.prog 177 [.int .i64 (0), .slice none 0 0] := Zer.of (by kernel_rfl)
theorem el_177 : Elm Try.prog 177 (.agg #[.int .i64 (0), .slice none 0 0]) 2 32 := Elm.of (by kernel_rfl) rfl (by decide)
theorem bp_177 {fs : Array Field} (h : Try.prog.underlying 177 = some (.struct fs)) : Plc Try.prog fs [(0, 1), (1, 1)] := by
  have e := h.symm.trans Try.underlying177
  injection e with e
  injection e with e
  subst e
  unfold Plc
  intro w
  kernel_rfl
theorem is_178 : (Try.prog.underlying 178).isSome = true := by rw [Try.underlying178]; rfl
theorem sz_178 : Siz Try.prog 178 2 := Siz.of (by kernel_rfl)
theorem zr_178 : Zer Try.prog 178 [.int .i64 (0), .slice none 0 0] := Zer.of (by kernel_rfl)
theorem el_178 : Elm Try.prog 178 (.agg #[.int .i64 (0), .slice none 0 0]) 2 32 := Elm.of (by kernel_rfl) rfl (by decide)
theorem bp_178 {fs : Array Field} (h : Try.prog.underlying 178 = some (.struct fs)) : Plc Try.prog fs [(0, 1), (1, 1)] := by
  have e := h.symm.trans Try.underlying178
  injection e with e
  injection e with e
  subst e
  unfold Plc
  intro w
  kernel_rfl
theorem sc_193 : Scal Try.prog 193 := Scal.of Try.underlying193 rfl
theorem is_193 : (Try.prog.underlying 193).isSome = true := by rw [Try.underlying193]; rfl
theorem sz_193 : Siz Try.prog 193 1 := Siz.of (by kernel_rfl)
theorem zr_193 : Zer Try.prog 193 [.float .f64 0] := Zer.of (by kernel_rfl)
theorem el_193 : Elm Try.prog 193 (.float .f64 0) 1 8 := Elm.of (by kernel_rfl) rfl (by decide)
theorem is_194 : (Try.prog.underlying 194).isSome = true := by rw [Try.underlying194]; rfl
theorem sz_194 : Siz Try.prog 194 3 := Siz.of (by kernel_rfl)
theorem zr_194 : Zer Try.prog 194 [.bool false, .int .i64 (0), .float .f64 0] := Zer.of (by kernel_rfl)
theorem el_194 : Elm Try.prog 194 (.agg #[.bool false, .int .i64 (0), .float .f64 0]) 3 24 := Elm.of (by kernel_rfl) rfl (by decide)
theorem bp_194 {fs : Array Field} (h : Try.prog.underlying 194 = some (.struct fs)) : Plc Try.prog fs [(0, 1), (1, 1), (2, 1)] := by
  have e := h.symm.trans Try.underlying194
  injection e with e
  injection e with e
  subst e
  unfold Plc
  intro w
  kernel_rfl
theorem is_195 : (Try.prog.underlying 195).isSome = true := by rw [Try.underlying195]; rfl
theorem sz_195 : Siz Try.prog 195 3 := Siz.of (by kernel_rfl)
theorem zr_195 : Zer Try.prog 195 [.bool false, .int .i64 (0), .float .f64 0] := Zer.of (by kernel_rfl)
theorem el_195 : Elm Try.prog 195 (.agg #[.bool false, .int .i64 (0), .float .f64 0]) 3 24 := Elm.of (by kernel_rfl) rfl (by decide)
theorem bp_195 {fs : Array Field} (h : Try.prog.underlying 195 = some (.struct fs)) : Plc Try.prog fs [(0, 1), (1, 1), (2, 1)] := by
  have e := h.symm.trans Try.underlying195
  injection e with e
  injection e with e
  subst e
  unfold Plc
  intro w
  kernel_rfl
theorem sc_200 : Scal Try.prog 200 := Scal.of Try.underlying200 rfl
theorem is_200 : (Try.prog.underlying 200).isSome = true := by rw [Try.underlying200]; rfl
theorem sz_200 : Siz Try.prog 200 1 := Siz.of (by kernel_rfl)
theorem zr_200 : Zer Try.prog 200 [.map none] := Zer.of (by kernel_rfl)
theorem el_200 : Elm Try.prog 200 (.map none) 1 8 := Elm.of (by kernel_rfl) rfl (by decide)
theorem is_201 : (Try.prog.underlying 201).isSome = true := by rw [Try.underlying201]; rfl
theorem sz_201 : Siz Try.prog 201 2 := Siz.of (by kernel_rfl)
theorem zr_201 : Zer Try.prog 201 [.string ⟨#[]⟩, .int .i64 (0)] := Zer.of (by kernel_rfl)
theorem el_201 : Elm Try.prog 201 (.agg #[.string ⟨#[]⟩, .int .i64 (0)]) 2 24 := Elm.of (by kernel_rfl) rfl (by decide)
theorem bp_201 {fs : Array Field} (h : Try.prog.underlying 201 = some (.struct fs)) : Plc Try.prog fs [(0, 1), (1, 1)] := by
  have e := h.symm.trans Try.underlying201
  injection e with e
  injection e with e
  subst e
  unfold Plc
  intro w
  kernel_rfl
theorem is_202 : (Try.prog.underlying 202).isSome = true := by rw [Try.underlying202]; rfl
theorem sz_202 : Siz Try.prog 202 2 := Siz.of (by kernel_rfl)
theorem zr_202 : Zer Try.prog 202 [.string ⟨#[]⟩, .int .i64 (0)] := Zer.of (by kernel_rfl)
theorem el_202 : Elm Try.prog 202 (.agg #[.string ⟨#[]⟩, .int .i64 (0)]) 2 24 := Elm.of (by kernel_rfl) rfl (by decide)
theorem bp_202 {fs : Array Field} (h : Try.prog.underlying 202 = some (.struct fs)) : Plc Try.prog fs [(0, 1), (1, 1)] := by
  have e := h.symm.trans Try.underlying202
  injection e with e
  injection e with e
  subst e
  unfold Plc
  intro w
  kernel_rfl
theorem is_210 : (Try.prog.underlying 210).isSome = true := by rw [Try.underlying210]; rfl
theorem sz_210 : Siz Try.prog 210 5 := Siz.of (by kernel_rfl)
theorem zr_210 : Zer Try.prog 210 [.int .i64 (0), .int .i64 (0), .slice none 0 0, .int .i64 (0), .int .i64 (0)] := Zer.of (by kernel_rfl)
theorem el_210 : Elm Try.prog 210 (.agg #[.int .i64 (0), .int .i64 (0), .slice none 0 0, .int .i64 (0), .int .i64 (0)]) 5 56 := Elm.of (by kernel_rfl) rfl (by decide)
theorem bp_210 {fs : Array Field} (h : Try.prog.underlying 210 = some (.struct fs)) : Plc Try.prog fs [(0, 1), (1, 1), (2, 1), (3, 1), (4, 1)] := by
  have e := h.symm.trans Try.underlying210
  injection e with e
  injection e with e
  subst e
  unfold Plc
  intro w
  kernel_rfl
theorem is_211 : (Try.prog.underlying 211).isSome = true := by rw [Try.underlying211]; rfl
theorem sz_211 : Siz Try.prog 211 5 := Siz.of (by kernel_rfl)
theorem zr_211 : Zer Try.prog 211 [.int .i64 (0), .int .i64 (0), .slice none 0 0, .int .i64 (0), .int .i64 (0)] := Zer.of (by kernel_rfl)
theorem el_211 : Elm Try.prog 211 (.agg #[.int .i64 (0), .int .i64 (0), .slice none 0 0, .int .i64 (0), .int .i64 (0)]) 5 56 := Elm.of (by kernel_rfl) rfl (by decide)
theorem bp_211 {fs : Array Field} (h : Try.prog.underlying 211 = some (.struct fs)) : Plc Try.prog fs [(0, 1), (1, 1), (2, 1), (3, 1), (4, 1)] := by
  have e := h.symm.trans Try.underlying211
  injection e with e
  injection e with e
  subst e
  unfold Plc
  intro w
  kernel_rfl
theorem is_214 : (Try.prog.underlying 214).isSome = true := by rw [Try.underlying214]; rfl
theorem sz_214 : Siz Try.prog 214 3 := Siz.of (by kernel_rfl)
theorem zr_214 : Zer Try.prog 214 [.slice none 0 0, .float .f64 0, .float .f64 0] := Zer.of (by kernel_rfl)
theorem el_214 : Elm Try.prog 214 (.agg #[.slice none 0 0, .float .f64 0, .float .f64 0]) 3 40 := Elm.of (by kernel_rfl) rfl (by decide)
theorem bp_214 {fs : Array Field} (h : Try.prog.underlying 214 = some (.struct fs)) : Plc Try.prog fs [(0, 1), (1, 1), (2, 1)] := by
  have e := h.symm.trans Try.underlying214
  injection e with e
  injection e with e
  subst e
  unfold Plc
  intro w
  kernel_rfl
theorem is_215 : (Try.prog.underlying 215).isSome = true := by rw [Try.underlying215]; rfl
theorem sz_215 : Siz Try.prog 215 3 := Siz.of (by kernel_rfl)
theorem zr_215 : Zer Try.prog 215 [.slice none 0 0, .float .f64 0, .float .f64 0] := Zer.of (by kernel_rfl)
theorem el_215 : Elm Try.prog 215 (.agg #[.slice none 0 0, .float .f64 0, .float .f64 0]) 3 40 := Elm.of (by kernel_rfl) rfl (by decide)
theorem bp_215 {fs : Array Field} (h : Try.prog.underlying 215 = some (.struct fs)) : Plc Try.prog fs [(0, 1), (1, 1), (2, 1)] := by
  have e := h.symm.trans Try.underlying215
  injection e with e
  injection e with e
  subst e
  unfold Plc
  intro w
  kernel_rfl
theorem sc_222 : Scal Try.prog 222 := Scal.of Try.underlying222 rfl
theorem is_222 : (Try.prog.underlying 222).isSome = true := by rw [Try.underlying222]; rfl
theorem sz_222 : Siz Try.prog 222 1 := Siz.of (by kernel_rfl)
theorem zr_222 : Zer Try.prog 222 [.int .u64 (0)] := Zer.of (by kernel_rfl)
theorem el_222 : Elm Try.prog 222 (.int .u64 (0)) 1 8 := Elm.of (by kernel_rfl) rfl (by decide)
theorem is_224 : (Try.prog.underlying 224).isSome = true := by rw [Try.underlying224]; rfl
theorem sz_224 : Siz Try.prog 224 4 := Siz.of (by kernel_rfl)
theorem zr_224 : Zer Try.prog 224 [.pointer none, .pointer none, .pointer none, .string ⟨#[]⟩] := Zer.of (by kernel_rfl)
theorem el_224 : Elm Try.prog 224 (.agg #[.pointer none, .pointer none, .pointer none, .string ⟨#[]⟩]) 4 40 := Elm.of (by kernel_rfl) rfl (by decide)
theorem bp_224 {fs : Array Field} (h : Try.prog.underlying 224 = some (.struct fs)) : Plc Try.prog fs [(0, 1), (1, 1), (2, 1), (3, 1)] := by
  have e := h.symm.trans Try.underlying224
  injection e with e
  injection e with e
  subst e
  unfold Plc
  intro w
  kernel_rfl
theorem is_225 : (Try.prog.underlying 225).isSome = true := by rw [Try.underlying225]; rfl
theorem sz_225 : Siz Try.prog 225 4 := Siz.of (by kernel_rfl)
theorem zr_225 : Zer Try.prog 225 [.pointer none, .pointer none, .pointer none, .string ⟨#[]⟩] := Zer.of (by kernel_rfl)
theorem el_225 : Elm Try.prog 225 (.agg #[.pointer none, .pointer none, .pointer none, .string ⟨#[]⟩]) 4 40 := Elm.of (by kernel_rfl) rfl (by decide)
theorem bp_225 {fs : Array Field} (h : Try.prog.underlying 225 = some (.struct fs)) : Plc Try.prog fs [(0, 1), (1, 1), (2, 1), (3, 1)] := by
  have e := h.symm.trans Try.underlying225
  injection e with e
  injection e with e
  subst e
  unfold Plc
  intro w
  kernel_rfl
theorem is_226 : (Try.prog.underlying 226).isSome = true := by rw [Try.underlying226]; rfl
theorem is_227 : (Try.prog.underlying 227).isSome = true := by rw [Try.underlying227]; rfl
theorem is_228 : (Try.prog.underlying 228).isSome = true := by rw [Try.underlying228]; rfl
theorem sc_229 : Scal Try.prog 229 := Scal.of Try.underlying229 rfl
theorem is_229 : (Try.prog.underlying 229).isSome = true := by rw [Try.underlying229]; rfl
theorem sz_229 : Siz Try.prog 229 1 := Siz.of (by kernel_rfl)
theorem zr_229 : Zer Try.prog 229 [.int .u8 (0)] := Zer.of (by kernel_rfl)
theorem el_229 : Elm Try.prog 229 (.int .u8 (0)) 1 1 := Elm.of (by kernel_rfl) rfl (by decide)
theorem sc_230 : Scal Try.prog 230 := Scal.of Try.underlying230 rfl
theorem is_230 : (Try.prog.underlying 230).isSome = true := by rw [Try.underlying230]; rfl
theorem sz_230 : Siz Try.prog 230 1 := Siz.of (by kernel_rfl)
theorem zr_230 : Zer Try.prog 230 [.int .u8 (0)] := Zer.of (by kernel_rfl)
theorem el_230 : Elm Try.prog 230 (.int .u8 (0)) 1 1 := Elm.of (by kernel_rfl) rfl (by decide)
theorem sc_232 : Scal Try.prog 232 := Scal.of Try.underlying232 rfl
theorem is_232 : (Try.prog.underlying 232).isSome = true := by rw [Try.underlying232]; rfl
theorem sz_232 : Siz Try.prog 232 1 := Siz.of (by kernel_rfl)
theorem zr_232 : Zer Try.prog 232 [.pointer none] := Zer.of (by kernel_rfl)
theorem el_232 : Elm Try.prog 232 (.pointer none) 1 8 := Elm.of (by kernel_rfl) rfl (by decide)
theorem sc_233 : Scal Try.prog 233 := Scal.of Try.underlying233 rfl
theorem is_233 : (Try.prog.underlying 233).isSome = true := by rw [Try.underlying233]; rfl
theorem sz_233 : Siz Try.prog 233 1 := Siz.of (by kernel_rfl)
theorem zr_233 : Zer Try.prog 233 [.int .i32 (0)] := Zer.of (by kernel_rfl)
theorem el_233 : Elm Try.prog 233 (.int .i32 (0)) 1 4 := Elm.of (by kernel_rfl) rfl (by decide)
theorem sc_234 : Scal Try.prog 234 := Scal.of Try.underlying234 rfl
theorem is_234 : (Try.prog.underlying 234).isSome = true := by rw [Try.underlying234]; rfl
theorem sz_234 : Siz Try.prog 234 1 := Siz.of (by kernel_rfl)
theorem zr_234 : Zer Try.prog 234 [.int .i32 (0)] := Zer.of (by kernel_rfl)
theorem el_234 : Elm Try.prog 234 (.int .i32 (0)) 1 4 := Elm.of (by kernel_rfl) rfl (by decide)
theorem is_235 : (Try.prog.underlying 235).isSome = true := by rw [Try.underlying235]; rfl
theorem sz_235 : Siz Try.prog 235 11 := Siz.of (by kernel_rfl)
theorem zr_235 : Zer Try.prog 235 [.int .u64 (0), .int .u64 (0), .int .u32 (0), .int .u8 (0), .int .u8 (0), .int .u8 (0), .int .u8 (0), .nilFunc, .pointer none, .int .i32 (0), .int .i32 (0)] := Zer.of (by kernel_rfl)
theorem el_235 : Elm Try.prog 235 (.agg #[.int .u64 (0), .int .u64 (0), .int .u32 (0), .int .u8 (0), .int .u8 (0), .int .u8 (0), .int .u8 (0), .nilFunc, .pointer none, .int .i32 (0), .int .i32 (0)]) 11 48 := Elm.of (by kernel_rfl) rfl (by decide)
theorem bp_235 {fs : Array Field} (h : Try.prog.underlying 235 = some (.struct fs)) : Plc Try.prog fs [(0, 1), (1, 1), (2, 1), (3, 1), (4, 1), (5, 1), (6, 1), (7, 1), (8, 1), (9, 1), (10, 1)] := by
  have e := h.symm.trans Try.underlying235
  injection e with e
  injection e with e
  subst e
  unfold Plc
  intro w
  kernel_rfl
theorem is_236 : (Try.prog.underlying 236).isSome = true := by rw [Try.underlying236]; rfl
theorem sz_236 : Siz Try.prog 236 11 := Siz.of (by kernel_rfl)
theorem zr_236 : Zer Try.prog 236 [.int .u64 (0), .int .u64 (0), .int .u32 (0), .int .u8 (0), .int .u8 (0), .int .u8 (0), .int .u8 (0), .nilFunc, .pointer none, .int .i32 (0), .int .i32 (0)] := Zer.of (by kernel_rfl)
theorem el_236 : Elm Try.prog 236 (.agg #[.int .u64 (0), .int .u64 (0), .int .u32 (0), .int .u8 (0), .int .u8 (0), .int .u8 (0), .int .u8 (0), .nilFunc, .pointer none, .int .i32 (0), .int .i32 (0)]) 11 48 := Elm.of (by kernel_rfl) rfl (by decide)
theorem bp_236 {fs : Array Field} (h : Try.prog.underlying 236 = some (.struct fs)) : Plc Try.prog fs [(0, 1), (1, 1), (2, 1), (3, 1), (4, 1), (5, 1), (6, 1), (7, 1), (8, 1), (9, 1), (10, 1)] := by
  have e := h.symm.trans Try.underlying236
  injection e with e
  injection e with e
  subst e
  unfold Plc
  intro w
  kernel_rfl
theorem sc_237 : Scal Try.prog 237 := Scal.of Try.underlying237 rfl
theorem is_237 : (Try.prog.underlying 237).isSome = true := by rw [Try.underlying237]; rfl
theorem sz_237 : Siz Try.prog 237 1 := Siz.of (by kernel_rfl)
theorem zr_237 : Zer Try.prog 237 [.pointer none] := Zer.of (by kernel_rfl)
theorem el_237 : Elm Try.prog 237 (.pointer none) 1 8 := Elm.of (by kernel_rfl) rfl (by decide)
theorem en_2 : Ent Try.prog 2 := by unfold Ent; kernel_rfl
theorem en_3 : Ent Try.prog 3 := by unfold Ent; kernel_rfl
theorem en_4 : Ent Try.prog 4 := by unfold Ent; kernel_rfl
theorem en_5 : Ent Try.prog 5 := by unfold Ent; kernel_rfl
theorem en_6 : Ent Try.prog 6 := by unfold Ent; kernel_rfl
theorem en_7 : Ent Try.prog 7 := by unfold Ent; kernel_rfl
theorem en_8 : Ent Try.prog 8 := by unfold Ent; kernel_rfl
theorem en_9 : Ent Try.prog 9 := by unfold Ent; kernel_rfl
theorem en_10 : Ent Try.prog 10 := by unfold Ent; kernel_rfl
theorem en_11 : Ent Try.prog 11 := by unfold Ent; kernel_rfl
theorem en_12 : Ent Try.prog 12 := by unfold Ent; kernel_rfl
theorem en_13 : Ent Try.prog 13 := by unfold Ent; kernel_rfl
theorem en_14 : Ent Try.prog 14 := by unfold Ent; kernel_rfl
theorem en_15 : Ent Try.prog 15 := by unfold Ent; kernel_rfl
theorem en_16 : Ent Try.prog 16 := by unfold Ent; kernel_rfl
theorem en_17 : Ent Try.prog 17 := by unfold Ent; kernel_rfl
theorem en_18 : Ent Try.prog 18 := by unfold Ent; kernel_rfl
theorem en_19 : Ent Try.prog 19 := by unfold Ent; kernel_rfl
theorem en_20 : Ent Try.prog 20 := by unfold Ent; kernel_rfl
theorem en_21 : Ent Try.prog 21 := by unfold Ent; kernel_rfl
theorem en_22 : Ent Try.prog 22 := by unfold Ent; kernel_rfl
theorem en_23 : Ent Try.prog 23 := by unfold Ent; kernel_rfl
theorem en_24 : Ent Try.prog 24 := by unfold Ent; kernel_rfl
theorem en_25 : Ent Try.prog 25 := by unfold Ent; kernel_rfl
theorem en_26 : Ent Try.prog 26 := by unfold Ent; kernel_rfl
theorem en_27 : Ent Try.prog 27 := by unfold Ent; kernel_rfl
theorem en_28 : Ent Try.prog 28 := by unfold Ent; kernel_rfl
theorem en_29 : Ent Try.prog 29 := by unfold Ent; kernel_rfl
theorem en_30 : Ent Try.prog 30 := by unfold Ent; kernel_rfl
theorem en_31 : Ent Try.prog 31 := by unfold Ent; kernel_rfl
theorem en_32 : Ent Try.prog 32 := by unfold Ent; kernel_rfl
theorem en_33 : Ent Try.prog 33 := by unfold Ent; kernel_rfl
theorem en_34 : Ent Try.prog 34 := by unfold Ent; kernel_rfl
theorem en_35 : Ent Try.prog 35 := by unfold Ent; kernel_rfl
theorem en_36 : Ent Try.prog 36 := by unfold Ent; kernel_rfl
theorem en_37 : Ent Try.prog 37 := by unfold Ent; kernel_rfl
theorem en_38 : Ent Try.prog 38 := by unfold Ent; kernel_rfl
theorem en_39 : Ent Try.prog 39 := by unfold Ent; kernel_rfl
theorem en_40 : Ent Try.prog 40 := by unfold Ent; kernel_rfl
theorem en_41 : Ent Try.prog 41 := by unfold Ent; kernel_rfl
theorem en_42 : Ent Try.prog 42 := by unfold Ent; kernel_rfl
theorem en_43 : Ent Try.prog 43 := by unfold Ent; kernel_rfl
theorem en_44 : Ent Try.prog 44 := by unfold Ent; kernel_rfl
theorem en_45 : Ent Try.prog 45 := by unfold Ent; kernel_rfl
theorem en_46 : Ent Try.prog 46 := by unfold Ent; kernel_rfl
theorem en_47 : Ent Try.prog 47 := by unfold Ent; kernel_rfl
theorem en_48 : Ent Try.prog 48 := by unfold Ent; kernel_rfl
theorem en_49 : Ent Try.prog 49 := by unfold Ent; kernel_rfl
theorem en_50 : Ent Try.prog 50 := by unfold Ent; kernel_rfl
theorem en_51 : Ent Try.prog 51 := by unfold Ent; kernel_rfl
theorem en_52 : Ent Try.prog 52 := by unfold Ent; kernel_rfl
theorem en_53 : Ent Try.prog 53 := by unfold Ent; kernel_rfl
theorem en_54 : Ent Try.prog 54 := by unfold Ent; kernel_rfl
theorem en_55 : Ent Try.prog 55 := by unfold Ent; kernel_rfl
theorem en_56 : Ent Try.prog 56 := by unfold Ent; kernel_rfl
theorem en_57 : Ent Try.prog 57 := by unfold Ent; kernel_rfl
theorem en_58 : Ent Try.prog 58 := by unfold Ent; kernel_rfl
theorem en_59 : Ent Try.prog 59 := by unfold Ent; kernel_rfl
theorem en_60 : Ent Try.prog 60 := by unfold Ent; kernel_rfl
theorem en_61 : Ent Try.prog 61 := by unfold Ent; kernel_rfl
theorem en_62 : Ent Try.prog 62 := by unfold Ent; kernel_rfl
theorem en_63 : Ent Try.prog 63 := by unfold Ent; kernel_rfl
theorem en_64 : Ent Try.prog 64 := by unfold Ent; kernel_rfl
theorem en_65 : Ent Try.prog 65 := by unfold Ent; kernel_rfl
theorem en_66 : Ent Try.prog 66 := by unfold Ent; kernel_rfl
theorem en_67 : Ent Try.prog 67 := by unfold Ent; kernel_rfl
theorem en_68 : Ent Try.prog 68 := by unfold Ent; kernel_rfl
theorem en_69 : Ent Try.prog 69 := by unfold Ent; kernel_rfl
theorem en_70 : Ent Try.prog 70 := by unfold Ent; kernel_rfl
theorem en_71 : Ent Try.prog 71 := by unfold Ent; kernel_rfl
theorem en_72 : Ent Try.prog 72 := by unfold Ent; kernel_rfl
theorem en_73 : Ent Try.prog 73 := by unfold Ent; kernel_rfl
theorem en_74 : Ent Try.prog 74 := by unfold Ent; kernel_rfl
theorem en_75 : Ent Try.prog 75 := by unfold Ent; kernel_rfl
theorem en_76 : Ent Try.prog 76 := by unfold Ent; kernel_rfl
theorem en_77 : Ent Try.prog 77 := by unfold Ent; kernel_rfl
theorem en_78 : Ent Try.prog 78 := by unfold Ent; kernel_rfl
theorem en_79 : Ent Try.prog 79 := by unfold Ent; kernel_rfl
theorem en_80 : Ent Try.prog 80 := by unfold Ent; kernel_rfl
theorem en_81 : Ent Try.prog 81 := by unfold Ent; kernel_rfl
theorem en_82 : Ent Try.prog 82 := by unfold Ent; kernel_rfl
theorem en_83 : Ent Try.prog 83 := by unfold Ent; kernel_rfl
theorem en_84 : Ent Try.prog 84 := by unfold Ent; kernel_rfl
theorem en_85 : Ent Try.prog 85 := by unfold Ent; kernel_rfl
theorem en_86 : Ent Try.prog 86 := by unfold Ent; kernel_rfl
theorem en_87 : Ent Try.prog 87 := by unfold Ent; kernel_rfl
theorem en_88 : Ent Try.prog 88 := by unfold Ent; kernel_rfl
theorem en_89 : Ent Try.prog 89 := by unfold Ent; kernel_rfl
theorem en_90 : Ent Try.prog 90 := by unfold Ent; kernel_rfl
theorem en_91 : Ent Try.prog 91 := by unfold Ent; kernel_rfl
theorem en_92 : Ent Try.prog 92 := by unfold Ent; kernel_rfl
theorem en_93 : Ent Try.prog 93 := by unfold Ent; kernel_rfl
theorem en_94 : Ent Try.prog 94 := by unfold Ent; kernel_rfl
theorem en_95 : Ent Try.prog 95 := by unfold Ent; kernel_rfl
theorem en_96 : Ent Try.prog 96 := by unfold Ent; kernel_rfl
theorem en_97 : Ent Try.prog 97 := by unfold Ent; kernel_rfl
theorem en_98 : Ent Try.prog 98 := by unfold Ent; kernel_rfl
theorem en_99 : Ent Try.prog 99 := by unfold Ent; kernel_rfl
theorem en_100 : Ent Try.prog 100 := by unfold Ent; kernel_rfl
theorem en_101 : Ent Try.prog 101 := by unfold Ent; kernel_rfl
theorem en_102 : Ent Try.prog 102 := by unfold Ent; kernel_rfl
theorem en_103 : Ent Try.prog 103 := by unfold Ent; kernel_rfl
theorem en_104 : Ent Try.prog 104 := by unfold Ent; kernel_rfl
theorem en_105 : Ent Try.prog 105 := by unfold Ent; kernel_rfl
theorem en_106 : Ent Try.prog 106 := by unfold Ent; kernel_rfl
theorem en_107 : Ent Try.prog 107 := by unfold Ent; kernel_rfl
theorem en_108 : Ent Try.prog 108 := by unfold Ent; kernel_rfl
theorem en_109 : Ent Try.prog 109 := by unfold Ent; kernel_rfl
theorem en_110 : Ent Try.prog 110 := by unfold Ent; kernel_rfl
theorem en_111 : Ent Try.prog 111 := by unfold Ent; kernel_rfl
theorem en_112 : Ent Try.prog 112 := by unfold Ent; kernel_rfl
theorem en_113 : Ent Try.prog 113 := by unfold Ent; kernel_rfl
theorem en_114 : Ent Try.prog 114 := by unfold Ent; kernel_rfl
theorem en_115 : Ent Try.prog 115 := by unfold Ent; kernel_rfl
theorem en_116 : Ent Try.prog 116 := by unfold Ent; kernel_rfl
theorem en_117 : Ent Try.prog 117 := by unfold Ent; kernel_rfl
theorem en_118 : Ent Try.prog 118 := by unfold Ent; kernel_rfl
theorem en_119 : Ent Try.prog 119 := by unfold Ent; kernel_rfl
theorem en_120 : Ent Try.prog 120 := by unfold Ent; kernel_rfl
theorem en_121 : Ent Try.prog 121 := by unfold Ent; kernel_rfl
theorem en_122 : Ent Try.prog 122 := by unfold Ent; kernel_rfl
theorem en_123 : Ent Try.prog 123 := by unfold Ent; kernel_rfl
theorem en_124 : Ent Try.prog 124 := by unfold Ent; kernel_rfl
theorem en_125 : Ent Try.prog 125 := by unfold Ent; kernel_rfl
theorem en_126 : Ent Try.prog 126 := by unfold Ent; kernel_rfl
theorem en_127 : Ent Try.prog 127 := by unfold Ent; kernel_rfl
theorem en_128 : Ent Try.prog 128 := by unfold Ent; kernel_rfl
theorem en_129 : Ent Try.prog 129 := by unfold Ent; kernel_rfl
theorem en_130 : Ent Try.prog 130 := by unfold Ent; kernel_rfl
theorem en_131 : Ent Try.prog 131 := by unfold Ent; kernel_rfl
theorem en_132 : Ent Try.prog 132 := by unfold Ent; kernel_rfl
theorem en_133 : Ent Try.prog 133 := by unfold Ent; kernel_rfl
theorem en_134 : Ent Try.prog 134 := by unfold Ent; kernel_rfl
theorem en_135 : Ent Try.prog 135 := by unfold Ent; kernel_rfl
theorem en_136 : Ent Try.prog 136 := by unfold Ent; kernel_rfl
theorem en_137 : Ent Try.prog 137 := by unfold Ent; kernel_rfl
theorem en_138 : Ent Try.prog 138 := by unfold Ent; kernel_rfl
theorem en_139 : Ent Try.prog 139 := by unfold Ent; kernel_rfl
theorem en_140 : Ent Try.prog 140 := by unfold Ent; kernel_rfl
theorem en_141 : Ent Try.prog 141 := by unfold Ent; kernel_rfl
theorem en_142 : Ent Try.prog 142 := by unfold Ent; kernel_rfl
theorem en_144 : Ent Try.prog 144 := by unfold Ent; kernel_rfl
theorem en_161 : Ent Try.prog 161 := by unfold Ent; kernel_rfl
theorem en_162 : Ent Try.prog 162 := by unfold Ent; kernel_rfl
theorem en_163 : Ent Try.prog 163 := by unfold Ent; kernel_rfl
theorem en_164 : Ent Try.prog 164 := by unfold Ent; kernel_rfl
theorem en_165 : Ent Try.prog 165 := by unfold Ent; kernel_rfl
end Go.Proofs.Ytdmfikedojgjbaa.H
