/-
  Facts on the types and functions of this seat, for the logic of YtmnlaekcojblkaaHoa.
-/
import Derived.Test.YtmnlaekcojblkaaLogic
namespace Go.Proofs.Ytmnlaekcojblkaa.H
open Go.RowKit Go.Proofs.Ytmnlaekcojblkaa
theorem mixed : Try.prog.follows .mixedOrders = true := by kernel_rfl
theorem sc_2 : Scal Try.prog 2 := Scal.of Try.underlying2 rfl
theorem is_2 : (Try.prog.underlying 2).isSome = true := by rw [Try.underlying2]; rfl
theorem sz_2 : Siz Try.prog 2 1 := Siz.of (by kernel_rfl)
theorem zr_2 : Zer Try.prog 2 [.int .i64 (0)] := Zer.of (by kernel_rfl)
theorem el_2 : Elm Try.prog 2 (.int .i64 (0)) 1 8 := Elm.of (by kernel_rfl) rfl (by decide)
theorem sc_3 : Scal Try.prog 3 := Scal.of Try.underlying3 rfl
theorem is_3 : (Try.prog.underlying 3).isSome = true := by rw [Try.underlying3]; rfl
theorem sz_3 : Siz Try.prog 3 1 := Siz.of (by kernel_rfl)
theorem zr_3 : Zer Try.prog 3 [.int .i64 (0)] := Zer.of (by kernel_rfl)
theorem el_3 : Elm Try.prog 3 (.int .i64 (0)) 1 8 := Elm.of (by kernel_rfl) rfl (by decide)
theorem sc_4 : Scal Try.prog 4 := Scal.of Try.underlying4 rfl
theorem is_4 : (Try.prog.underlying 4).isSome = true := by rw [Try.underlying4]; rfl
theorem sz_4 : Siz Try.prog 4 1 := Siz.of (by kernel_rfl)
theorem zr_4 : Zer Try.prog 4 [.bool false] := Zer.of (by kernel_rfl)
theorem el_4 : Elm Try.prog 4 (.bool false) 1 1 := Elm.of (by kernel_rfl) rfl (by decide)
theorem sc_5 : Scal Try.prog 5 := Scal.of Try.underlying5 rfl
theorem is_5 : (Try.prog.underlying 5).isSome = true := by rw [Try.underlying5]; rfl
theorem sz_5 : Siz Try.prog 5 1 := Siz.of (by kernel_rfl)
theorem zr_5 : Zer Try.prog 5 [.int .u8 (0)] := Zer.of (by kernel_rfl)
theorem el_5 : Elm Try.prog 5 (.int .u8 (0)) 1 1 := Elm.of (by kernel_rfl) rfl (by decide)
theorem sc_6 : Scal Try.prog 6 := Scal.of Try.underlying6 rfl
theorem is_6 : (Try.prog.underlying 6).isSome = true := by rw [Try.underlying6]; rfl
theorem sz_6 : Siz Try.prog 6 1 := Siz.of (by kernel_rfl)
theorem zr_6 : Zer Try.prog 6 [.int .u8 (0)] := Zer.of (by kernel_rfl)
theorem el_6 : Elm Try.prog 6 (.int .u8 (0)) 1 1 := Elm.of (by kernel_rfl) rfl (by decide)
theorem is_7 : (Try.prog.underlying 7).isSome = true := by rw [Try.underlying7]; rfl
theorem sz_7 : Siz Try.prog 7 4 := Siz.of (by kernel_rfl)
theorem zr_7 : Zer Try.prog 7 [.int .i64 (0), .int .i64 (0), .bool false, .int .u8 (0)] := Zer.of (by kernel_rfl)
theorem el_7 : Elm Try.prog 7 (.agg #[.int .i64 (0), .int .i64 (0), .bool false, .int .u8 (0)]) 4 24 := Elm.of (by kernel_rfl) rfl (by decide)
theorem bp_7 {fs : Array Field} (h : Try.prog.underlying 7 = some (.struct fs)) : Plc Try.prog fs [(0, 1), (1, 1), (2, 1), (3, 1)] := by
  have e := h.symm.trans Try.underlying7
  injection e with e
  injection e with e
  subst e
  unfold Plc
  intro w
  kernel_rfl
theorem is_8 : (Try.prog.underlying 8).isSome = true := by rw [Try.underlying8]; rfl
theorem sz_8 : Siz Try.prog 8 4 := Siz.of (by kernel_rfl)
theorem zr_8 : Zer Try.prog 8 [.int .i64 (0), .int .i64 (0), .bool false, .int .u8 (0)] := Zer.of (by kernel_rfl)
theorem el_8 : Elm Try.prog 8 (.agg #[.int .i64 (0), .int .i64 (0), .bool false, .int .u8 (0)]) 4 24 := Elm.of (by kernel_rfl) rfl (by decide)
theorem bp_8 {fs : Array Field} (h : Try.prog.underlying 8 = some (.struct fs)) : Plc Try.prog fs [(0, 1), (1, 1), (2, 1), (3, 1)] := by
  have e := h.symm.trans Try.underlying8
  injection e with e
  injection e with e
  subst e
  unfold Plc
  intro w
  kernel_rfl
theorem sc_9 : Scal Try.prog 9 := Scal.of Try.underlying9 rfl
theorem is_9 : (Try.prog.underlying 9).isSome = true := by rw [Try.underlying9]; rfl
theorem sz_9 : Siz Try.prog 9 1 := Siz.of (by kernel_rfl)
theorem zr_9 : Zer Try.prog 9 [.string ⟨#[]⟩] := Zer.of (by kernel_rfl)
theorem el_9 : Elm Try.prog 9 (.string ⟨#[]⟩) 1 16 := Elm.of (by kernel_rfl) rfl (by decide)
theorem sc_10 : Scal Try.prog 10 := Scal.of Try.underlying10 rfl
theorem is_10 : (Try.prog.underlying 10).isSome = true := by rw [Try.underlying10]; rfl
theorem sz_10 : Siz Try.prog 10 1 := Siz.of (by kernel_rfl)
theorem zr_10 : Zer Try.prog 10 [.string ⟨#[]⟩] := Zer.of (by kernel_rfl)
theorem el_10 : Elm Try.prog 10 (.string ⟨#[]⟩) 1 16 := Elm.of (by kernel_rfl) rfl (by decide)
theorem sc_11 : Scal Try.prog 11 := Scal.of Try.underlying11 rfl
theorem is_11 : (Try.prog.underlying 11).isSome = true := by rw [Try.underlying11]; rfl
theorem sz_11 : Siz Try.prog 11 1 := Siz.of (by kernel_rfl)
theorem zr_11 : Zer Try.prog 11 [.string ⟨#[]⟩] := Zer.of (by kernel_rfl)
theorem el_11 : Elm Try.prog 11 (.string ⟨#[]⟩) 1 16 := Elm.of (by kernel_rfl) rfl (by decide)
theorem sc_12 : Scal Try.prog 12 := Scal.of Try.underlying12 rfl
theorem is_12 : (Try.prog.underlying 12).isSome = true := by rw [Try.underlying12]; rfl
theorem sz_12 : Siz Try.prog 12 1 := Siz.of (by kernel_rfl)
theorem zr_12 : Zer Try.prog 12 [.int .u64 (0)] := Zer.of (by kernel_rfl)
theorem el_12 : Elm Try.prog 12 (.int .u64 (0)) 1 8 := Elm.of (by kernel_rfl) rfl (by decide)
theorem is_13 : (Try.prog.underlying 13).isSome = true := by rw [Try.underlying13]; rfl
theorem sz_13 : Siz Try.prog 13 2 := Siz.of (by kernel_rfl)
theorem zr_13 : Zer Try.prog 13 [.string ⟨#[]⟩, .int .u64 (0)] := Zer.of (by kernel_rfl)
theorem el_13 : Elm Try.prog 13 (.agg #[.string ⟨#[]⟩, .int .u64 (0)]) 2 24 := Elm.of (by kernel_rfl) rfl (by decide)
theorem bp_13 {fs : Array Field} (h : Try.prog.underlying 13 = some (.struct fs)) : Plc Try.prog fs [(0, 1), (1, 1)] := by
  have e := h.symm.trans Try.underlying13
  injection e with e
  injection e with e
  subst e
  unfold Plc
  intro w
  kernel_rfl
theorem is_14 : (Try.prog.underlying 14).isSome = true := by rw [Try.underlying14]; rfl
theorem sz_14 : Siz Try.prog 14 2 := Siz.of (by kernel_rfl)
theorem zr_14 : Zer Try.prog 14 [.string ⟨#[]⟩, .int .u64 (0)] := Zer.of (by kernel_rfl)
theorem el_14 : Elm Try.prog 14 (.agg #[.string ⟨#[]⟩, .int .u64 (0)]) 2 24 := Elm.of (by kernel_rfl) rfl (by decide)
theorem bp_14 {fs : Array Field} (h : Try.prog.underlying 14 = some (.struct fs)) : Plc Try.prog fs [(0, 1), (1, 1)] := by
  have e := h.symm.trans Try.underlying14
  injection e with e
  injection e with e
  subst e
  unfold Plc
  intro w
  kernel_rfl
theorem sc_15 : Scal Try.prog 15 := Scal.of Try.underlying15 rfl
theorem is_15 : (Try.prog.underlying 15).isSome = true := by rw [Try.underlying15]; rfl
theorem sz_15 : Siz Try.prog 15 1 := Siz.of (by kernel_rfl)
theorem zr_15 : Zer Try.prog 15 [.pointer none] := Zer.of (by kernel_rfl)
theorem el_15 : Elm Try.prog 15 (.pointer none) 1 8 := Elm.of (by kernel_rfl) rfl (by decide)
theorem sc_16 : Scal Try.prog 16 := Scal.of Try.underlying16 rfl
theorem is_16 : (Try.prog.underlying 16).isSome = true := by rw [Try.underlying16]; rfl
theorem sz_16 : Siz Try.prog 16 1 := Siz.of (by kernel_rfl)
theorem zr_16 : Zer Try.prog 16 [.pointer none] := Zer.of (by kernel_rfl)
theorem el_16 : Elm Try.prog 16 (.pointer none) 1 8 := Elm.of (by kernel_rfl) rfl (by decide)
theorem sc_17 : Scal Try.prog 17 := Scal.of Try.underlying17 rfl
theorem is_17 : (Try.prog.underlying 17).isSome = true := by rw [Try.underlying17]; rfl
theorem sz_17 : Siz Try.prog 17 1 := Siz.of (by kernel_rfl)
theorem zr_17 : Zer Try.prog 17 [.pointer none] := Zer.of (by kernel_rfl)
theorem el_17 : Elm Try.prog 17 (.pointer none) 1 8 := Elm.of (by kernel_rfl) rfl (by decide)
theorem is_18 : (Try.prog.underlying 18).isSome = true := by rw [Try.underlying18]; rfl
theorem sz_18 : Siz Try.prog 18 1 := Siz.of (by kernel_rfl)
theorem zr_18 : Zer Try.prog 18 [.pointer none] := Zer.of (by kernel_rfl)
theorem el_18 : Elm Try.prog 18 (.agg #[.pointer none]) 1 8 := Elm.of (by kernel_rfl) rfl (by decide)
theorem bp_18 {fs : Array Field} (h : Try.prog.underlying 18 = some (.struct fs)) : Plc Try.prog fs [(0, 1)] := by
  have e := h.symm.trans Try.underlying18
  injection e with e
  injection e with e
  subst e
  unfold Plc
  intro w
  kernel_rfl
theorem is_19 : (Try.prog.underlying 19).isSome = true := by rw [Try.underlying19]; rfl
theorem sz_19 : Siz Try.prog 19 1 := Siz.of (by kernel_rfl)
theorem zr_19 : Zer Try.prog 19 [.pointer none] := Zer.of (by kernel_rfl)
theorem el_19 : Elm Try.prog 19 (.agg #[.pointer none]) 1 8 := Elm.of (by kernel_rfl) rfl (by decide)
theorem bp_19 {fs : Array Field} (h : Try.prog.underlying 19 = some (.struct fs)) : Plc Try.prog fs [(0, 1)] := by
  have e := h.symm.trans Try.underlying19
  injection e with e
  injection e with e
  subst e
  unfold Plc
  intro w
  kernel_rfl
theorem sc_21 : Scal Try.prog 21 := Scal.of Try.underlying21 rfl
theorem is_21 : (Try.prog.underlying 21).isSome = true := by rw [Try.underlying21]; rfl
theorem sz_21 : Siz Try.prog 21 1 := Siz.of (by kernel_rfl)
theorem zr_21 : Zer Try.prog 21 [.int .i32 (0)] := Zer.of (by kernel_rfl)
theorem el_21 : Elm Try.prog 21 (.int .i32 (0)) 1 4 := Elm.of (by kernel_rfl) rfl (by decide)
theorem sc_22 : Scal Try.prog 22 := Scal.of Try.underlying22 rfl
theorem is_22 : (Try.prog.underlying 22).isSome = true := by rw [Try.underlying22]; rfl
theorem sz_22 : Siz Try.prog 22 1 := Siz.of (by kernel_rfl)
theorem zr_22 : Zer Try.prog 22 [.slice none 0 0] := Zer.of (by kernel_rfl)
theorem el_22 : Elm Try.prog 22 (.slice none 0 0) 1 24 := Elm.of (by kernel_rfl) rfl (by decide)
theorem sc_23 : Scal Try.prog 23 := Scal.of Try.underlying23 rfl
theorem is_23 : (Try.prog.underlying 23).isSome = true := by rw [Try.underlying23]; rfl
theorem sz_23 : Siz Try.prog 23 1 := Siz.of (by kernel_rfl)
theorem zr_23 : Zer Try.prog 23 [.slice none 0 0] := Zer.of (by kernel_rfl)
theorem el_23 : Elm Try.prog 23 (.slice none 0 0) 1 24 := Elm.of (by kernel_rfl) rfl (by decide)
theorem sc_29 : Scal Try.prog 29 := Scal.of Try.underlying29 rfl
theorem is_29 : (Try.prog.underlying 29).isSome = true := by rw [Try.underlying29]; rfl
theorem sz_29 : Siz Try.prog 29 1 := Siz.of (by kernel_rfl)
theorem zr_29 : Zer Try.prog 29 [.slice none 0 0] := Zer.of (by kernel_rfl)
theorem el_29 : Elm Try.prog 29 (.slice none 0 0) 1 24 := Elm.of (by kernel_rfl) rfl (by decide)
theorem sc_30 : Scal Try.prog 30 := Scal.of Try.underlying30 rfl
theorem is_30 : (Try.prog.underlying 30).isSome = true := by rw [Try.underlying30]; rfl
theorem sz_30 : Siz Try.prog 30 1 := Siz.of (by kernel_rfl)
theorem zr_30 : Zer Try.prog 30 [.slice none 0 0] := Zer.of (by kernel_rfl)
theorem el_30 : Elm Try.prog 30 (.slice none 0 0) 1 24 := Elm.of (by kernel_rfl) rfl (by decide)
theorem is_31 : (Try.prog.underlying 31).isSome = true := by rw [Try.underlying31]; rfl
theorem sz_31 : Siz Try.prog 31 2 := Siz.of (by kernel_rfl)
theorem zr_31 : Zer Try.prog 31 [.slice none 0 0, .slice none 0 0] := Zer.of (by kernel_rfl)
theorem el_31 : Elm Try.prog 31 (.agg #[.slice none 0 0, .slice none 0 0]) 2 48 := Elm.of (by kernel_rfl) rfl (by decide)
theorem bp_31 {fs : Array Field} (h : Try.prog.underlying 31 = some (.struct fs)) : Plc Try.prog fs [(0, 1), (1, 1)] := by
  have e := h.symm.trans Try.underlying31
  injection e with e
  injection e with e
  subst e
  unfold Plc
  intro w
  kernel_rfl
theorem is_32 : (Try.prog.underlying 32).isSome = true := by rw [Try.underlying32]; rfl
theorem sz_32 : Siz Try.prog 32 2 := Siz.of (by kernel_rfl)
theorem zr_32 : Zer Try.prog 32 [.slice none 0 0, .slice none 0 0] := Zer.of (by kernel_rfl)
theorem el_32 : Elm Try.prog 32 (.agg #[.slice none 0 0, .slice none 0 0]) 2 48 := Elm.of (by kernel_rfl) rfl (by decide)
theorem bp_32 {fs : Array Field} (h : Try.prog.underlying 32 = some (.struct fs)) : Plc Try.prog fs [(0, 1), (1, 1)] := by
  have e := h.symm.trans Try.underlying32
  injection e with e
  injection e with e
  subst e
  unfold Plc
  intro w
  kernel_rfl
theorem sc_33 : Scal Try.prog 33 := Scal.of Try.underlying33 rfl
theorem is_33 : (Try.prog.underlying 33).isSome = true := by rw [Try.underlying33]; rfl
theorem sz_33 : Siz Try.prog 33 1 := Siz.of (by kernel_rfl)
theorem zr_33 : Zer Try.prog 33 [.slice none 0 0] := Zer.of (by kernel_rfl)
theorem el_33 : Elm Try.prog 33 (.slice none 0 0) 1 24 := Elm.of (by kernel_rfl) rfl (by decide)
theorem sc_38 : Scal Try.prog 38 := Scal.of Try.underlying38 rfl
theorem is_38 : (Try.prog.underlying 38).isSome = true := by rw [Try.underlying38]; rfl
theorem sz_38 : Siz Try.prog 38 1 := Siz.of (by kernel_rfl)
theorem zr_38 : Zer Try.prog 38 [.slice none 0 0] := Zer.of (by kernel_rfl)
theorem el_38 : Elm Try.prog 38 (.slice none 0 0) 1 24 := Elm.of (by kernel_rfl) rfl (by decide)
theorem sc_43 : Scal Try.prog 43 := Scal.of Try.underlying43 rfl
theorem is_43 : (Try.prog.underlying 43).isSome = true := by rw [Try.underlying43]; rfl
theorem sz_43 : Siz Try.prog 43 1 := Siz.of (by kernel_rfl)
theorem zr_43 : Zer Try.prog 43 [.slice none 0 0] := Zer.of (by kernel_rfl)
theorem el_43 : Elm Try.prog 43 (.slice none 0 0) 1 24 := Elm.of (by kernel_rfl) rfl (by decide)
theorem sc_45 : Scal Try.prog 45 := Scal.of Try.underlying45 rfl
theorem is_45 : (Try.prog.underlying 45).isSome = true := by rw [Try.underlying45]; rfl
theorem sz_45 : Siz Try.prog 45 1 := Siz.of (by kernel_rfl)
theorem zr_45 : Zer Try.prog 45 [.slice none 0 0] := Zer.of (by kernel_rfl)
theorem el_45 : Elm Try.prog 45 (.slice none 0 0) 1 24 := Elm.of (by kernel_rfl) rfl (by decide)
theorem sc_46 : Scal Try.prog 46 := Scal.of Try.underlying46 rfl
theorem is_46 : (Try.prog.underlying 46).isSome = true := by rw [Try.underlying46]; rfl
theorem sz_46 : Siz Try.prog 46 1 := Siz.of (by kernel_rfl)
theorem zr_46 : Zer Try.prog 46 [.int .i64 (0)] := Zer.of (by kernel_rfl)
theorem el_46 : Elm Try.prog 46 (.int .i64 (0)) 1 8 := Elm.of (by kernel_rfl) rfl (by decide)
theorem sc_53 : Scal Try.prog 53 := Scal.of Try.underlying53 rfl
theorem is_53 : (Try.prog.underlying 53).isSome = true := by rw [Try.underlying53]; rfl
theorem sz_53 : Siz Try.prog 53 1 := Siz.of (by kernel_rfl)
theorem zr_53 : Zer Try.prog 53 [.int .u32 (0)] := Zer.of (by kernel_rfl)
theorem el_53 : Elm Try.prog 53 (.int .u32 (0)) 1 4 := Elm.of (by kernel_rfl) rfl (by decide)
theorem sc_54 : Scal Try.prog 54 := Scal.of Try.underlying54 rfl
theorem is_54 : (Try.prog.underlying 54).isSome = true := by rw [Try.underlying54]; rfl
theorem sz_54 : Siz Try.prog 54 1 := Siz.of (by kernel_rfl)
theorem zr_54 : Zer Try.prog 54 [.slice none 0 0] := Zer.of (by kernel_rfl)
theorem el_54 : Elm Try.prog 54 (.slice none 0 0) 1 24 := Elm.of (by kernel_rfl) rfl (by decide)
theorem sc_67 : Scal Try.prog 67 := Scal.of Try.underlying67 rfl
theorem is_67 : (Try.prog.underlying 67).isSome = true := by rw [Try.underlying67]; rfl
theorem sz_67 : Siz Try.prog 67 1 := Siz.of (by kernel_rfl)
theorem zr_67 : Zer Try.prog 67 [.slice none 0 0] := Zer.of (by kernel_rfl)
theorem el_67 : Elm Try.prog 67 (.slice none 0 0) 1 24 := Elm.of (by kernel_rfl) rfl (by decide)
theorem sc_68 : Scal Try.prog 68 := Scal.of Try.underlying68 rfl
theorem is_68 : (Try.prog.underlying 68).isSome = true := by rw [Try.underlying68]; rfl
theorem sz_68 : Siz Try.prog 68 1 := Siz.of (by kernel_rfl)
theorem zr_68 : Zer Try.prog 68 [.slice none 0 0] := Zer.of (by kernel_rfl)
theorem el_68 : Elm Try.prog 68 (.slice none 0 0) 1 24 := Elm.of (by kernel_rfl) rfl (by decide)
theorem is_69 : (Try.prog.underlying 69).isSome = true := by rw [Try.underlying69]; rfl
theorem sz_69 : Siz Try.prog 69 4 := Siz.of (by kernel_rfl)
theorem zr_69 : Zer Try.prog 69 [.slice none 0 0, .slice none 0 0, .slice none 0 0, .slice none 0 0] := Zer.of (by kernel_rfl)
theorem el_69 : Elm Try.prog 69 (.agg #[.slice none 0 0, .slice none 0 0, .slice none 0 0, .slice none 0 0]) 4 96 := Elm.of (by kernel_rfl) rfl (by decide)
theorem bp_69 {fs : Array Field} (h : Try.prog.underlying 69 = some (.struct fs)) : Plc Try.prog fs [(0, 1), (1, 1), (2, 1), (3, 1)] := by
  have e := h.symm.trans Try.underlying69
  injection e with e
  injection e with e
  subst e
  unfold Plc
  intro w
  kernel_rfl
theorem is_70 : (Try.prog.underlying 70).isSome = true := by rw [Try.underlying70]; rfl
theorem sz_70 : Siz Try.prog 70 4 := Siz.of (by kernel_rfl)
theorem zr_70 : Zer Try.prog 70 [.slice none 0 0, .slice none 0 0, .slice none 0 0, .slice none 0 0] := Zer.of (by kernel_rfl)
theorem el_70 : Elm Try.prog 70 (.agg #[.slice none 0 0, .slice none 0 0, .slice none 0 0, .slice none 0 0]) 4 96 := Elm.of (by kernel_rfl) rfl (by decide)
theorem bp_70 {fs : Array Field} (h : Try.prog.underlying 70 = some (.struct fs)) : Plc Try.prog fs [(0, 1), (1, 1), (2, 1), (3, 1)] := by
  have e := h.symm.trans Try.underlying70
  injection e with e
  injection e with e
  subst e
  unfold Plc
  intro w
  kernel_rfl
theorem sc_71 : Scal Try.prog 71 := Scal.of Try.underlying71 rfl
theorem is_71 : (Try.prog.underlying 71).isSome = true := by rw [Try.underlying71]; rfl
theorem sz_71 : Siz Try.prog 71 1 := Siz.of (by kernel_rfl)
theorem zr_71 : Zer Try.prog 71 [.slice none 0 0] := Zer.of (by kernel_rfl)
theorem el_71 : Elm Try.prog 71 (.slice none 0 0) 1 24 := Elm.of (by kernel_rfl) rfl (by decide)
theorem is_83 : (Try.prog.underlying 83).isSome = true := by rw [Try.underlying83]; rfl
theorem sz_83 : Siz Try.prog 83 2 := Siz.of (by kernel_rfl)
theorem zr_83 : Zer Try.prog 83 [.string ⟨#[]⟩, .int .i64 (0)] := Zer.of (by kernel_rfl)
theorem el_83 : Elm Try.prog 83 (.agg #[.string ⟨#[]⟩, .int .i64 (0)]) 2 24 := Elm.of (by kernel_rfl) rfl (by decide)
theorem bp_83 {fs : Array Field} (h : Try.prog.underlying 83 = some (.struct fs)) : Plc Try.prog fs [(0, 1), (1, 1)] := by
  have e := h.symm.trans Try.underlying83
  injection e with e
  injection e with e
  subst e
  unfold Plc
  intro w
  kernel_rfl
theorem is_84 : (Try.prog.underlying 84).isSome = true := by rw [Try.underlying84]; rfl
theorem sz_84 : Siz Try.prog 84 2 := Siz.of (by kernel_rfl)
theorem zr_84 : Zer Try.prog 84 [.string ⟨#[]⟩, .int .i64 (0)] := Zer.of (by kernel_rfl)
theorem el_84 : Elm Try.prog 84 (.agg #[.string ⟨#[]⟩, .int .i64 (0)]) 2 24 := Elm.of (by kernel_rfl) rfl (by decide)
theorem bp_84 {fs : Array Field} (h : Try.prog.underlying 84 = some (.struct fs)) : Plc Try.prog fs [(0, 1), (1, 1)] := by
  have e := h.symm.trans Try.underlying84
  injection e with e
  injection e with e
  subst e
  unfold Plc
  intro w
  kernel_rfl
theorem sc_86 : Scal Try.prog 86 := Scal.of Try.underlying86 rfl
theorem is_86 : (Try.prog.underlying 86).isSome = true := by rw [Try.underlying86]; rfl
theorem sz_86 : Siz Try.prog 86 1 := Siz.of (by kernel_rfl)
theorem zr_86 : Zer Try.prog 86 [.slice none 0 0] := Zer.of (by kernel_rfl)
theorem el_86 : Elm Try.prog 86 (.slice none 0 0) 1 24 := Elm.of (by kernel_rfl) rfl (by decide)
theorem is_87 : (Try.prog.underlying 87).isSome = true := by rw [Try.underlying87]; rfl
theorem sz_87 : Siz Try.prog 87 5 := Siz.of (by kernel_rfl)
theorem zr_87 : Zer Try.prog 87 [.int .u32 (0), .slice none 0 0, .slice none 0 0, .slice none 0 0, .int .i64 (0)] := Zer.of (by kernel_rfl)
theorem el_87 : Elm Try.prog 87 (.agg #[.int .u32 (0), .slice none 0 0, .slice none 0 0, .slice none 0 0, .int .i64 (0)]) 5 88 := Elm.of (by kernel_rfl) rfl (by decide)
theorem bp_87 {fs : Array Field} (h : Try.prog.underlying 87 = some (.struct fs)) : Plc Try.prog fs [(0, 1), (1, 1), (2, 1), (3, 1), (4, 1)] := by
  have e := h.symm.trans Try.underlying87
  injection e with e
  injection e with e
  subst e
  unfold Plc
  intro w
  kernel_rfl
theorem is_88 : (Try.prog.underlying 88).isSome = true := by rw [Try.underlying88]; rfl
theorem sz_88 : Siz Try.prog 88 5 := Siz.of (by kernel_rfl)
theorem zr_88 : Zer Try.prog 88 [.int .u32 (0), .slice none 0 0, .slice none 0 0, .slice none 0 0, .int .i64 (0)] := Zer.of (by kernel_rfl)
theorem el_88 : Elm Try.prog 88 (.agg #[.int .u32 (0), .slice none 0 0, .slice none 0 0, .slice none 0 0, .int .i64 (0)]) 5 88 := Elm.of (by kernel_rfl) rfl (by decide)
theorem bp_88 {fs : Array Field} (h : Try.prog.underlying 88 = some (.struct fs)) : Plc Try.prog fs [(0, 1), (1, 1), (2, 1), (3, 1), (4, 1)] := by
  have e := h.symm.trans Try.underlying88
  injection e with e
  injection e with e
  subst e
  unfold Plc
  intro w
  kernel_rfl
theorem is_98 : (Try.prog.underlying 98).isSome = true := by rw [Try.underlying98]; rfl
theorem sz_98 : Siz Try.prog 98 2 := Siz.of (by kernel_rfl)
theorem zr_98 : Zer Try.prog 98 [.int .i64 (0), .bool false] := Zer.of (by kernel_rfl)
theorem el_98 : Elm Try.prog 98 (.agg #[.int .i64 (0), .bool false]) 2 16 := Elm.of (by kernel_rfl) rfl (by decide)
theorem bp_98 {fs : Array Field} (h : Try.prog.underlying 98 = some (.struct fs)) : Plc Try.prog fs [(0, 1), (1, 1)] := by
  have e := h.symm.trans Try.underlying98
  injection e with e
  injection e with e
  subst e
  unfold Plc
  intro w
  kernel_rfl
theorem is_99 : (Try.prog.underlying 99).isSome = true := by rw [Try.underlying99]; rfl
theorem sz_99 : Siz Try.prog 99 2 := Siz.of (by kernel_rfl)
theorem zr_99 : Zer Try.prog 99 [.int .i64 (0), .bool false] := Zer.of (by kernel_rfl)
theorem el_99 : Elm Try.prog 99 (.agg #[.int .i64 (0), .bool false]) 2 16 := Elm.of (by kernel_rfl) rfl (by decide)
theorem bp_99 {fs : Array Field} (h : Try.prog.underlying 99 = some (.struct fs)) : Plc Try.prog fs [(0, 1), (1, 1)] := by
  have e := h.symm.trans Try.underlying99
  injection e with e
  injection e with e
  subst e
  unfold Plc
  intro w
  kernel_rfl
theorem sc_100 : Scal Try.prog 100 := Scal.of Try.underlying100 rfl
theorem is_100 : (Try.prog.underlying 100).isSome = true := by rw [Try.underlying100]; rfl
theorem sz_100 : Siz Try.prog 100 1 := Siz.of (by kernel_rfl)
theorem zr_100 : Zer Try.prog 100 [.float .f64 0] := Zer.of (by kernel_rfl)
theorem el_100 : Elm Try.prog 100 (.float .f64 0) 1 8 := Elm.of (by kernel_rfl) rfl (by decide)
theorem is_101 : (Try.prog.underlying 101).isSome = true := by rw [Try.underlying101]; rfl
theorem sz_101 : Siz Try.prog 101 3 := Siz.of (by kernel_rfl)
theorem zr_101 : Zer Try.prog 101 [.bool false, .int .i64 (0), .float .f64 0] := Zer.of (by kernel_rfl)
theorem el_101 : Elm Try.prog 101 (.agg #[.bool false, .int .i64 (0), .float .f64 0]) 3 24 := Elm.of (by kernel_rfl) rfl (by decide)
theorem bp_101 {fs : Array Field} (h : Try.prog.underlying 101 = some (.struct fs)) : Plc Try.prog fs [(0, 1), (1, 1), (2, 1)] := by
  have e := h.symm.trans Try.underlying101
  injection e with e
  injection e with e
  subst e
  unfold Plc
  intro w
  kernel_rfl
theorem is_102 : (Try.prog.underlying 102).isSome = true := by rw [Try.underlying102]; rfl
theorem sz_102 : Siz Try.prog 102 3 := Siz.of (by kernel_rfl)
theorem zr_102 : Zer Try.prog 102 [.bool false, .int .i64 (0), .float .f64 0] := Zer.of (by kernel_rfl)
theorem el_102 : Elm Try.prog 102 (.agg #[.bool false, .int .i64 (0), .float .f64 0]) 3 24 := Elm.of (by kernel_rfl) rfl (by decide)
theorem bp_102 {fs : Array Field} (h : Try.prog.underlying 102 = some (.struct fs)) : Plc Try.prog fs [(0, 1), (1, 1), (2, 1)] := by
  have e := h.symm.trans Try.underlying102
  injection e with e
  injection e with e
  subst e
  unfold Plc
  intro w
  kernel_rfl
theorem sc_110 : Scal Try.prog 110 := Scal.of Try.underlying110 rfl
theorem is_110 : (Try.prog.underlying 110).isSome = true := by rw [Try.underlying110]; rfl
theorem sz_110 : Siz Try.prog 110 1 := Siz.of (by kernel_rfl)
theorem zr_110 : Zer Try.prog 110 [.pointer none] := Zer.of (by kernel_rfl)
theorem el_110 : Elm Try.prog 110 (.pointer none) 1 8 := Elm.of (by kernel_rfl) rfl (by decide)
theorem is_111 : (Try.prog.underlying 111).isSome = true := by rw [Try.underlying111]; rfl
theorem sz_111 : Siz Try.prog 111 2 := Siz.of (by kernel_rfl)
theorem zr_111 : Zer Try.prog 111 [.slice none 0 0, .slice none 0 0] := Zer.of (by kernel_rfl)
theorem el_111 : Elm Try.prog 111 (.agg #[.slice none 0 0, .slice none 0 0]) 2 48 := Elm.of (by kernel_rfl) rfl (by decide)
theorem bp_111 {fs : Array Field} (h : Try.prog.underlying 111 = some (.struct fs)) : Plc Try.prog fs [(0, 1), (1, 1)] := by
  have e := h.symm.trans Try.underlying111
  injection e with e
  injection e with e
  subst e
  unfold Plc
  intro w
  kernel_rfl
theorem is_112 : (Try.prog.underlying 112).isSome = true := by rw [Try.underlying112]; rfl
theorem sz_112 : Siz Try.prog 112 2 := Siz.of (by kernel_rfl)
theorem zr_112 : Zer Try.prog 112 [.slice none 0 0, .slice none 0 0] := Zer.of (by kernel_rfl)
theorem el_112 : Elm Try.prog 112 (.agg #[.slice none 0 0, .slice none 0 0]) 2 48 := Elm.of (by kernel_rfl) rfl (by decide)
theorem bp_112 {fs : Array Field} (h : Try.prog.underlying 112 = some (.struct fs)) : Plc Try.prog fs [(0, 1), (1, 1)] := by
  have e := h.symm.trans Try.underlying112
  injection e with e
  injection e with e
  subst e
  unfold Plc
  intro w
  kernel_rfl
theorem sc_119 : Scal Try.prog 119 := Scal.of Try.underlying119 rfl
theorem is_119 : (Try.prog.underlying 119).isSome = true := by rw [Try.underlying119]; rfl
theorem sz_119 : Siz Try.prog 119 1 := Siz.of (by kernel_rfl)
theorem zr_119 : Zer Try.prog 119 [.pointer none] := Zer.of (by kernel_rfl)
theorem el_119 : Elm Try.prog 119 (.pointer none) 1 8 := Elm.of (by kernel_rfl) rfl (by decide)
theorem is_120 : (Try.prog.underlying 120).isSome = true := by rw [Try.underlying120]; rfl
theorem sz_120 : Siz Try.prog 120 2 := Siz.of (by kernel_rfl)
theorem zr_120 : Zer Try.prog 120 [.slice none 0 0, .slice none 0 0] := Zer.of (by kernel_rfl)
theorem el_120 : Elm Try.prog 120 (.agg #[.slice none 0 0, .slice none 0 0]) 2 48 := Elm.of (by kernel_rfl) rfl (by decide)
theorem bp_120 {fs : Array Field} (h : Try.prog.underlying 120 = some (.struct fs)) : Plc Try.prog fs [(0, 1), (1, 1)] := by
  have e := h.symm.trans Try.underlying120
  injection e with e
  injection e with e
  subst e
  unfold Plc
  intro w
  kernel_rfl
theorem is_121 : (Try.prog.underlying 121).isSome = true := by rw [Try.underlying121]; rfl
theorem sz_121 : Siz Try.prog 121 2 := Siz.of (by kernel_rfl)
theorem zr_121 : Zer Try.prog 121 [.slice none 0 0, .slice none 0 0] := Zer.of (by kernel_rfl)
theorem el_121 : Elm Try.prog 121 (.agg #[.slice none 0 0, .slice none 0 0]) 2 48 := Elm.of (by kernel_rfl) rfl (by decide)
theorem bp_121 {fs : Array Field} (h : Try.prog.underlying 121 = some (.struct fs)) : Plc Try.prog fs [(0, 1), (1, 1)] := by
  have e := h.symm.trans Try.underlying121
  injection e with e
  injection e with e
  subst e
  unfold Plc
  intro w
  kernel_rfl
theorem sc_123 : Scal Try.prog 123 := Scal.of Try.underlying123 rfl
theorem is_123 : (Try.prog.underlying 123).isSome = true := by rw [Try.underlying123]; rfl
theorem sz_123 : Siz Try.prog 123 1 := Siz.of (by kernel_rfl)
theorem zr_123 : Zer Try.prog 123 [.int .u64 (0)] := Zer.of (by kernel_rfl)
theorem el_123 : Elm Try.prog 123 (.int .u64 (0)) 1 8 := Elm.of (by kernel_rfl) rfl (by decide)
theorem sc_124 : Scal Try.prog 124 := Scal.of Try.underlying124 rfl
theorem is_124 : (Try.prog.underlying 124).isSome = true := by rw [Try.underlying124]; rfl
theorem sz_124 : Siz Try.prog 124 1 := Siz.of (by kernel_rfl)
theorem zr_124 : Zer Try.prog 124 [.slice none 0 0] := Zer.of (by kernel_rfl)
theorem el_124 : Elm Try.prog 124 (.slice none 0 0) 1 24 := Elm.of (by kernel_rfl) rfl (by decide)
theorem sc_125 : Scal Try.prog 125 := Scal.of Try.underlying125 rfl
theorem is_125 : (Try.prog.underlying 125).isSome = true := by rw [Try.underlying125]; rfl
theorem sz_125 : Siz Try.prog 125 1 := Siz.of (by kernel_rfl)
theorem zr_125 : Zer Try.prog 125 [.slice none 0 0] := Zer.of (by kernel_rfl)
theorem el_125 : Elm Try.prog 125 (.slice none 0 0) 1 24 := Elm.of (by kernel_rfl) rfl (by decide)
theorem is_126 : (Try.prog.underlying 126).isSome = true := by rw [Try.underlying126]; rfl
theorem sz_126 : Siz Try.prog 126 4 := Siz.of (by kernel_rfl)
theorem zr_126 : Zer Try.prog 126 [.int .u64 (0), .int .i64 (0), .slice none 0 0, .slice none 0 0] := Zer.of (by kernel_rfl)
theorem el_126 : Elm Try.prog 126 (.agg #[.int .u64 (0), .int .i64 (0), .slice none 0 0, .slice none 0 0]) 4 64 := Elm.of (by kernel_rfl) rfl (by decide)
theorem bp_126 {fs : Array Field} (h : Try.prog.underlying 126 = some (.struct fs)) : Plc Try.prog fs [(0, 1), (1, 1), (2, 1), (3, 1)] := by
  have e := h.symm.trans Try.underlying126
  injection e with e
  injection e with e
  subst e
  unfold Plc
  intro w
  kernel_rfl
theorem is_127 : (Try.prog.underlying 127).isSome = true := by rw [Try.underlying127]; rfl
theorem sz_127 : Siz Try.prog 127 4 := Siz.of (by kernel_rfl)
theorem zr_127 : Zer Try.prog 127 [.int .u64 (0), .int .i64 (0), .slice none 0 0, .slice none 0 0] := Zer.of (by kernel_rfl)
theorem el_127 : Elm Try.prog 127 (.agg #[.int .u64 (0), .int .i64 (0), .slice none 0 0, .slice none 0 0]) 4 64 := Elm.of (by kernel_rfl) rfl (by decide)
theorem bp_127 {fs : Array Field} (h : Try.prog.underlying 127 = some (.struct fs)) : Plc Try.prog fs [(0, 1), (1, 1), (2, 1), (3, 1)] := by
  have e := h.symm.trans Try.underlying127
  injection e with e
  injection e with e
  subst e
  unfold Plc
  intro w
  kernel_rfl
theorem sc_138 : Scal Try.prog 138 := Scal.of Try.underlying138 rfl
theorem is_138 : (Try.prog.underlying 138).isSome = true := by rw [Try.underlying138]; rfl
theorem sz_138 : Siz Try.prog 138 1 := Siz.of (by kernel_rfl)
theorem zr_138 : Zer Try.prog 138 [.map none] := Zer.of (by kernel_rfl)
theorem el_138 : Elm Try.prog 138 (.map none) 1 8 := Elm.of (by kernel_rfl) rfl (by decide)
theorem is_143 : (Try.prog.underlying 143).isSome = true := by rw [Try.underlying143]; rfl
theorem sz_143 : Siz Try.prog 143 2 := Siz.of (by kernel_rfl)
theorem zr_143 : Zer Try.prog 143 [.int .i64 (0), .slice none 0 0] := Zer.of (by kernel_rfl)
theorem el_143 : Elm Try.prog 143 (.agg #[.int .i64 (0), .slice none 0 0]) 2 32 := Elm.of (by kernel_rfl) rfl (by decide)
theorem bp_143 {fs : Array Field} (h : Try.prog.underlying 143 = some (.struct fs)) : Plc Try.prog fs [(0, 1), (1, 1)] := by
  have e := h.symm.trans Try.underlying143
  injection e with e
  injection e with e
  subst e
  unfold Plc
  intro w
  kernel_rfl
theorem is_144 : (Try.prog.underlying 144).isSome = true := by rw [Try.underlying144]; rfl
theorem sz_144 : Siz Try.prog 144 2 := Siz.of (by kernel_rfl)
theorem zr_144 : Zer Try.prog 144 [.int .i64 (0), .slice none 0 0] := Zer.of (by kernel_rfl)
theorem el_144 : Elm Try.prog 144 (.agg #[.int .i64 (0), .slice none 0 0]) 2 32 := Elm.of (by kernel_rfl) rfl (by decide)
theorem bp_144 {fs : Array Field} (h : Try.prog.underlying 144 = some (.struct fs)) : Plc Try.prog fs [(0, 1), (1, 1)] := by
  have e := h.symm.trans Try.underlying144
  injection e with e
  injection e with e
  subst e
  unfold Plc
  intro w
  kernel_rfl
theorem is_149 : (Try.prog.underlying 149).isSome = true := by rw [Try.underlying149]; rfl
theorem sz_149 : Siz Try.prog 149 2 := Siz.of (by kernel_rfl)
theorem zr_149 : Zer Try.prog 149 [.int .i64 (0), .int .i64 (0)] := Zer.of (by kernel_rfl)
theorem el_149 : Elm Try.prog 149 (.agg #[.int .i64 (0), .int .i64 (0)]) 2 16 := Elm.of (by kernel_rfl) rfl (by decide)
theorem bp_149 {fs : Array Field} (h : Try.prog.underlying 149 = some (.struct fs)) : Plc Try.prog fs [(0, 1), (1, 1)] := by
  have e := h.symm.trans Try.underlying149
  injection e with e
  injection e with e
  subst e
  unfold Plc
  intro w
  kernel_rfl
theorem is_150 : (Try.prog.underlying 150).isSome = true := by rw [Try.underlying150]; rfl
theorem sz_150 : Siz Try.prog 150 2 := Siz.of (by kernel_rfl)
theorem zr_150 : Zer Try.prog 150 [.int .i64 (0), .int .i64 (0)] := Zer.of (by kernel_rfl)
theorem el_150 : Elm Try.prog 150 (.agg #[.int .i64 (0), .int .i64 (0)]) 2 16 := Elm.of (by kernel_rfl) rfl (by decide)
theorem bp_150 {fs : Array Field} (h : Try.prog.underlying 150 = some (.struct fs)) : Plc Try.prog fs [(0, 1), (1, 1)] := by
  have e := h.symm.trans Try.underlying150
  injection e with e
  injection e with e
  subst e
  unfold Plc
  intro w
  kernel_rfl
theorem is_173 : (Try.prog.underlying 173).isSome = true := by rw [Try.underlying173]; rfl
theorem sz_173 : Siz Try.prog 173 5 := Siz.of (by kernel_rfl)
theorem zr_173 : Zer Try.prog 173 [.int .i64 (0), .int .i64 (0), .slice none 0 0, .int .i64 (0), .int .i64 (0)] := Zer.of (by kernel_rfl)
theorem el_173 : Elm Try.prog 173 (.agg #[.int .i64 (0), .int .i64 (0), .slice none 0 0, .int .i64 (0), .int .i64 (0)]) 5 56 := Elm.of (by kernel_rfl) rfl (by decide)
theorem bp_173 {fs : Array Field} (h : Try.prog.underlying 173 = some (.struct fs)) : Plc Try.prog fs [(0, 1), (1, 1), (2, 1), (3, 1), (4, 1)] := by
  have e := h.symm.trans Try.underlying173
  injection e with e
  injection e with e
  subst e
  unfold Plc
  intro w
  kernel_rfl
theorem is_174 : (Try.prog.underlying 174).isSome = true := by rw [Try.underlying174]; rfl
theorem sz_174 : Siz Try.prog 174 5 := Siz.of (by kernel_rfl)
theorem zr_174 : Zer Try.prog 174 [.int .i64 (0), .int .i64 (0), .slice none 0 0, .int .i64 (0), .int .i64 (0)] := Zer.of (by kernel_rfl)
theorem el_174 : Elm Try.prog 174 (.agg #[.int .i64 (0), .int .i64 (0), .slice none 0 0, .int .i64 (0), .int .i64 (0)]) 5 56 := Elm.of (by kernel_rfl) rfl (by decide)
theorem bp_174 {fs : Array Field} (h : Try.prog.underlying 174 = some (.struct fs)) : Plc Try.prog fs [(0, 1), (1, 1), (2, 1), (3, 1), (4, 1)] := by
  have e := h.symm.trans Try.underlying174
  injection e with e
  injection e with e
  subst e
  unfold Plc
  intro w
  kernel_rfl
theorem is_175 : (Try.prog.underlying 175).isSome = true := by rw [Try.underlying175]; rfl
theorem sz_175 : Siz Try.prog 175 3 := Siz.of (by kernel_rfl)
theorem zr_175 : Zer Try.prog 175 [.slice none 0 0, .float .f64 0, .float .f64 0] := Zer.of (by kernel_rfl)
theorem el_175 : Elm Try.prog 175 (.agg #[.slice none 0 0, .float .f64 0, .float .f64 0]) 3 40 := Elm.of (by kernel_rfl) rfl (by decide)
theorem bp_175 {fs : Array Field} (h : Try.prog.underlying 175 = some (.struct fs)) : Plc Try.prog fs [(0, 1), (1, 1), (2, 1)] := by
  have e := h.symm.trans Try.underlying175
  injection e with e
  injection e with e
  subst e
  unfold Plc
  intro w
  kernel_rfl
theorem is_176 : (Try.prog.underlying 176).isSome = true := by rw [Try.underlying176]; rfl
theorem sz_176 : Siz Try.prog 176 3 := Siz.of (by kernel_rfl)
theorem zr_176 : Zer Try.prog 176 [.slice none 0 0, .float .f64 0, .float .f64 0] := Zer.of (by kernel_rfl)
theorem el_176 : Elm Try.prog 176 (.agg #[.slice none 0 0, .float .f64 0, .float .f64 0]) 3 40 := Elm.of (by kernel_rfl) rfl (by decide)
theorem bp_176 {fs : Array Field} (h : Try.prog.underlying 176 = some (.struct fs)) : Plc Try.prog fs [(0, 1), (1, 1), (2, 1)] := by
  have e := h.symm.trans Try.underlying176
  injection e with e
  injection e with e
  subst e
  unfold Plc
  intro w
  kernel_rfl
theorem is_183 : (Try.prog.underlying 183).isSome = true := by rw [Try.underlying183]; rfl
theorem sz_183 : Siz Try.prog 183 2 := Siz.of (by kernel_rfl)
theorem zr_183 : Zer Try.prog 183 [.bool false, .slice none 0 0] := Zer.of (by kernel_rfl)
theorem el_183 : Elm Try.prog 183 (.agg #[.bool false, .slice none 0 0]) 2 32 := Elm.of (by kernel_rfl) rfl (by decide)
theorem bp_183 {fs : Array Field} (h : Try.prog.underlying 183 = some (.struct fs)) : Plc Try.prog fs [(0, 1), (1, 1)] := by
  have e := h.symm.trans Try.underlying183
  injection e with e
  injection e with e
  subst e
  unfold Plc
  intro w
  kernel_rfl
theorem is_184 : (Try.prog.underlying 184).isSome = true := by rw [Try.underlying184]; rfl
theorem sz_184 : Siz Try.prog 184 2 := Siz.of (by kernel_rfl)
theorem zr_184 : Zer Try.prog 184 [.bool false, .slice none 0 0] := Zer.of (by kernel_rfl)
theorem el_184 : Elm Try.prog 184 (.agg #[.bool false, .slice none 0 0]) 2 32 := Elm.of (by kernel_rfl) rfl (by decide)
theorem bp_184 {fs : Array Field} (h : Try.prog.underlying 184 = some (.struct fs)) : Plc Try.prog fs [(0, 1), (1, 1)] := by
  have e := h.symm.trans Try.underlying184
  injection e with e
  injection e with e
  subst e
  unfold Plc
  intro w
  kernel_rfl
theorem is_188 : (Try.prog.underlying 188).isSome = true := by rw [Try.underlying188]; rfl
theorem sz_188 : Siz Try.prog 188 7 := Siz.of (by kernel_rfl)
theorem zr_188 : Zer Try.prog 188 [.bool false, .bool false, .bool false, .bool false, .bool false, .bool false, .slice none 0 0] := Zer.of (by kernel_rfl)
theorem el_188 : Elm Try.prog 188 (.agg #[.bool false, .bool false, .bool false, .bool false, .bool false, .bool false, .slice none 0 0]) 7 40 := Elm.of (by kernel_rfl) rfl (by decide)
theorem bp_188 {fs : Array Field} (h : Try.prog.underlying 188 = some (.struct fs)) : Plc Try.prog fs [(0, 1), (1, 1), (2, 1), (3, 1), (4, 1), (5, 2)] := by
  have e := h.symm.trans Try.underlying188
  injection e with e
  injection e with e
  subst e
  unfold Plc
  intro w
  kernel_rfl
theorem is_189 : (Try.prog.underlying 189).isSome = true := by rw [Try.underlying189]; rfl
theorem sz_189 : Siz Try.prog 189 7 := Siz.of (by kernel_rfl)
theorem zr_189 : Zer Try.prog 189 [.bool false, .bool false, .bool false, .bool false, .bool false, .bool false, .slice none 0 0] := Zer.of (by kernel_rfl)
theorem el_189 : Elm Try.prog 189 (.agg #[.bool false, .bool false, .bool false, .bool false, .bool false, .bool false, .slice none 0 0]) 7 40 := Elm.of (by kernel_rfl) rfl (by decide)
theorem bp_189 {fs : Array Field} (h : Try.prog.underlying 189 = some (.struct fs)) : Plc Try.prog fs [(0, 1), (1, 1), (2, 1), (3, 1), (4, 1), (5, 2)] := by
  have e := h.symm.trans Try.underlying189
  injection e with e
  injection e with e
  subst e
  unfold Plc
  intro w
  kernel_rfl
theorem sc_202 : Scal Try.prog 202 := Scal.of Try.underlying202 rfl
theorem is_202 : (Try.prog.underlying 202).isSome = true := by rw [Try.underlying202]; rfl
theorem sz_202 : Siz Try.prog 202 1 := Siz.of (by kernel_rfl)
theorem zr_202 : Zer Try.prog 202 [.int .u64 (0)] := Zer.of (by kernel_rfl)
theorem el_202 : Elm Try.prog 202 (.int .u64 (0)) 1 8 := Elm.of (by kernel_rfl) rfl (by decide)
theorem sc_211 : Scal Try.prog 211 := Scal.of Try.underlying211 rfl
theorem is_211 : (Try.prog.underlying 211).isSome = true := by rw [Try.underlying211]; rfl
theorem sz_211 : Siz Try.prog 211 1 := Siz.of (by kernel_rfl)
theorem zr_211 : Zer Try.prog 211 [.pointer none] := Zer.of (by kernel_rfl)
theorem el_211 : Elm Try.prog 211 (.pointer none) 1 8 := Elm.of (by kernel_rfl) rfl (by decide)
theorem sc_227 : Scal Try.prog 227 := Scal.of Try.underlying227 rfl
theorem is_227 : (Try.prog.underlying 227).isSome = true := by rw [Try.underlying227]; rfl
theorem sz_227 : Siz Try.prog 227 1 := Siz.of (by kernel_rfl)
theorem zr_227 : Zer Try.prog 227 [.int .i64 (0)] := Zer.of (by kernel_rfl)
theorem el_227 : Elm Try.prog 227 (.int .i64 (0)) 1 8 := Elm.of (by kernel_rfl) rfl (by decide)
theorem sc_234 : Scal Try.prog 234 := Scal.of Try.underlying234 rfl
theorem is_234 : (Try.prog.underlying 234).isSome = true := by rw [Try.underlying234]; rfl
theorem sz_234 : Siz Try.prog 234 1 := Siz.of (by kernel_rfl)
theorem zr_234 : Zer Try.prog 234 [.map none] := Zer.of (by kernel_rfl)
theorem el_234 : Elm Try.prog 234 (.map none) 1 8 := Elm.of (by kernel_rfl) rfl (by decide)
theorem is_241 : (Try.prog.underlying 241).isSome = true := by rw [Try.underlying241]; rfl
theorem sz_241 : Siz Try.prog 241 4 := Siz.of (by kernel_rfl)
theorem zr_241 : Zer Try.prog 241 [.bool false, .int .u8 (0), .bool false, .slice none 0 0] := Zer.of (by kernel_rfl)
theorem el_241 : Elm Try.prog 241 (.agg #[.bool false, .int .u8 (0), .bool false, .slice none 0 0]) 4 32 := Elm.of (by kernel_rfl) rfl (by decide)
theorem bp_241 {fs : Array Field} (h : Try.prog.underlying 241 = some (.struct fs)) : Plc Try.prog fs [(0, 1), (1, 1), (2, 1), (3, 1)] := by
  have e := h.symm.trans Try.underlying241
  injection e with e
  injection e with e
  subst e
  unfold Plc
  intro w
  kernel_rfl
theorem is_242 : (Try.prog.underlying 242).isSome = true := by rw [Try.underlying242]; rfl
theorem sz_242 : Siz Try.prog 242 4 := Siz.of (by kernel_rfl)
theorem zr_242 : Zer Try.prog 242 [.bool false, .int .u8 (0), .bool false, .slice none 0 0] := Zer.of (by kernel_rfl)
theorem el_242 : Elm Try.prog 242 (.agg #[.bool false, .int .u8 (0), .bool false, .slice none 0 0]) 4 32 := Elm.of (by kernel_rfl) rfl (by decide)
theorem bp_242 {fs : Array Field} (h : Try.prog.underlying 242 = some (.struct fs)) : Plc Try.prog fs [(0, 1), (1, 1), (2, 1), (3, 1)] := by
  have e := h.symm.trans Try.underlying242
  injection e with e
  injection e with e
  subst e
  unfold Plc
  intro w
  kernel_rfl
theorem sc_246 : Scal Try.prog 246 := Scal.of Try.underlying246 rfl
theorem is_246 : (Try.prog.underlying 246).isSome = true := by rw [Try.underlying246]; rfl
theorem sz_246 : Siz Try.prog 246 1 := Siz.of (by kernel_rfl)
theorem zr_246 : Zer Try.prog 246 [.int .u64 (0)] := Zer.of (by kernel_rfl)
theorem el_246 : Elm Try.prog 246 (.int .u64 (0)) 1 8 := Elm.of (by kernel_rfl) rfl (by decide)
theorem sc_250 : Scal Try.prog 250 := Scal.of Try.underlying250 rfl
theorem is_250 : (Try.prog.underlying 250).isSome = true := by rw [Try.underlying250]; rfl
theorem sz_250 : Siz Try.prog 250 1 := Siz.of (by kernel_rfl)
theorem zr_250 : Zer Try.prog 250 [.pointer none] := Zer.of (by kernel_rfl)
theorem el_250 : Elm Try.prog 250 (.pointer none) 1 8 := Elm.of (by kernel_rfl) rfl (by decide)
theorem sc_260 : Scal Try.prog 260 := Scal.of Try.underlying260 rfl
theorem is_260 : (Try.prog.underlying 260).isSome = true := by rw [Try.underlying260]; rfl
theorem sz_260 : Siz Try.prog 260 1 := Siz.of (by kernel_rfl)
theorem zr_260 : Zer Try.prog 260 [.pointer none] := Zer.of (by kernel_rfl)
theorem el_260 : Elm Try.prog 260 (.pointer none) 1 8 := Elm.of (by kernel_rfl) rfl (by decide)
theorem is_269 : (Try.prog.underlying 269).isSome = true := by rw [Try.underlying269]; rfl
theorem sz_269 : Siz Try.prog 269 4 := Siz.of (by kernel_rfl)
theorem zr_269 : Zer Try.prog 269 [.pointer none, .pointer none, .pointer none, .string ⟨#[]⟩] := Zer.of (by kernel_rfl)
theorem el_269 : Elm Try.prog 269 (.agg #[.pointer none, .pointer none, .pointer none, .string ⟨#[]⟩]) 4 40 := Elm.of (by kernel_rfl) rfl (by decide)
theorem bp_269 {fs : Array Field} (h : Try.prog.underlying 269 = some (.struct fs)) : Plc Try.prog fs [(0, 1), (1, 1), (2, 1), (3, 1)] := by
  have e := h.symm.trans Try.underlying269
  injection e with e
  injection e with e
  subst e
  unfold Plc
  intro w
  kernel_rfl
theorem is_270 : (Try.prog.underlying 270).isSome = true := by rw [Try.underlying270]; rfl
theorem sz_270 : Siz Try.prog 270 4 := Siz.of (by kernel_rfl)
theorem zr_270 : Zer Try.prog 270 [.pointer none, .pointer none, .pointer none, .string ⟨#[]⟩] := Zer.of (by kernel_rfl)
theorem el_270 : Elm Try.prog 270 (.agg #[.pointer none, .pointer none, .pointer none, .string ⟨#[]⟩]) 4 40 := Elm.of (by kernel_rfl) rfl (by decide)
theorem bp_270 {fs : Array Field} (h : Try.prog.underlying 270 = some (.struct fs)) : Plc Try.prog fs [(0, 1), (1, 1), (2, 1), (3, 1)] := by
  have e := h.symm.trans Try.underlying270
  injection e with e
  injection e with e
  subst e
  unfold Plc
  intro w
  kernel_rfl
theorem is_271 : (Try.prog.underlying 271).isSome = true := by rw [Try.underlying271]; rfl
theorem is_272 : (Try.prog.underlying 272).isSome = true := by rw [Try.underlying272]; rfl
theorem is_273 : (Try.prog.underlying 273).isSome = true := by rw [Try.underlying273]; rfl
theorem sc_274 : Scal Try.prog 274 := Scal.of Try.underlying274 rfl
theorem is_274 : (Try.prog.underlying 274).isSome = true := by rw [Try.underlying274]; rfl
theorem sz_274 : Siz Try.prog 274 1 := Siz.of (by kernel_rfl)
theorem zr_274 : Zer Try.prog 274 [.int .u8 (0)] := Zer.of (by kernel_rfl)
theorem el_274 : Elm Try.prog 274 (.int .u8 (0)) 1 1 := Elm.of (by kernel_rfl) rfl (by decide)
theorem sc_275 : Scal Try.prog 275 := Scal.of Try.underlying275 rfl
theorem is_275 : (Try.prog.underlying 275).isSome = true := by rw [Try.underlying275]; rfl
theorem sz_275 : Siz Try.prog 275 1 := Siz.of (by kernel_rfl)
theorem zr_275 : Zer Try.prog 275 [.int .u8 (0)] := Zer.of (by kernel_rfl)
theorem el_275 : Elm Try.prog 275 (.int .u8 (0)) 1 1 := Elm.of (by kernel_rfl) rfl (by decide)
theorem sc_277 : Scal Try.prog 277 := Scal.of Try.underlying277 rfl
theorem is_277 : (Try.prog.underlying 277).isSome = true := by rw [Try.underlying277]; rfl
theorem sz_277 : Siz Try.prog 277 1 := Siz.of (by kernel_rfl)
theorem zr_277 : Zer Try.prog 277 [.pointer none] := Zer.of (by kernel_rfl)
theorem el_277 : Elm Try.prog 277 (.pointer none) 1 8 := Elm.of (by kernel_rfl) rfl (by decide)
theorem sc_278 : Scal Try.prog 278 := Scal.of Try.underlying278 rfl
theorem is_278 : (Try.prog.underlying 278).isSome = true := by rw [Try.underlying278]; rfl
theorem sz_278 : Siz Try.prog 278 1 := Siz.of (by kernel_rfl)
theorem zr_278 : Zer Try.prog 278 [.int .i32 (0)] := Zer.of (by kernel_rfl)
theorem el_278 : Elm Try.prog 278 (.int .i32 (0)) 1 4 := Elm.of (by kernel_rfl) rfl (by decide)
theorem sc_279 : Scal Try.prog 279 := Scal.of Try.underlying279 rfl
theorem is_279 : (Try.prog.underlying 279).isSome = true := by rw [Try.underlying279]; rfl
theorem sz_279 : Siz Try.prog 279 1 := Siz.of (by kernel_rfl)
theorem zr_279 : Zer Try.prog 279 [.int .i32 (0)] := Zer.of (by kernel_rfl)
theorem el_279 : Elm Try.prog 279 (.int .i32 (0)) 1 4 := Elm.of (by kernel_rfl) rfl (by decide)
theorem is_280 : (Try.prog.underlying 280).isSome = true := by rw [Try.underlying280]; rfl
theorem sz_280 : Siz Try.prog 280 11 := Siz.of (by kernel_rfl)
theorem zr_280 : Zer Try.prog 280 [.int .u64 (0), .int .u64 (0), .int .u32 (0), .int .u8 (0), .int .u8 (0), .int .u8 (0), .int .u8 (0), .nilFunc, .pointer none, .int .i32 (0), .int .i32 (0)] := Zer.of (by kernel_rfl)
theorem el_280 : Elm Try.prog 280 (.agg #[.int .u64 (0), .int .u64 (0), .int .u32 (0), .int .u8 (0), .int .u8 (0), .int .u8 (0), .int .u8 (0), .nilFunc, .pointer none, .int .i32 (0), .int .i32 (0)]) 11 48 := Elm.of (by kernel_rfl) rfl (by decide)
theorem bp_280 {fs : Array Field} (h : Try.prog.underlying 280 = some (.struct fs)) : Plc Try.prog fs [(0, 1), (1, 1), (2, 1), (3, 1), (4, 1), (5, 1), (6, 1), (7, 1), (8, 1), (9, 1), (10, 1)] := by
  have e := h.symm.trans Try.underlying280
  injection e with e
  injection e with e
  subst e
  unfold Plc
  intro w
  kernel_rfl
theorem is_281 : (Try.prog.underlying 281).isSome = true := by rw [Try.underlying281]; rfl
theorem sz_281 : Siz Try.prog 281 11 := Siz.of (by kernel_rfl)
theorem zr_281 : Zer Try.prog 281 [.int .u64 (0), .int .u64 (0), .int .u32 (0), .int .u8 (0), .int .u8 (0), .int .u8 (0), .int .u8 (0), .nilFunc, .pointer none, .int .i32 (0), .int .i32 (0)] := Zer.of (by kernel_rfl)
theorem el_281 : Elm Try.prog 281 (.agg #[.int .u64 (0), .int .u64 (0), .int .u32 (0), .int .u8 (0), .int .u8 (0), .int .u8 (0), .int .u8 (0), .nilFunc, .pointer none, .int .i32 (0), .int .i32 (0)]) 11 48 := Elm.of (by kernel_rfl) rfl (by decide)
theorem bp_281 {fs : Array Field} (h : Try.prog.underlying 281 = some (.struct fs)) : Plc Try.prog fs [(0, 1), (1, 1), (2, 1), (3, 1), (4, 1), (5, 1), (6, 1), (7, 1), (8, 1), (9, 1), (10, 1)] := by
  have e := h.symm.trans Try.underlying281
  injection e with e
  injection e with e
  subst e
  unfold Plc
  intro w
  kernel_rfl
theorem sc_283 : Scal Try.prog 283 := Scal.of Try.underlying283 rfl
theorem is_283 : (Try.prog.underlying 283).isSome = true := by rw [Try.underlying283]; rfl
theorem sz_283 : Siz Try.prog 283 1 := Siz.of (by kernel_rfl)
theorem zr_283 : Zer Try.prog 283 [.pointer none] := Zer.of (by kernel_rfl)
theorem el_283 : Elm Try.prog 283 (.pointer none) 1 8 := Elm.of (by kernel_rfl) rfl (by decide)
theorem en_2 : Ent Try.prog 2 := by unfold Ent; kernel_rfl
theorem en_3 : Ent Try.prog 3 := by unfold Ent; kernel_rfl
theorem en_4 : Ent Try.prog 4 := by unfold Ent; kernel_rfl
theorem en_5 : Ent Try.prog 5 := by unfold Ent; kernel_rfl
theorem en_6 : Ent Try.prog 6 := by unfold Ent; kernel_rfl
theorem en_7 : Ent Try.prog 7 := by unfold Ent; kernel_rfl
theorem en_8 : Ent Try.prog 8 := by unfold Ent; kernel_rfl
theorem en_9 : Ent Try.prog 9 := by unfold Ent; kernel_rfl
theorem en_10 : Ent Try.prog 10 := by unfold Ent; kernel_rfl
theorem en_11 : Ent Try.prog 11 := by unfold Ent; kernel_rfl
theorem en_12 : Ent Try.prog 12 := by unfold Ent; kernel_rfl
theorem en_13 : Ent Try.prog 13 := by unfold Ent; kernel_rfl
theorem en_14 : Ent Try.prog 14 := by unfold Ent; kernel_rfl
theorem en_15 : Ent Try.prog 15 := by unfold Ent; kernel_rfl
theorem en_16 : Ent Try.prog 16 := by unfold Ent; kernel_rfl
theorem en_17 : Ent Try.prog 17 := by unfold Ent; kernel_rfl
theorem en_18 : Ent Try.prog 18 := by unfold Ent; kernel_rfl
theorem en_19 : Ent Try.prog 19 := by unfold Ent; kernel_rfl
theorem en_20 : Ent Try.prog 20 := by unfold Ent; kernel_rfl
theorem en_21 : Ent Try.prog 21 := by unfold Ent; kernel_rfl
theorem en_22 : Ent Try.prog 22 := by unfold Ent; kernel_rfl
theorem en_23 : Ent Try.prog 23 := by unfold Ent; kernel_rfl
theorem en_24 : Ent Try.prog 24 := by unfold Ent; kernel_rfl
theorem en_25 : Ent Try.prog 25 := by unfold Ent; kernel_rfl
theorem en_26 : Ent Try.prog 26 := by unfold Ent; kernel_rfl
theorem en_27 : Ent Try.prog 27 := by unfold Ent; kernel_rfl
theorem en_28 : Ent Try.prog 28 := by unfold Ent; kernel_rfl
theorem en_29 : Ent Try.prog 29 := by unfold Ent; kernel_rfl
theorem en_30 : Ent Try.prog 30 := by unfold Ent; kernel_rfl
theorem en_31 : Ent Try.prog 31 := by unfold Ent; kernel_rfl
theorem en_32 : Ent Try.prog 32 := by unfold Ent; kernel_rfl
theorem en_33 : Ent Try.prog 33 := by unfold Ent; kernel_rfl
theorem en_34 : Ent Try.prog 34 := by unfold Ent; kernel_rfl
theorem en_35 : Ent Try.prog 35 := by unfold Ent; kernel_rfl
theorem en_36 : Ent Try.prog 36 := by unfold Ent; kernel_rfl
theorem en_37 : Ent Try.prog 37 := by unfold Ent; kernel_rfl
theorem en_38 : Ent Try.prog 38 := by unfold Ent; kernel_rfl
theorem en_39 : Ent Try.prog 39 := by unfold Ent; kernel_rfl
theorem en_40 : Ent Try.prog 40 := by unfold Ent; kernel_rfl
theorem en_41 : Ent Try.prog 41 := by unfold Ent; kernel_rfl
theorem en_42 : Ent Try.prog 42 := by unfold Ent; kernel_rfl
theorem en_43 : Ent Try.prog 43 := by unfold Ent; kernel_rfl
theorem en_44 : Ent Try.prog 44 := by unfold Ent; kernel_rfl
theorem en_45 : Ent Try.prog 45 := by unfold Ent; kernel_rfl
theorem en_46 : Ent Try.prog 46 := by unfold Ent; kernel_rfl
theorem en_47 : Ent Try.prog 47 := by unfold Ent; kernel_rfl
theorem en_48 : Ent Try.prog 48 := by unfold Ent; kernel_rfl
theorem en_49 : Ent Try.prog 49 := by unfold Ent; kernel_rfl
theorem en_50 : Ent Try.prog 50 := by unfold Ent; kernel_rfl
theorem en_51 : Ent Try.prog 51 := by unfold Ent; kernel_rfl
theorem en_52 : Ent Try.prog 52 := by unfold Ent; kernel_rfl
theorem en_53 : Ent Try.prog 53 := by unfold Ent; kernel_rfl
theorem en_54 : Ent Try.prog 54 := by unfold Ent; kernel_rfl
theorem en_55 : Ent Try.prog 55 := by unfold Ent; kernel_rfl
theorem en_56 : Ent Try.prog 56 := by unfold Ent; kernel_rfl
theorem en_57 : Ent Try.prog 57 := by unfold Ent; kernel_rfl
theorem en_58 : Ent Try.prog 58 := by unfold Ent; kernel_rfl
theorem en_59 : Ent Try.prog 59 := by unfold Ent; kernel_rfl
theorem en_60 : Ent Try.prog 60 := by unfold Ent; kernel_rfl
theorem en_61 : Ent Try.prog 61 := by unfold Ent; kernel_rfl
theorem en_62 : Ent Try.prog 62 := by unfold Ent; kernel_rfl
theorem en_63 : Ent Try.prog 63 := by unfold Ent; kernel_rfl
theorem en_64 : Ent Try.prog 64 := by unfold Ent; kernel_rfl
theorem en_65 : Ent Try.prog 65 := by unfold Ent; kernel_rfl
theorem en_66 : Ent Try.prog 66 := by unfold Ent; kernel_rfl
theorem en_67 : Ent Try.prog 67 := by unfold Ent; kernel_rfl
theorem en_68 : Ent Try.prog 68 := by unfold Ent; kernel_rfl
theorem en_69 : Ent Try.prog 69 := by unfold Ent; kernel_rfl
theorem en_70 : Ent Try.prog 70 := by unfold Ent; kernel_rfl
theorem en_71 : Ent Try.prog 71 := by unfold Ent; kernel_rfl
theorem en_72 : Ent Try.prog 72 := by unfold Ent; kernel_rfl
theorem en_73 : Ent Try.prog 73 := by unfold Ent; kernel_rfl
theorem en_74 : Ent Try.prog 74 := by unfold Ent; kernel_rfl
theorem en_75 : Ent Try.prog 75 := by unfold Ent; kernel_rfl
theorem en_76 : Ent Try.prog 76 := by unfold Ent; kernel_rfl
theorem en_77 : Ent Try.prog 77 := by unfold Ent; kernel_rfl
theorem en_78 : Ent Try.prog 78 := by unfold Ent; kernel_rfl
theorem en_79 : Ent Try.prog 79 := by unfold Ent; kernel_rfl
theorem en_80 : Ent Try.prog 80 := by unfold Ent; kernel_rfl
theorem en_81 : Ent Try.prog 81 := by unfold Ent; kernel_rfl
theorem en_82 : Ent Try.prog 82 := by unfold Ent; kernel_rfl
theorem en_83 : Ent Try.prog 83 := by unfold Ent; kernel_rfl
theorem en_84 : Ent Try.prog 84 := by unfold Ent; kernel_rfl
theorem en_85 : Ent Try.prog 85 := by unfold Ent; kernel_rfl
theorem en_86 : Ent Try.prog 86 := by unfold Ent; kernel_rfl
theorem en_87 : Ent Try.prog 87 := by unfold Ent; kernel_rfl
theorem en_88 : Ent Try.prog 88 := by unfold Ent; kernel_rfl
theorem en_89 : Ent Try.prog 89 := by unfold Ent; kernel_rfl
theorem en_90 : Ent Try.prog 90 := by unfold Ent; kernel_rfl
theorem en_91 : Ent Try.prog 91 := by unfold Ent; kernel_rfl
theorem en_92 : Ent Try.prog 92 := by unfold Ent; kernel_rfl
theorem en_93 : Ent Try.prog 93 := by unfold Ent; kernel_rfl
theorem en_94 : Ent Try.prog 94 := by unfold Ent; kernel_rfl
theorem en_95 : Ent Try.prog 95 := by unfold Ent; kernel_rfl
theorem en_96 : Ent Try.prog 96 := by unfold Ent; kernel_rfl
theorem en_97 : Ent Try.prog 97 := by unfold Ent; kernel_rfl
theorem en_98 : Ent Try.prog 98 := by unfold Ent; kernel_rfl
theorem en_99 : Ent Try.prog 99 := by unfold Ent; kernel_rfl
theorem en_100 : Ent Try.prog 100 := by unfold Ent; kernel_rfl
theorem en_101 : Ent Try.prog 101 := by unfold Ent; kernel_rfl
theorem en_102 : Ent Try.prog 102 := by unfold Ent; kernel_rfl
theorem en_103 : Ent Try.prog 103 := by unfold Ent; kernel_rfl
theorem en_104 : Ent Try.prog 104 := by unfold Ent; kernel_rfl
theorem en_105 : Ent Try.prog 105 := by unfold Ent; kernel_rfl
theorem en_106 : Ent Try.prog 106 := by unfold Ent; kernel_rfl
theorem en_107 : Ent Try.prog 107 := by unfold Ent; kernel_rfl
theorem en_108 : Ent Try.prog 108 := by unfold Ent; kernel_rfl
theorem en_109 : Ent Try.prog 109 := by unfold Ent; kernel_rfl
theorem en_110 : Ent Try.prog 110 := by unfold Ent; kernel_rfl
theorem en_111 : Ent Try.prog 111 := by unfold Ent; kernel_rfl
theorem en_112 : Ent Try.prog 112 := by unfold Ent; kernel_rfl
theorem en_113 : Ent Try.prog 113 := by unfold Ent; kernel_rfl
theorem en_114 : Ent Try.prog 114 := by unfold Ent; kernel_rfl
theorem en_115 : Ent Try.prog 115 := by unfold Ent; kernel_rfl
theorem en_116 : Ent Try.prog 116 := by unfold Ent; kernel_rfl
theorem en_117 : Ent Try.prog 117 := by unfold Ent; kernel_rfl
theorem en_118 : Ent Try.prog 118 := by unfold Ent; kernel_rfl
theorem en_119 : Ent Try.prog 119 := by unfold Ent; kernel_rfl
theorem en_120 : Ent Try.prog 120 := by unfold Ent; kernel_rfl
theorem en_121 : Ent Try.prog 121 := by unfold Ent; kernel_rfl
theorem en_122 : Ent Try.prog 122 := by unfold Ent; kernel_rfl
theorem en_123 : Ent Try.prog 123 := by unfold Ent; kernel_rfl
theorem en_124 : Ent Try.prog 124 := by unfold Ent; kernel_rfl
theorem en_125 : Ent Try.prog 125 := by unfold Ent; kernel_rfl
theorem en_126 : Ent Try.prog 126 := by unfold Ent; kernel_rfl
theorem en_127 : Ent Try.prog 127 := by unfold Ent; kernel_rfl
theorem en_128 : Ent Try.prog 128 := by unfold Ent; kernel_rfl
theorem en_129 : Ent Try.prog 129 := by unfold Ent; kernel_rfl
theorem en_130 : Ent Try.prog 130 := by unfold Ent; kernel_rfl
theorem en_131 : Ent Try.prog 131 := by unfold Ent; kernel_rfl
theorem en_132 : Ent Try.prog 132 := by unfold Ent; kernel_rfl
theorem en_133 : Ent Try.prog 133 := by unfold Ent; kernel_rfl
theorem en_134 : Ent Try.prog 134 := by unfold Ent; kernel_rfl
theorem en_135 : Ent Try.prog 135 := by unfold Ent; kernel_rfl
theorem en_136 : Ent Try.prog 136 := by unfold Ent; kernel_rfl
theorem en_137 : Ent Try.prog 137 := by unfold Ent; kernel_rfl
theorem en_138 : Ent Try.prog 138 := by unfold Ent; kernel_rfl
theorem en_139 : Ent Try.prog 139 := by unfold Ent; kernel_rfl
theorem en_140 : Ent Try.prog 140 := by unfold Ent; kernel_rfl
theorem en_141 : Ent Try.prog 141 := by unfold Ent; kernel_rfl
theorem en_142 : Ent Try.prog 142 := by unfold Ent; kernel_rfl
theorem en_143 : Ent Try.prog 143 := by unfold Ent; kernel_rfl
theorem en_144 : Ent Try.prog 144 := by unfold Ent; kernel_rfl
theorem en_145 : Ent Try.prog 145 := by unfold Ent; kernel_rfl
theorem en_146 : Ent Try.prog 146 := by unfold Ent; kernel_rfl
theorem en_147 : Ent Try.prog 147 := by unfold Ent; kernel_rfl
theorem en_148 : Ent Try.prog 148 := by unfold Ent; kernel_rfl
theorem en_149 : Ent Try.prog 149 := by unfold Ent; kernel_rfl
theorem en_150 : Ent Try.prog 150 := by unfold Ent; kernel_rfl
theorem en_151 : Ent Try.prog 151 := by unfold Ent; kernel_rfl
theorem en_152 : Ent Try.prog 152 := by unfold Ent; kernel_rfl
theorem en_153 : Ent Try.prog 153 := by unfold Ent; kernel_rfl
theorem en_154 : Ent Try.prog 154 := by unfold Ent; kernel_rfl
theorem en_155 : Ent Try.prog 155 := by unfold Ent; kernel_rfl
theorem en_156 : Ent Try.prog 156 := by unfold Ent; kernel_rfl
theorem en_157 : Ent Try.prog 157 := by unfold Ent; kernel_rfl
theorem en_158 : Ent Try.prog 158 := by unfold Ent; kernel_rfl
theorem en_159 : Ent Try.prog 159 := by unfold Ent; kernel_rfl
theorem en_160 : Ent Try.prog 160 := by unfold Ent; kernel_rfl
theorem en_161 : Ent Try.prog 161 := by unfold Ent; kernel_rfl
theorem en_162 : Ent Try.prog 162 := by unfold Ent; kernel_rfl
theorem en_163 : Ent Try.prog 163 := by unfold Ent; kernel_rfl
theorem en_164 : Ent Try.prog 164 := by unfold Ent; kernel_rfl
theorem en_165 : Ent Try.prog 165 := by unfold Ent; kernel_rfl
theorem en_166 : Ent Try.prog 166 := by unfold Ent; kernel_rfl
theorem en_168 : Ent Try.prog 168 := by unfold Ent; kernel_rfl
theorem en_169 : Ent Try.prog 169 := by unfold Ent; kernel_rfl
theorem en_170 : Ent Try.prog 170 := by unfold Ent; kernel_rfl
theorem en_171 : Ent Try.prog 171 := by unfold Ent; kernel_rfl
theorem en_172 : Ent Try.prog 172 := by unfold Ent; kernel_rfl
theorem en_173 : Ent Try.prog 173 := by unfold Ent; kernel_rfl
theorem en_174 : Ent Try.prog 174 := by unfold Ent; kernel_rfl
theorem en_175 : Ent Try.prog 175 := by unfold Ent; kernel_rfl
theorem en_176 : Ent Try.prog 176 := by unfold Ent; kernel_rfl
theorem en_177 : Ent Try.prog 177 := by unfold Ent; kernel_rfl
theorem en_178 : Ent Try.prog 178 := by unfold Ent; kernel_rfl
theorem en_179 : Ent Try.prog 179 := by unfold Ent; kernel_rfl
theorem en_180 : Ent Try.prog 180 := by unfold Ent; kernel_rfl
theorem en_181 : Ent Try.prog 181 := by unfold Ent; kernel_rfl
theorem en_182 : Ent Try.prog 182 := by unfold Ent; kernel_rfl
theorem en_183 : Ent Try.prog 183 := by unfold Ent; kernel_rfl
theorem en_184 : Ent Try.prog 184 := by unfold Ent; kernel_rfl
theorem en_185 : Ent Try.prog 185 := by unfold Ent; kernel_rfl
theorem en_186 : Ent Try.prog 186 := by unfold Ent; kernel_rfl
theorem en_187 : Ent Try.prog 187 := by unfold Ent; kernel_rfl
theorem en_188 : Ent Try.prog 188 := by unfold Ent; kernel_rfl
theorem en_189 : Ent Try.prog 189 := by unfold Ent; kernel_rfl
theorem en_190 : Ent Try.prog 190 := by unfold Ent; kernel_rfl
theorem en_191 : Ent Try.prog 191 := by unfold Ent; kernel_rfl
theorem en_192 : Ent Try.prog 192 := by unfold Ent; kernel_rfl
theorem en_193 : Ent Try.prog 193 := by unfold Ent; kernel_rfl
theorem en_194 : Ent Try.prog 194 := by unfold Ent; kernel_rfl
theorem en_195 : Ent Try.prog 195 := by unfold Ent; kernel_rfl
theorem en_196 : Ent Try.prog 196 := by unfold Ent; kernel_rfl
theorem en_197 : Ent Try.prog 197 := by unfold Ent; kernel_rfl
theorem en_198 : Ent Try.prog 198 := by unfold Ent; kernel_rfl
theorem en_199 : Ent Try.prog 199 := by unfold Ent; kernel_rfl
theorem en_200 : Ent Try.prog 200 := by unfold Ent; kernel_rfl
theorem en_201 : Ent Try.prog 201 := by unfold Ent; kernel_rfl
theorem en_202 : Ent Try.prog 202 := by unfold Ent; kernel_rfl
theorem en_203 : Ent Try.prog 203 := by unfold Ent; kernel_rfl
theorem en_204 : Ent Try.prog 204 := by unfold Ent; kernel_rfl
theorem en_205 : Ent Try.prog 205 := by unfold Ent; kernel_rfl
theorem en_206 : Ent Try.prog 206 := by unfold Ent; kernel_rfl
theorem en_207 : Ent Try.prog 207 := by unfold Ent; kernel_rfl
theorem en_208 : Ent Try.prog 208 := by unfold Ent; kernel_rfl
theorem en_209 : Ent Try.prog 209 := by unfold Ent; kernel_rfl
theorem en_210 : Ent Try.prog 210 := by unfold Ent; kernel_rfl
theorem en_211 : Ent Try.prog 211 := by unfold Ent; kernel_rfl
theorem en_212 : Ent Try.prog 212 := by unfold Ent; kernel_rfl
theorem en_213 : Ent Try.prog 213 := by unfold Ent; kernel_rfl
theorem en_214 : Ent Try.prog 214 := by unfold Ent; kernel_rfl
theorem en_215 : Ent Try.prog 215 := by unfold Ent; kernel_rfl
theorem en_216 : Ent Try.prog 216 := by unfold Ent; kernel_rfl
theorem en_217 : Ent Try.prog 217 := by unfold Ent; kernel_rfl
theorem en_218 : Ent Try.prog 218 := by unfold Ent; kernel_rfl
theorem en_219 : Ent Try.prog 219 := by unfold Ent; kernel_rfl
theorem en_220 : Ent Try.prog 220 := by unfold Ent; kernel_rfl
theorem en_221 : Ent Try.prog 221 := by unfold Ent; kernel_rfl
theorem en_222 : Ent Try.prog 222 := by unfold Ent; kernel_rfl
theorem en_223 : Ent Try.prog 223 := by unfold Ent; kernel_rfl
theorem en_224 : Ent Try.prog 224 := by unfold Ent; kernel_rfl
theorem en_225 : Ent Try.prog 225 := by unfold Ent; kernel_rfl
theorem en_226 : Ent Try.prog 226 := by unfold Ent; kernel_rfl
theorem en_227 : Ent Try.prog 227 := by unfold Ent; kernel_rfl
theorem en_228 : Ent Try.prog 228 := by unfold Ent; kernel_rfl
theorem en_229 : Ent Try.prog 229 := by unfold Ent; kernel_rfl
theorem en_230 : Ent Try.prog 230 := by unfold Ent; kernel_rfl
theorem en_231 : Ent Try.prog 231 := by unfold Ent; kernel_rfl
theorem en_232 : Ent Try.prog 232 := by unfold Ent; kernel_rfl
theorem en_233 : Ent Try.prog 233 := by unfold Ent; kernel_rfl
theorem en_234 : Ent Try.prog 234 := by unfold Ent; kernel_rfl
theorem en_235 : Ent Try.prog 235 := by unfold Ent; kernel_rfl
theorem en_236 : Ent Try.prog 236 := by unfold Ent; kernel_rfl
theorem en_237 : Ent Try.prog 237 := by unfold Ent; kernel_rfl
theorem en_238 : Ent Try.prog 238 := by unfold Ent; kernel_rfl
theorem en_239 : Ent Try.prog 239 := by unfold Ent; kernel_rfl
theorem en_256 : Ent Try.prog 256 := by unfold Ent; kernel_rfl
theorem en_257 : Ent Try.prog 257 := by unfold Ent; kernel_rfl
theorem en_258 : Ent Try.prog 258 := by unfold Ent; kernel_rfl
theorem en_259 : Ent Try.prog 259 := by unfold Ent; kernel_rfl
theorem en_260 : Ent Try.prog 260 := by unfold Ent; kernel_rfl
theorem en_261 : Ent Try.prog 261 := by unfold Ent; kernel_rfl
theorem en_262 : Ent Try.prog 262 := by unfold Ent; kernel_rfl
theorem en_263 : Ent Try.prog 263 := by unfold Ent; kernel_rfl
end Go.Proofs.Ytmnlaekcojblkaa.H
