/-
  Facts on the types and functions of this seat, for the logic of YtlipeplfjkgamaaHoa.
-/
import Derived.Test.YtlipeplfjkgamaaLogic
namespace Go.Proofs.Ytlipeplfjkgamaa.H
open Go.RowKit Go.Proofs.Ytlipeplfjkgamaa
theorem mixed : Try.prog.follows .mixedOrders = true := by kernel_rfl
theorem sc_2 : Scal Try.prog 2 := Scal.of Try.underlying2 rfl
theorem is_2 : (Try.prog.underlying 2).isSome = true := by rw [Try.underlying2]; rfl
theorem sz_2 : Siz Try.prog 2 1 := Siz.of (by kernel_rfl)
theorem zr_2 : Zer Try.prog 2 [.int .i64 (0)] := Zer.of (by kernel_rfl)
theorem el_2 : Elm Try.prog 2 (.int .i64 (0)) 1 8 := Elm.of (by kernel_rfl) rfl (by decide)
theorem sc_3 : Scal Try.prog 3 := Scal.of Try.underlying3 rfl
theorem is_3 : (Try.prog.underlying 3).isSome = true := by rw [Try.underlying3]; rfl
theorem sz_3 : Siz Try.prog 3 1 := Siz.of (by kernel_rfl)
theorem zr_3 : Zer Try.prog 3 [.int .i64 (0)] := Zer.of (by kernel_rfl)
theorem el_3 : Elm Try.prog 3 (.int .i64 (0)) 1 8 := Elm.of (by kernel_rfl) rfl (by decide)
theorem sc_4 : Scal Try.prog 4 := Scal.of Try.underlying4 rfl
theorem is_4 : (Try.prog.underlying 4).isSome = true := by rw [Try.underlying4]; rfl
theorem sz_4 : Siz Try.prog 4 1 := Siz.of (by kernel_rfl)
theorem zr_4 : Zer Try.prog 4 [.bool false] := Zer.of (by kernel_rfl)
theorem el_4 : Elm Try.prog 4 (.bool false) 1 1 := Elm.of (by kernel_rfl) rfl (by decide)
theorem sc_5 : Scal Try.prog 5 := Scal.of Try.underlying5 rfl
theorem is_5 : (Try.prog.underlying 5).isSome = true := by rw [Try.underlying5]; rfl
theorem sz_5 : Siz Try.prog 5 1 := Siz.of (by kernel_rfl)
theorem zr_5 : Zer Try.prog 5 [.int .u8 (0)] := Zer.of (by kernel_rfl)
theorem el_5 : Elm Try.prog 5 (.int .u8 (0)) 1 1 := Elm.of (by kernel_rfl) rfl (by decide)
theorem sc_6 : Scal Try.prog 6 := Scal.of Try.underlying6 rfl
theorem is_6 : (Try.prog.underlying 6).isSome = true := by rw [Try.underlying6]; rfl
theorem sz_6 : Siz Try.prog 6 1 := Siz.of (by kernel_rfl)
theorem zr_6 : Zer Try.prog 6 [.int .u8 (0)] := Zer.of (by kernel_rfl)
theorem el_6 : Elm Try.prog 6 (.int .u8 (0)) 1 1 := Elm.of (by kernel_rfl) rfl (by decide)
theorem is_7 : (Try.prog.underlying 7).isSome = true := by rw [Try.underlying7]; rfl
theorem sz_7 : Siz Try.prog 7 4 := Siz.of (by kernel_rfl)
theorem zr_7 : Zer Try.prog 7 [.int .i64 (0), .int .i64 (0), .bool false, .int .u8 (0)] := Zer.of (by kernel_rfl)
theorem el_7 : Elm Try.prog 7 (.agg #[.int .i64 (0), .int .i64 (0), .bool false, .int .u8 (0)]) 4 24 := Elm.of (by kernel_rfl) rfl (by decide)
theorem bp_7 {fs : Array Field} (h : Try.prog.underlying 7 = some (.struct fs)) : Plc Try.prog fs [(0, 1), (1, 1), (2, 1), (3, 1)] := by
  have e := h.symm.trans Try.underlying7
  injection e with e
  injection e with e
  subst e
  unfold Plc
  intro w
  kernel_rfl
theorem is_8 : (Try.prog.underlying 8).isSome = true := by rw [Try.underlying8]; rfl
theorem sz_8 : Siz Try.prog 8 4 := Siz.of (by kernel_rfl)
theorem zr_8 : Zer Try.prog 8 [.int .i64 (0), .int .i64 (0), .bool false, .int .u8 (0)] := Zer.of (by kernel_rfl)
theorem el_8 : Elm Try.prog 8 (.agg #[.int .i64 (0), .int .i64 (0), .bool false, .int .u8 (0)]) 4 24 := Elm.of (by kernel_rfl) rfl (by decide)
theorem bp_8 {fs : Array Field} (h : Try.prog.underlying 8 = some (.struct fs)) : Plc Try.prog fs [(0, 1), (1, 1), (2, 1), (3, 1)] := by
  have e := h.symm.trans Try.underlying8
  injection e with e
  injection e with e
  subst e
  unfold Plc
  intro w
  kernel_rfl
theorem sc_9 : Scal Try.prog 9 := Scal.of Try.underlying9 rfl
theorem is_9 : (Try.prog.underlying 9).isSome = true := by rw [Try.underlying9]; rfl
theorem sz_9 : Siz Try.prog 9 1 := Siz.of (by kernel_rfl)
theorem zr_9 : Zer Try.prog 9 [.string ⟨#[]⟩] := Zer.of (by kernel_rfl)
theorem el_9 : Elm Try.prog 9 (.string ⟨#[]⟩) 1 16 := Elm.of (by kernel_rfl) rfl (by decide)
theorem sc_10 : Scal Try.prog 10 := Scal.of Try.underlying10 rfl
theorem is_10 : (Try.prog.underlying 10).isSome = true := by rw [Try.underlying10]; rfl
theorem sz_10 : Siz Try.prog 10 1 := Siz.of (by kernel_rfl)
theorem zr_10 : Zer Try.prog 10 [.string ⟨#[]⟩] := Zer.of (by kernel_rfl)
theorem el_10 : Elm Try.prog 10 (.string ⟨#[]⟩) 1 16 := Elm.of (by kernel_rfl) rfl (by decide)
theorem sc_11 : Scal Try.prog 11 := Scal.of Try.underlying11 rfl
theorem is_11 : (Try.prog.underlying 11).isSome = true := by rw [Try.underlying11]; rfl
theorem sz_11 : Siz Try.prog 11 1 := Siz.of (by kernel_rfl)
theorem zr_11 : Zer Try.prog 11 [.string ⟨#[]⟩] := Zer.of (by kernel_rfl)
theorem el_11 : Elm Try.prog 11 (.string ⟨#[]⟩) 1 16 := Elm.of (by kernel_rfl) rfl (by decide)
theorem sc_12 : Scal Try.prog 12 := Scal.of Try.underlying12 rfl
theorem is_12 : (Try.prog.underlying 12).isSome = true := by rw [Try.underlying12]; rfl
theorem sz_12 : Siz Try.prog 12 1 := Siz.of (by kernel_rfl)
theorem zr_12 : Zer Try.prog 12 [.int .u64 (0)] := Zer.of (by kernel_rfl)
theorem el_12 : Elm Try.prog 12 (.int .u64 (0)) 1 8 := Elm.of (by kernel_rfl) rfl (by decide)
theorem is_13 : (Try.prog.underlying 13).isSome = true := by rw [Try.underlying13]; rfl
theorem sz_13 : Siz Try.prog 13 2 := Siz.of (by kernel_rfl)
theorem zr_13 : Zer Try.prog 13 [.string ⟨#[]⟩, .int .u64 (0)] := Zer.of (by kernel_rfl)
theorem el_13 : Elm Try.prog 13 (.agg #[.string ⟨#[]⟩, .int .u64 (0)]) 2 24 := Elm.of (by kernel_rfl) rfl (by decide)
theorem bp_13 {fs : Array Field} (h : Try.prog.underlying 13 = some (.struct fs)) : Plc Try.prog fs [(0, 1), (1, 1)] := by
  have e := h.symm.trans Try.underlying13
  injection e with e
  injection e with e
  subst e
  unfold Plc
  intro w
  kernel_rfl
theorem is_14 : (Try.prog.underlying 14).isSome = true := by rw [Try.underlying14]; rfl
theorem sz_14 : Siz Try.prog 14 2 := Siz.of (by kernel_rfl)
theorem zr_14 : Zer Try.prog 14 [.string ⟨#[]⟩, .int .u64 (0)] := Zer.of (by kernel_rfl)
theorem el_14 : Elm Try.prog 14 (.agg #[.string ⟨#[]⟩, .int .u64 (0)]) 2 24 := Elm.of (by kernel_rfl) rfl (by decide)
theorem bp_14 {fs : Array Field} (h : Try.prog.underlying 14 = some (.struct fs)) : Plc Try.prog fs [(0, 1), (1, 1)] := by
  have e := h.symm.trans Try.underlying14
  injection e with e
  injection e with e
  subst e
  unfold Plc
  intro w
  kernel_rfl
theorem sc_15 : Scal Try.prog 15 := Scal.of Try.underlying15 rfl
theorem is_15 : (Try.prog.underlying 15).isSome = true := by rw [Try.underlying15]; rfl
theorem sz_15 : Siz Try.prog 15 1 := Siz.of (by kernel_rfl)
theorem zr_15 : Zer Try.prog 15 [.pointer none] := Zer.of (by kernel_rfl)
theorem el_15 : Elm Try.prog 15 (.pointer none) 1 8 := Elm.of (by kernel_rfl) rfl (by decide)
theorem sc_16 : Scal Try.prog 16 := Scal.of Try.underlying16 rfl
theorem is_16 : (Try.prog.underlying 16).isSome = true := by rw [Try.underlying16]; rfl
theorem sz_16 : Siz Try.prog 16 1 := Siz.of (by kernel_rfl)
theorem zr_16 : Zer Try.prog 16 [.pointer none] := Zer.of (by kernel_rfl)
theorem el_16 : Elm Try.prog 16 (.pointer none) 1 8 := Elm.of (by kernel_rfl) rfl (by decide)
theorem sc_17 : Scal Try.prog 17 := Scal.of Try.underlying17 rfl
theorem is_17 : (Try.prog.underlying 17).isSome = true := by rw [Try.underlying17]; rfl
theorem sz_17 : Siz Try.prog 17 1 := Siz.of (by kernel_rfl)
theorem zr_17 : Zer Try.prog 17 [.pointer none] := Zer.of (by kernel_rfl)
theorem el_17 : Elm Try.prog 17 (.pointer none) 1 8 := Elm.of (by kernel_rfl) rfl (by decide)
theorem is_18 : (Try.prog.underlying 18).isSome = true := by rw [Try.underlying18]; rfl
theorem sz_18 : Siz Try.prog 18 1 := Siz.of (by kernel_rfl)
theorem zr_18 : Zer Try.prog 18 [.pointer none] := Zer.of (by kernel_rfl)
theorem el_18 : Elm Try.prog 18 (.agg #[.pointer none]) 1 8 := Elm.of (by kernel_rfl) rfl (by decide)
theorem bp_18 {fs : Array Field} (h : Try.prog.underlying 18 = some (.struct fs)) : Plc Try.prog fs [(0, 1)] := by
  have e := h.symm.trans Try.underlying18
  injection e with e
  injection e with e
  subst e
  unfold Plc
  intro w
  kernel_rfl
theorem is_19 : (Try.prog.underlying 19).isSome = true := by rw [Try.underlying19]; rfl
theorem sz_19 : Siz Try.prog 19 1 := Siz.of (by kernel_rfl)
theorem zr_19 : Zer Try.prog 19 [.pointer none] := Zer.of (by kernel_rfl)
theorem el_19 : Elm Try.prog 19 (.agg #[.pointer none]) 1 8 := Elm.of (by kernel_rfl) rfl (by decide)
theorem bp_19 {fs : Array Field} (h : Try.prog.underlying 19 = some (.struct fs)) : Plc Try.prog fs [(0, 1)] := by
  have e := h.symm.trans Try.underlying19
  injection e with e
  injection e with e
  subst e
  unfold Plc
  intro w
  kernel_rfl
theorem sc_21 : Scal Try.prog 21 := Scal.of Try.underlying21 rfl
theorem is_21 : (Try.prog.underlying 21).isSome = true := by rw [Try.underlying21]; rfl
theorem sz_21 : Siz Try.prog 21 1 := Siz.of (by kernel_rfl)
theorem zr_21 : Zer Try.prog 21 [.int .i32 (0)] := Zer.of (by kernel_rfl)
theorem el_21 : Elm Try.prog 21 (.int .i32 (0)) 1 4 := Elm.of (by kernel_rfl) rfl (by decide)
theorem sc_22 : Scal Try.prog 22 := Scal.of Try.underlying22 rfl
theorem is_22 : (Try.prog.underlying 22).isSome = true := by rw [Try.underlying22]; rfl
theorem sz_22 : Siz Try.prog 22 1 := Siz.of (by kernel_rfl)
theorem zr_22 : Zer Try.prog 22 [.slice none 0 0] := Zer.of (by kernel_rfl)
theorem el_22 : Elm Try.prog 22 (.slice none 0 0) 1 24 := Elm.of (by kernel_rfl) rfl (by decide)
theorem sc_23 : Scal Try.prog 23 := Scal.of Try.underlying23 rfl
theorem is_23 : (Try.prog.underlying 23).isSome = true := by rw [Try.underlying23]; rfl
theorem sz_23 : Siz Try.prog 23 1 := Siz.of (by kernel_rfl)
theorem zr_23 : Zer Try.prog 23 [.slice none 0 0] := Zer.of (by kernel_rfl)
theorem el_23 : Elm Try.prog 23 (.slice none 0 0) 1 24 := Elm.of (by kernel_rfl) rfl (by decide)
theorem sc_24 : Scal Try.prog 24 := Scal.of Try.underlying24 rfl
theorem is_24 : (Try.prog.underlying 24).isSome = true := by rw [Try.underlying24]; rfl
theorem sz_24 : Siz Try.prog 24 1 := Siz.of (by kernel_rfl)
theorem zr_24 : Zer Try.prog 24 [.slice none 0 0] := Zer.of (by kernel_rfl)
theorem el_24 : Elm Try.prog 24 (.slice none 0 0) 1 24 := Elm.of (by kernel_rfl) rfl (by decide)
theorem is_25 : (Try.prog.underlying 25).isSome = true := by rw [Try.underlying25]; rfl
theorem sz_25 : Siz Try.prog 25 2 := Siz.of (by kernel_rfl)
theorem zr_25 : Zer Try.prog 25 [.slice none 0 0, .slice none 0 0] := Zer.of (by kernel_rfl)
theorem el_25 : Elm Try.prog 25 (.agg #[.slice none 0 0, .slice none 0 0]) 2 48 := Elm.of (by kernel_rfl) rfl (by decide)
theorem bp_25 {fs : Array Field} (h : Try.prog.underlying 25 = some (.struct fs)) : Plc Try.prog fs [(0, 1), (1, 1)] := by
  have e := h.symm.trans Try.underlying25
  injection e with e
  injection e with e
  subst e
  unfold Plc
  intro w
  kernel_rfl
theorem is_26 : (Try.prog.underlying 26).isSome = true := by rw [Try.underlying26]; rfl
theorem sz_26 : Siz Try.prog 26 2 := Siz.of (by kernel_rfl)
theorem zr_26 : Zer Try.prog 26 [.slice none 0 0, .slice none 0 0] := Zer.of (by kernel_rfl)
theorem el_26 : Elm Try.prog 26 (.agg #[.slice none 0 0, .slice none 0 0]) 2 48 := Elm.of (by kernel_rfl) rfl (by decide)
theorem bp_26 {fs : Array Field} (h : Try.prog.underlying 26 = some (.struct fs)) : Plc Try.prog fs [(0, 1), (1, 1)] := by
  have e := h.symm.trans Try.underlying26
  injection e with e
  injection e with e
  subst e
  unfold Plc
  intro w
  kernel_rfl
theorem sc_28 : Scal Try.prog 28 := Scal.of Try.underlying28 rfl
theorem is_28 : (Try.prog.underlying 28).isSome = true := by rw [Try.underlying28]; rfl
theorem sz_28 : Siz Try.prog 28 1 := Siz.of (by kernel_rfl)
theorem zr_28 : Zer Try.prog 28 [.slice none 0 0] := Zer.of (by kernel_rfl)
theorem el_28 : Elm Try.prog 28 (.slice none 0 0) 1 24 := Elm.of (by kernel_rfl) rfl (by decide)
theorem sc_30 : Scal Try.prog 30 := Scal.of Try.underlying30 rfl
theorem is_30 : (Try.prog.underlying 30).isSome = true := by rw [Try.underlying30]; rfl
theorem sz_30 : Siz Try.prog 30 1 := Siz.of (by kernel_rfl)
theorem zr_30 : Zer Try.prog 30 [.slice none 0 0] := Zer.of (by kernel_rfl)
theorem el_30 : Elm Try.prog 30 (.slice none 0 0) 1 24 := Elm.of (by kernel_rfl) rfl (by decide)
theorem sc_35 : Scal Try.prog 35 := Scal.of Try.underlying35 rfl
theorem is_35 : (Try.prog.underlying 35).isSome = true := by rw [Try.underlying35]; rfl
theorem sz_35 : Siz Try.prog 35 1 := Siz.of (by kernel_rfl)
theorem zr_35 : Zer Try.prog 35 [.slice none 0 0] := Zer.of (by kernel_rfl)
theorem el_35 : Elm Try.prog 35 (.slice none 0 0) 1 24 := Elm.of (by kernel_rfl) rfl (by decide)
theorem sc_37 : Scal Try.prog 37 := Scal.of Try.underlying37 rfl
theorem is_37 : (Try.prog.underlying 37).isSome = true := by rw [Try.underlying37]; rfl
theorem sz_37 : Siz Try.prog 37 1 := Siz.of (by kernel_rfl)
theorem zr_37 : Zer Try.prog 37 [.slice none 0 0] := Zer.of (by kernel_rfl)
theorem el_37 : Elm Try.prog 37 (.slice none 0 0) 1 24 := Elm.of (by kernel_rfl) rfl (by decide)
theorem sc_38 : Scal Try.prog 38 := Scal.of Try.underlying38 rfl
theorem is_38 : (Try.prog.underlying 38).isSome = true := by rw [Try.underlying38]; rfl
theorem sz_38 : Siz Try.prog 38 1 := Siz.of (by kernel_rfl)
theorem zr_38 : Zer Try.prog 38 [.int .i64 (0)] := Zer.of (by kernel_rfl)
theorem el_38 : Elm Try.prog 38 (.int .i64 (0)) 1 8 := Elm.of (by kernel_rfl) rfl (by decide)
theorem sc_45 : Scal Try.prog 45 := Scal.of Try.underlying45 rfl
theorem is_45 : (Try.prog.underlying 45).isSome = true := by rw [Try.underlying45]; rfl
theorem sz_45 : Siz Try.prog 45 1 := Siz.of (by kernel_rfl)
theorem zr_45 : Zer Try.prog 45 [.slice none 0 0] := Zer.of (by kernel_rfl)
theorem el_45 : Elm Try.prog 45 (.slice none 0 0) 1 24 := Elm.of (by kernel_rfl) rfl (by decide)
theorem sc_46 : Scal Try.prog 46 := Scal.of Try.underlying46 rfl
theorem is_46 : (Try.prog.underlying 46).isSome = true := by rw [Try.underlying46]; rfl
theorem sz_46 : Siz Try.prog 46 1 := Siz.of (by kernel_rfl)
theorem zr_46 : Zer Try.prog 46 [.slice none 0 0] := Zer.of (by kernel_rfl)
theorem el_46 : Elm Try.prog 46 (.slice none 0 0) 1 24 := Elm.of (by kernel_rfl) rfl (by decide)
theorem sc_47 : Scal Try.prog 47 := Scal.of Try.underlying47 rfl
theorem is_47 : (Try.prog.underlying 47).isSome = true := by rw [Try.underlying47]; rfl
theorem sz_47 : Siz Try.prog 47 1 := Siz.of (by kernel_rfl)
theorem zr_47 : Zer Try.prog 47 [.slice none 0 0] := Zer.of (by kernel_rfl)
theorem el_47 : Elm Try.prog 47 (.slice none 0 0) 1 24 := Elm.of (by kernel_rfl) rfl (by decide)
theorem is_48 : (Try.prog.underlying 48).isSome = true := by rw [Try.underlying48]; rfl
theorem sz_48 : Siz Try.prog 48 4 := Siz.of (by kernel_rfl)
theorem zr_48 : Zer Try.prog 48 [.slice none 0 0, .slice none 0 0, .slice none 0 0, .slice none 0 0] := Zer.of (by kernel_rfl)
theorem el_48 : Elm Try.prog 48 (.agg #[.slice none 0 0, .slice none 0 0, .slice none 0 0, .slice none 0 0]) 4 96 := Elm.of (by kernel_rfl) rfl (by decide)
theorem bp_48 {fs : Array Field} (h : Try.prog.underlying 48 = some (.struct fs)) : Plc Try.prog fs [(0, 1), (1, 1), (2, 1), (3, 1)] := by
  have e := h.symm.trans Try.underlying48
  injection e with e
  injection e with e
  subst e
  unfold Plc
  intro w
  kernel_rfl
theorem is_49 : (Try.prog.underlying 49).isSome = true := by rw [Try.underlying49]; rfl
theorem sz_49 : Siz Try.prog 49 4 := Siz.of (by kernel_rfl)
theorem zr_49 : Zer Try.prog 49 [.slice none 0 0, .slice none 0 0, .slice none 0 0, .slice none 0 0] := Zer.of (by kernel_rfl)
theorem el_49 : Elm Try.prog 49 (.agg #[.slice none 0 0, .slice none 0 0, .slice none 0 0, .slice none 0 0]) 4 96 := Elm.of (by kernel_rfl) rfl (by decide)
theorem bp_49 {fs : Array Field} (h : Try.prog.underlying 49 = some (.struct fs)) : Plc Try.prog fs [(0, 1), (1, 1), (2, 1), (3, 1)] := by
  have e := h.symm.trans Try.underlying49
  injection e with e
  injection e with e
  subst e
  unfold Plc
  intro w
  kernel_rfl
theorem sc_50 : Scal Try.prog 50 := Scal.of Try.underlying50 rfl
theorem is_50 : (Try.prog.underlying 50).isSome = true := by rw [Try.underlying50]; rfl
theorem sz_50 : Siz Try.prog 50 1 := Siz.of (by kernel_rfl)
theorem zr_50 : Zer Try.prog 50 [.int .u32 (0)] := Zer.of (by kernel_rfl)
theorem el_50 : Elm Try.prog 50 (.int .u32 (0)) 1 4 := Elm.of (by kernel_rfl) rfl (by decide)
theorem sc_51 : Scal Try.prog 51 := Scal.of Try.underlying51 rfl
theorem is_51 : (Try.prog.underlying 51).isSome = true := by rw [Try.underlying51]; rfl
theorem sz_51 : Siz Try.prog 51 1 := Siz.of (by kernel_rfl)
theorem zr_51 : Zer Try.prog 51 [.slice none 0 0] := Zer.of (by kernel_rfl)
theorem el_51 : Elm Try.prog 51 (.slice none 0 0) 1 24 := Elm.of (by kernel_rfl) rfl (by decide)
theorem sc_52 : Scal Try.prog 52 := Scal.of Try.underlying52 rfl
theorem is_52 : (Try.prog.underlying 52).isSome = true := by rw [Try.underlying52]; rfl
theorem sz_52 : Siz Try.prog 52 1 := Siz.of (by kernel_rfl)
theorem zr_52 : Zer Try.prog 52 [.slice none 0 0] := Zer.of (by kernel_rfl)
theorem el_52 : Elm Try.prog 52 (.slice none 0 0) 1 24 := Elm.of (by kernel_rfl) rfl (by decide)
theorem is_53 : (Try.prog.underlying 53).isSome = true := by rw [Try.underlying53]; rfl
theorem sz_53 : Siz Try.prog 53 5 := Siz.of (by kernel_rfl)
theorem zr_53 : Zer Try.prog 53 [.int .u32 (0), .slice none 0 0, .slice none 0 0, .slice none 0 0, .int .i64 (0)] := Zer.of (by kernel_rfl)
theorem el_53 : Elm Try.prog 53 (.agg #[.int .u32 (0), .slice none 0 0, .slice none 0 0, .slice none 0 0, .int .i64 (0)]) 5 88 := Elm.of (by kernel_rfl) rfl (by decide)
theorem bp_53 {fs : Array Field} (h : Try.prog.underlying 53 = some (.struct fs)) : Plc Try.prog fs [(0, 1), (1, 1), (2, 1), (3, 1), (4, 1)] := by
  have e := h.symm.trans Try.underlying53
  injection e with e
  injection e with e
  subst e
  unfold Plc
  intro w
  kernel_rfl
theorem is_54 : (Try.prog.underlying 54).isSome = true := by rw [Try.underlying54]; rfl
theorem sz_54 : Siz Try.prog 54 5 := Siz.of (by kernel_rfl)
theorem zr_54 : Zer Try.prog 54 [.int .u32 (0), .slice none 0 0, .slice none 0 0, .slice none 0 0, .int .i64 (0)] := Zer.of (by kernel_rfl)
theorem el_54 : Elm Try.prog 54 (.agg #[.int .u32 (0), .slice none 0 0, .slice none 0 0, .slice none 0 0, .int .i64 (0)]) 5 88 := Elm.of (by kernel_rfl) rfl (by decide)
theorem bp_54 {fs : Array Field} (h : Try.prog.underlying 54 = some (.struct fs)) : Plc Try.prog fs [(0, 1), (1, 1), (2, 1), (3, 1), (4, 1)] := by
  have e := h.symm.trans Try.underlying54
  injection e with e
  injection e with e
  subst e
  unfold Plc
  intro w
  kernel_rfl
theorem is_75 : (Try.prog.underlying 75).isSome = true := by rw [Try.underlying75]; rfl
theorem sz_75 : Siz Try.prog 75 2 := Siz.of (by kernel_rfl)
theorem zr_75 : Zer Try.prog 75 [.slice none 0 0, .slice none 0 0] := Zer.of (by kernel_rfl)
theorem el_75 : Elm Try.prog 75 (.agg #[.slice none 0 0, .slice none 0 0]) 2 48 := Elm.of (by kernel_rfl) rfl (by decide)
theorem bp_75 {fs : Array Field} (h : Try.prog.underlying 75 = some (.struct fs)) : Plc Try.prog fs [(0, 1), (1, 1)] := by
  have e := h.symm.trans Try.underlying75
  injection e with e
  injection e with e
  subst e
  unfold Plc
  intro w
  kernel_rfl
theorem is_76 : (Try.prog.underlying 76).isSome = true := by rw [Try.underlying76]; rfl
theorem sz_76 : Siz Try.prog 76 2 := Siz.of (by kernel_rfl)
theorem zr_76 : Zer Try.prog 76 [.slice none 0 0, .slice none 0 0] := Zer.of (by kernel_rfl)
theorem el_76 : Elm Try.prog 76 (.agg #[.slice none 0 0, .slice none 0 0]) 2 48 := Elm.of (by kernel_rfl) rfl (by decide)
theorem bp_76 {fs : Array Field} (h : Try.prog.underlying 76 = some (.struct fs)) : Plc Try.prog fs [(0, 1), (1, 1)] := by
  have e := h.symm.trans Try.underlying76
  injection e with e
  injection e with e
  subst e
  unfold Plc
  intro w
  kernel_rfl
theorem sc_82 : Scal Try.prog 82 := Scal.of Try.underlying82 rfl
theorem is_82 : (Try.prog.underlying 82).isSome = true := by rw [Try.underlying82]; rfl
theorem sz_82 : Siz Try.prog 82 1 := Siz.of (by kernel_rfl)
theorem zr_82 : Zer Try.prog 82 [.slice none 0 0] := Zer.of (by kernel_rfl)
theorem el_82 : Elm Try.prog 82 (.slice none 0 0) 1 24 := Elm.of (by kernel_rfl) rfl (by decide)
theorem sc_85 : Scal Try.prog 85 := Scal.of Try.underlying85 rfl
theorem is_85 : (Try.prog.underlying 85).isSome = true := by rw [Try.underlying85]; rfl
theorem sz_85 : Siz Try.prog 85 1 := Siz.of (by kernel_rfl)
theorem zr_85 : Zer Try.prog 85 [.slice none 0 0] := Zer.of (by kernel_rfl)
theorem el_85 : Elm Try.prog 85 (.slice none 0 0) 1 24 := Elm.of (by kernel_rfl) rfl (by decide)
theorem sc_90 : Scal Try.prog 90 := Scal.of Try.underlying90 rfl
theorem is_90 : (Try.prog.underlying 90).isSome = true := by rw [Try.underlying90]; rfl
theorem sz_90 : Siz Try.prog 90 1 := Siz.of (by kernel_rfl)
theorem zr_90 : Zer Try.prog 90 [.int .u64 (0)] := Zer.of (by kernel_rfl)
theorem el_90 : Elm Try.prog 90 (.int .u64 (0)) 1 8 := Elm.of (by kernel_rfl) rfl (by decide)
theorem is_91 : (Try.prog.underlying 91).isSome = true := by rw [Try.underlying91]; rfl
theorem sz_91 : Siz Try.prog 91 2 := Siz.of (by kernel_rfl)
theorem zr_91 : Zer Try.prog 91 [.int .u64 (0), .int .i64 (0)] := Zer.of (by kernel_rfl)
theorem el_91 : Elm Try.prog 91 (.agg #[.int .u64 (0), .int .i64 (0)]) 2 16 := Elm.of (by kernel_rfl) rfl (by decide)
theorem bp_91 {fs : Array Field} (h : Try.prog.underlying 91 = some (.struct fs)) : Plc Try.prog fs [(0, 1), (1, 1)] := by
  have e := h.symm.trans Try.underlying91
  injection e with e
  injection e with e
  subst e
  unfold Plc
  intro w
  kernel_rfl
theorem is_92 : (Try.prog.underlying 92).isSome = true := by rw [Try.underlying92]; rfl
theorem sz_92 : Siz Try.prog 92 2 := Siz.of (by kernel_rfl)
theorem zr_92 : Zer Try.prog 92 [.int .u64 (0), .int .i64 (0)] := Zer.of (by kernel_rfl)
theorem el_92 : Elm Try.prog 92 (.agg #[.int .u64 (0), .int .i64 (0)]) 2 16 := Elm.of (by kernel_rfl) rfl (by decide)
theorem bp_92 {fs : Array Field} (h : Try.prog.underlying 92 = some (.struct fs)) : Plc Try.prog fs [(0, 1), (1, 1)] := by
  have e := h.symm.trans Try.underlying92
  injection e with e
  injection e with e
  subst e
  unfold Plc
  intro w
  kernel_rfl
theorem is_93 : (Try.prog.underlying 93).isSome = true := by rw [Try.underlying93]; rfl
theorem sz_93 : Siz Try.prog 93 2 := Siz.of (by kernel_rfl)
theorem zr_93 : Zer Try.prog 93 [.int .u64 (0), .int .i64 (0)] := Zer.of (by kernel_rfl)
theorem el_93 : Elm Try.prog 93 (.agg #[.int .u64 (0), .int .i64 (0)]) 2 16 := Elm.of (by kernel_rfl) rfl (by decide)
theorem bp_93 {fs : Array Field} (h : Try.prog.underlying 93 = some (.struct fs)) : Plc Try.prog fs [(0, 1), (1, 1)] := by
  have e := h.symm.trans Try.underlying93
  injection e with e
  injection e with e
  subst e
  unfold Plc
  intro w
  kernel_rfl
theorem is_97 : (Try.prog.underlying 97).isSome = true := by rw [Try.underlying97]; rfl
theorem sz_97 : Siz Try.prog 97 2 := Siz.of (by kernel_rfl)
theorem zr_97 : Zer Try.prog 97 [.int .i64 (0), .bool false] := Zer.of (by kernel_rfl)
theorem el_97 : Elm Try.prog 97 (.agg #[.int .i64 (0), .bool false]) 2 16 := Elm.of (by kernel_rfl) rfl (by decide)
theorem bp_97 {fs : Array Field} (h : Try.prog.underlying 97 = some (.struct fs)) : Plc Try.prog fs [(0, 1), (1, 1)] := by
  have e := h.symm.trans Try.underlying97
  injection e with e
  injection e with e
  subst e
  unfold Plc
  intro w
  kernel_rfl
theorem is_98 : (Try.prog.underlying 98).isSome = true := by rw [Try.underlying98]; rfl
theorem sz_98 : Siz Try.prog 98 2 := Siz.of (by kernel_rfl)
theorem zr_98 : Zer Try.prog 98 [.int .i64 (0), .bool false] := Zer.of (by kernel_rfl)
theorem el_98 : Elm Try.prog 98 (.agg #[.int .i64 (0), .bool false]) 2 16 := Elm.of (by kernel_rfl) rfl (by decide)
theorem bp_98 {fs : Array Field} (h : Try.prog.underlying 98 = some (.struct fs)) : Plc Try.prog fs [(0, 1), (1, 1)] := by
  have e := h.symm.trans Try.underlying98
  injection e with e
  injection e with e
  subst e
  unfold Plc
  intro w
  kernel_rfl
theorem sc_99 : Scal Try.prog 99 := Scal.of Try.underlying99 rfl
theorem is_99 : (Try.prog.underlying 99).isSome = true := by rw [Try.underlying99]; rfl
theorem sz_99 : Siz Try.prog 99 1 := Siz.of (by kernel_rfl)
theorem zr_99 : Zer Try.prog 99 [.float .f64 0] := Zer.of (by kernel_rfl)
theorem el_99 : Elm Try.prog 99 (.float .f64 0) 1 8 := Elm.of (by kernel_rfl) rfl (by decide)
theorem is_100 : (Try.prog.underlying 100).isSome = true := by rw [Try.underlying100]; rfl
theorem sz_100 : Siz Try.prog 100 3 := Siz.of (by kernel_rfl)
theorem zr_100 : Zer Try.prog 100 [.bool false, .int .i64 (0), .float .f64 0] := Zer.of (by kernel_rfl)
theorem el_100 : Elm Try.prog 100 (.agg #[.bool false, .int .i64 (0), .float .f64 0]) 3 24 := Elm.of (by kernel_rfl) rfl (by decide)
theorem bp_100 {fs : Array Field} (h : Try.prog.underlying 100 = some (.struct fs)) : Plc Try.prog fs [(0, 1), (1, 1), (2, 1)] := by
  have e := h.symm.trans Try.underlying100
  injection e with e
  injection e with e
  subst e
  unfold Plc
  intro w
  kernel_rfl
theorem is_101 : (Try.prog.underlying 101).isSome = true := by rw [Try.underlying101]; rfl
theorem sz_101 : Siz Try.prog 101 3 := Siz.of (by kernel_rfl)
theorem zr_101 : Zer Try.prog 101 [.bool false, .int .i64 (0), .float .f64 0] := Zer.of (by kernel_rfl)
theorem el_101 : Elm Try.prog 101 (.agg #[.bool false, .int .i64 (0), .float .f64 0]) 3 24 := Elm.of (by kernel_rfl) rfl (by decide)
theorem bp_101 {fs : Array Field} (h : Try.prog.underlying 101 = some (.struct fs)) : Plc Try.prog fs [(0, 1), (1, 1), (2, 1)] := by
  have e := h.symm.trans Try.underlying101
  injection e with e
  injection e with e
  subst e
  unfold Plc
  intro w
  kernel_rfl
theorem sc_109 : Scal Try.prog 109 := Scal.of Try.underlying109 rfl
theorem is_109 : (Try.prog.underlying 109).isSome = true := by rw [Try.underlying109]; rfl
theorem sz_109 : Siz Try.prog 109 1 := Siz.of (by kernel_rfl)
theorem zr_109 : Zer Try.prog 109 [.slice none 0 0] := Zer.of (by kernel_rfl)
theorem el_109 : Elm Try.prog 109 (.slice none 0 0) 1 24 := Elm.of (by kernel_rfl) rfl (by decide)
theorem sc_110 : Scal Try.prog 110 := Scal.of Try.underlying110 rfl
theorem is_110 : (Try.prog.underlying 110).isSome = true := by rw [Try.underlying110]; rfl
theorem sz_110 : Siz Try.prog 110 1 := Siz.of (by kernel_rfl)
theorem zr_110 : Zer Try.prog 110 [.pointer none] := Zer.of (by kernel_rfl)
theorem el_110 : Elm Try.prog 110 (.pointer none) 1 8 := Elm.of (by kernel_rfl) rfl (by decide)
theorem is_111 : (Try.prog.underlying 111).isSome = true := by rw [Try.underlying111]; rfl
theorem sz_111 : Siz Try.prog 111 2 := Siz.of (by kernel_rfl)
theorem zr_111 : Zer Try.prog 111 [.slice none 0 0, .slice none 0 0] := Zer.of (by kernel_rfl)
theorem el_111 : Elm Try.prog 111 (.agg #[.slice none 0 0, .slice none 0 0]) 2 48 := Elm.of (by kernel_rfl) rfl (by decide)
theorem bp_111 {fs : Array Field} (h : Try.prog.underlying 111 = some (.struct fs)) : Plc Try.prog fs [(0, 1), (1, 1)] := by
  have e := h.symm.trans Try.underlying111
  injection e with e
  injection e with e
  subst e
  unfold Plc
  intro w
  kernel_rfl
theorem is_112 : (Try.prog.underlying 112).isSome = true := by rw [Try.underlying112]; rfl
theorem sz_112 : Siz Try.prog 112 2 := Siz.of (by kernel_rfl)
theorem zr_112 : Zer Try.prog 112 [.slice none 0 0, .slice none 0 0] := Zer.of (by kernel_rfl)
theorem el_112 : Elm Try.prog 112 (.agg #[.slice none 0 0, .slice none 0 0]) 2 48 := Elm.of (by kernel_rfl) rfl (by decide)
theorem bp_112 {fs : Array Field} (h : Try.prog.underlying 112 = some (.struct fs)) : Plc Try.prog fs [(0, 1), (1, 1)] := by
  have e := h.symm.trans Try.underlying112
  injection e with e
  injection e with e
  subst e
  unfold Plc
  intro w
  kernel_rfl
theorem sc_115 : Scal Try.prog 115 := Scal.of Try.underlying115 rfl
theorem is_115 : (Try.prog.underlying 115).isSome = true := by rw [Try.underlying115]; rfl
theorem sz_115 : Siz Try.prog 115 1 := Siz.of (by kernel_rfl)
theorem zr_115 : Zer Try.prog 115 [.slice none 0 0] := Zer.of (by kernel_rfl)
theorem el_115 : Elm Try.prog 115 (.slice none 0 0) 1 24 := Elm.of (by kernel_rfl) rfl (by decide)
theorem sc_116 : Scal Try.prog 116 := Scal.of Try.underlying116 rfl
theorem is_116 : (Try.prog.underlying 116).isSome = true := by rw [Try.underlying116]; rfl
theorem sz_116 : Siz Try.prog 116 1 := Siz.of (by kernel_rfl)
theorem zr_116 : Zer Try.prog 116 [.slice none 0 0] := Zer.of (by kernel_rfl)
theorem el_116 : Elm Try.prog 116 (.slice none 0 0) 1 24 := Elm.of (by kernel_rfl) rfl (by decide)
theorem is_117 : (Try.prog.underlying 117).isSome = true := by rw [Try.underlying117]; rfl
theorem sz_117 : Siz Try.prog 117 4 := Siz.of (by kernel_rfl)
theorem zr_117 : Zer Try.prog 117 [.int .u64 (0), .int .i64 (0), .slice none 0 0, .slice none 0 0] := Zer.of (by kernel_rfl)
theorem el_117 : Elm Try.prog 117 (.agg #[.int .u64 (0), .int .i64 (0), .slice none 0 0, .slice none 0 0]) 4 64 := Elm.of (by kernel_rfl) rfl (by decide)
theorem bp_117 {fs : Array Field} (h : Try.prog.underlying 117 = some (.struct fs)) : Plc Try.prog fs [(0, 1), (1, 1), (2, 1), (3, 1)] := by
  have e := h.symm.trans Try.underlying117
  injection e with e
  injection e with e
  subst e
  unfold Plc
  intro w
  kernel_rfl
theorem is_118 : (Try.prog.underlying 118).isSome = true := by rw [Try.underlying118]; rfl
theorem sz_118 : Siz Try.prog 118 4 := Siz.of (by kernel_rfl)
theorem zr_118 : Zer Try.prog 118 [.int .u64 (0), .int .i64 (0), .slice none 0 0, .slice none 0 0] := Zer.of (by kernel_rfl)
theorem el_118 : Elm Try.prog 118 (.agg #[.int .u64 (0), .int .i64 (0), .slice none 0 0, .slice none 0 0]) 4 64 := Elm.of (by kernel_rfl) rfl (by decide)
theorem bp_118 {fs : Array Field} (h : Try.prog.underlying 118 = some (.struct fs)) : Plc Try.prog fs [(0, 1), (1, 1), (2, 1), (3, 1)] := by
  have e := h.symm.trans Try.underlying118
  injection e with e
  injection e with e
  subst e
  unfold Plc
  intro w
  kernel_rfl
theorem is_127 : (Try.prog.underlying 127).isSome = true := by rw [Try.underlying127]; rfl
theorem sz_127 : Siz Try.prog 127 2 := Siz.of (by kernel_rfl)
theorem zr_127 : Zer Try.prog 127 [.string ⟨#[]⟩, .int .i64 (0)] := Zer.of (by kernel_rfl)
theorem el_127 : Elm Try.prog 127 (.agg #[.string ⟨#[]⟩, .int .i64 (0)]) 2 24 := Elm.of (by kernel_rfl) rfl (by decide)
theorem bp_127 {fs : Array Field} (h : Try.prog.underlying 127 = some (.struct fs)) : Plc Try.prog fs [(0, 1), (1, 1)] := by
  have e := h.symm.trans Try.underlying127
  injection e with e
  injection e with e
  subst e
  unfold Plc
  intro w
  kernel_rfl
theorem is_128 : (Try.prog.underlying 128).isSome = true := by rw [Try.underlying128]; rfl
theorem sz_128 : Siz Try.prog 128 2 := Siz.of (by kernel_rfl)
theorem zr_128 : Zer Try.prog 128 [.string ⟨#[]⟩, .int .i64 (0)] := Zer.of (by kernel_rfl)
theorem el_128 : Elm Try.prog 128 (.agg #[.string ⟨#[]⟩, .int .i64 (0)]) 2 24 := Elm.of (by kernel_rfl) rfl (by decide)
theorem bp_128 {fs : Array Field} (h : Try.prog.underlying 128 = some (.struct fs)) : Plc Try.prog fs [(0, 1), (1, 1)] := by
  have e := h.symm.trans Try.underlying128
  injection e with e
  injection e with e
  subst e
  unfold Plc
  intro w
  kernel_rfl
theorem is_129 : (Try.prog.underlying 129).isSome = true := by rw [Try.underlying129]; rfl
theorem sz_129 : Siz Try.prog 129 2 := Siz.of (by kernel_rfl)
theorem zr_129 : Zer Try.prog 129 [.int .i64 (0), .int .i64 (0)] := Zer.of (by kernel_rfl)
theorem el_129 : Elm Try.prog 129 (.agg #[.int .i64 (0), .int .i64 (0)]) 2 16 := Elm.of (by kernel_rfl) rfl (by decide)
theorem bp_129 {fs : Array Field} (h : Try.prog.underlying 129 = some (.struct fs)) : Plc Try.prog fs [(0, 1), (1, 1)] := by
  have e := h.symm.trans Try.underlying129
  injection e with e
  injection e with e
  subst e
  unfold Plc
  intro w
  kernel_rfl
theorem is_130 : (Try.prog.underlying 130).isSome = true := by rw [Try.underlying130]; rfl
theorem sz_130 : Siz Try.prog 130 2 := Siz.of (by kernel_rfl)
theorem zr_130 : Zer Try.prog 130 [.int .i64 (0), .int .i64 (0)] := Zer.of (by kernel_rfl)
theorem el_130 : Elm Try.prog 130 (.agg #[.int .i64 (0), .int .i64 (0)]) 2 16 := Elm.of (by kernel_rfl) rfl (by decide)
theorem bp_130 {fs : Array Field} (h : Try.prog.underlying 130 = some (.struct fs)) : Plc Try.prog fs [(0, 1), (1, 1)] := by
  have e := h.symm.trans Try.underlying130
  injection e with e
  injection e with e
  subst e
  unfold Plc
  intro w
  kernel_rfl
theorem is_149 : (Try.prog.underlying 149).isSome = true := by rw [Try.underlying149]; rfl
theorem sz_149 : Siz Try.prog 149 2 := Siz.of (by kernel_rfl)
theorem zr_149 : Zer Try.prog 149 [.int .i64 (0), .slice none 0 0] := Zer.of (by kernel_rfl)
theorem el_149 : Elm Try.prog 149 (.agg #[.int .i64 (0), .slice none 0 0]) 2 32 := Elm.of (by kernel_rfl) rfl (by decide)
theorem bp_149 {fs : Array Field} (h : Try.prog.underlying 149 = some (.struct fs)) : Plc Try.prog fs [(0, 1), (1, 1)] := by
  have e := h.symm.trans Try.underlying149
  injection e with e
  injection e with e
  subst e
  unfold Plc
  intro w
  kernel_rfl
theorem is_150 : (Try.prog.underlying 150).isSome = true := by rw [Try.underlying150]; rfl
theorem sz_150 : Siz Try.prog 150 2 := Siz.of (by kernel_rfl)
theorem zr_150 : Zer Try.prog 150 [.int .i64 (0), .slice none 0 0] := Zer.of (by kernel_rfl)
theorem el_150 : Elm Try.prog 150 (.agg #[.int .i64 (0), .slice none 0 0]) 2 32 := Elm.of (by kernel_rfl) rfl (by decide)
theorem bp_150 {fs : Array Field} (h : Try.prog.underlying 150 = some (.struct fs)) : Plc Try.prog fs [(0, 1), (1, 1)] := by
  have e := h.symm.trans Try.underlying150
  injection e with e
  injection e with e
  subst e
  unfold Plc
  intro w
  kernel_rfl
theorem sc_153 : Scal Try.prog 153 := Scal.of Try.underlying153 rfl
theorem is_153 : (Try.prog.underlying 153).isSome = true := by rw [Try.underlying153]; rfl
theorem sz_153 : Siz Try.prog 153 1 := Siz.of (by kernel_rfl)
theorem zr_153 : Zer Try.prog 153 [.pointer none] := Zer.of (by kernel_rfl)
theorem el_153 : Elm Try.prog 153 (.pointer none) 1 8 := Elm.of (by kernel_rfl) rfl (by decide)
theorem sc_157 : Scal Try.prog 157 := Scal.of Try.underlying157 rfl
theorem is_157 : (Try.prog.underlying 157).isSome = true := by rw [Try.underlying157]; rfl
theorem sz_157 : Siz Try.prog 157 1 := Siz.of (by kernel_rfl)
theorem zr_157 : Zer Try.prog 157 [.pointer none] := Zer.of (by kernel_rfl)
theorem el_157 : Elm Try.prog 157 (.pointer none) 1 8 := Elm.of (by kernel_rfl) rfl (by decide)
theorem is_158 : (Try.prog.underlying 158).isSome = true := by rw [Try.underlying158]; rfl
theorem sz_158 : Siz Try.prog 158 3 := Siz.of (by kernel_rfl)
theorem zr_158 : Zer Try.prog 158 [.slice none 0 0, .int .i64 (0), .int .i64 (0)] := Zer.of (by kernel_rfl)
theorem el_158 : Elm Try.prog 158 (.agg #[.slice none 0 0, .int .i64 (0), .int .i64 (0)]) 3 40 := Elm.of (by kernel_rfl) rfl (by decide)
theorem bp_158 {fs : Array Field} (h : Try.prog.underlying 158 = some (.struct fs)) : Plc Try.prog fs [(0, 1), (1, 1), (2, 1)] := by
  have e := h.symm.trans Try.underlying158
  injection e with e
  injection e with e
  subst e
  unfold Plc
  intro w
  kernel_rfl
theorem is_159 : (Try.prog.underlying 159).isSome = true := by rw [Try.underlying159]; rfl
theorem sz_159 : Siz Try.prog 159 3 := Siz.of (by kernel_rfl)
theorem zr_159 : Zer Try.prog 159 [.slice none 0 0, .int .i64 (0), .int .i64 (0)] := Zer.of (by kernel_rfl)
theorem el_159 : Elm Try.prog 159 (.agg #[.slice none 0 0, .int .i64 (0), .int .i64 (0)]) 3 40 := Elm.of (by kernel_rfl) rfl (by decide)
theorem bp_159 {fs : Array Field} (h : Try.prog.underlying 159 = some (.struct fs)) : Plc Try.prog fs [(0, 1), (1, 1), (2, 1)] := by
  have e := h.symm.trans Try.underlying159
  injection e with e
  injection e with e
  subst e
  unfold Plc
  intro w
  kernel_rfl
theorem sc_163 : Scal Try.prog 163 := Scal.of Try.underlying163 rfl
theorem is_163 : (Try.prog.underlying 163).isSome = true := by rw [Try.underlying163]; rfl
theorem sz_163 : Siz Try.prog 163 1 := Siz.of (by kernel_rfl)
theorem zr_163 : Zer Try.prog 163 [.pointer none] := Zer.of (by kernel_rfl)
theorem el_163 : Elm Try.prog 163 (.pointer none) 1 8 := Elm.of (by kernel_rfl) rfl (by decide)
theorem sc_197 : Scal Try.prog 197 := Scal.of Try.underlying197 rfl
theorem is_197 : (Try.prog.underlying 197).isSome = true := by rw [Try.underlying197]; rfl
theorem sz_197 : Siz Try.prog 197 1 := Siz.of (by kernel_rfl)
theorem zr_197 : Zer Try.prog 197 [.pointer none] := Zer.of (by kernel_rfl)
theorem el_197 : Elm Try.prog 197 (.pointer none) 1 8 := Elm.of (by kernel_rfl) rfl (by decide)
theorem is_198 : (Try.prog.underlying 198).isSome = true := by rw [Try.underlying198]; rfl
theorem sz_198 : Siz Try.prog 198 2 := Siz.of (by kernel_rfl)
theorem zr_198 : Zer Try.prog 198 [.slice none 0 0, .slice none 0 0] := Zer.of (by kernel_rfl)
theorem el_198 : Elm Try.prog 198 (.agg #[.slice none 0 0, .slice none 0 0]) 2 48 := Elm.of (by kernel_rfl) rfl (by decide)
theorem bp_198 {fs : Array Field} (h : Try.prog.underlying 198 = some (.struct fs)) : Plc Try.prog fs [(0, 1), (1, 1)] := by
  have e := h.symm.trans Try.underlying198
  injection e with e
  injection e with e
  subst e
  unfold Plc
  intro w
  kernel_rfl
theorem is_199 : (Try.prog.underlying 199).isSome = true := by rw [Try.underlying199]; rfl
theorem sz_199 : Siz Try.prog 199 2 := Siz.of (by kernel_rfl)
theorem zr_199 : Zer Try.prog 199 [.slice none 0 0, .slice none 0 0] := Zer.of (by kernel_rfl)
theorem el_199 : Elm Try.prog 199 (.agg #[.slice none 0 0, .slice none 0 0]) 2 48 := Elm.of (by kernel_rfl) rfl (by decide)
theorem bp_199 {fs : Array Field} (h : Try.prog.underlying 199 = some (.struct fs)) : Plc Try.prog fs [(0, 1), (1, 1)] := by
  have e := h.symm.trans Try.underlying199
  injection e with e
  injection e with e
  subst e
  unfold Plc
  intro w
  kernel_rfl
theorem is_207 : (Try.prog.underlying 207).isSome = true := by rw [Try.underlying207]; rfl
theorem sz_207 : Siz Try.prog 207 5 := Siz.of (by kernel_rfl)
theorem zr_207 : Zer Try.prog 207 [.int .i64 (0), .int .i64 (0), .slice none 0 0, .int .i64 (0), .int .i64 (0)] := Zer.of (by kernel_rfl)
theorem el_207 : Elm Try.prog 207 (.agg #[.int .i64 (0), .int .i64 (0), .slice none 0 0, .int .i64 (0), .int .i64 (0)]) 5 56 := Elm.of (by kernel_rfl) rfl (by decide)
theorem bp_207 {fs : Array Field} (h : Try.prog.underlying 207 = some (.struct fs)) : Plc Try.prog fs [(0, 1), (1, 1), (2, 1), (3, 1), (4, 1)] := by
  have e := h.symm.trans Try.underlying207
  injection e with e
  injection e with e
  subst e
  unfold Plc
  intro w
  kernel_rfl
theorem is_208 : (Try.prog.underlying 208).isSome = true := by rw [Try.underlying208]; rfl
theorem sz_208 : Siz Try.prog 208 5 := Siz.of (by kernel_rfl)
theorem zr_208 : Zer Try.prog 208 [.int .i64 (0), .int .i64 (0), .slice none 0 0, .int .i64 (0), .int .i64 (0)] := Zer.of (by kernel_rfl)
theorem el_208 : Elm Try.prog 208 (.agg #[.int .i64 (0), .int .i64 (0), .slice none 0 0, .int .i64 (0), .int .i64 (0)]) 5 56 := Elm.of (by kernel_rfl) rfl (by decide)
theorem bp_208 {fs : Array Field} (h : Try.prog.underlying 208 = some (.struct fs)) : Plc Try.prog fs [(0, 1), (1, 1), (2, 1), (3, 1), (4, 1)] := by
  have e := h.symm.trans Try.underlying208
  injection e with e
  injection e with e
  subst e
  unfold Plc
  intro w
  kernel_rfl
theorem is_209 : (Try.prog.underlying 209).isSome = true := by rw [Try.underlying209]; rfl
theorem sz_209 : Siz Try.prog 209 3 := Siz.of (by kernel_rfl)
theorem zr_209 : Zer Try.prog 209 [.slice none 0 0, .float .f64 0, .float .f64 0] := Zer.of (by kernel_rfl)
theorem el_209 : Elm Try.prog 209 (.agg #[.slice none 0 0, .float .f64 0, .float .f64 0]) 3 40 := Elm.of (by kernel_rfl) rfl (by decide)
theorem bp_209 {fs : Array Field} (h : Try.prog.underlying 209 = some (.struct fs)) : Plc Try.prog fs [(0, 1), (1, 1), (2, 1)] := by
  have e := h.symm.trans Try.underlying209
  injection e with e
  injection e with e
  subst e
  unfold Plc
  intro w
  kernel_rfl
theorem is_210 : (Try.prog.underlying 210).isSome = true := by rw [Try.underlying210]; rfl
theorem sz_210 : Siz Try.prog 210 3 := Siz.of (by kernel_rfl)
theorem zr_210 : Zer Try.prog 210 [.slice none 0 0, .float .f64 0, .float .f64 0] := Zer.of (by kernel_rfl)
theorem el_210 : Elm Try.prog 210 (.agg #[.slice none 0 0, .float .f64 0, .float .f64 0]) 3 40 := Elm.of (by kernel_rfl) rfl (by decide)
theorem bp_210 {fs : Array Field} (h : Try.prog.underlying 210 = some (.struct fs)) : Plc Try.prog fs [(0, 1), (1, 1), (2, 1)] := by
  have e := h.symm.trans Try.underlying210
  injection e with e
  injection e with e
  subst e
  unfold Plc
  intro w
  kernel_rfl
theorem is_217 : (Try.prog.underlying 217).isSome = true := by rw [Try.underlying217]; rfl
theorem sz_217 : Siz Try.prog 217 2 := Siz.of (by kernel_rfl)
theorem zr_217 : Zer Try.prog 217 [.bool false, .slice none 0 0] := Zer.of (by kernel_rfl)
theorem el_217 : Elm Try.prog 217 (.agg #[.bool false, .slice none 0 0]) 2 32 := Elm.of (by kernel_rfl) rfl (by decide)
theorem bp_217 {fs : Array Field} (h : Try.prog.underlying 217 = some (.struct fs)) : Plc Try.prog fs [(0, 1), (1, 1)] := by
  have e := h.symm.trans Try.underlying217
  injection e with e
  injection e with e
  subst e
  unfold Plc
  intro w
  kernel_rfl
theorem is_218 : (Try.prog.underlying 218).isSome = true := by rw [Try.underlying218]; rfl
theorem sz_218 : Siz Try.prog 218 2 := Siz.of (by kernel_rfl)
theorem zr_218 : Zer Try.prog 218 [.bool false, .slice none 0 0] := Zer.of (by kernel_rfl)
theorem el_218 : Elm Try.prog 218 (.agg #[.bool false, .slice none 0 0]) 2 32 := Elm.of (by kernel_rfl) rfl (by decide)
theorem bp_218 {fs : Array Field} (h : Try.prog.underlying 218 = some (.struct fs)) : Plc Try.prog fs [(0, 1), (1, 1)] := by
  have e := h.symm.trans Try.underlying218
  injection e with e
  injection e with e
  subst e
  unfold Plc
  intro w
  kernel_rfl
theorem is_222 : (Try.prog.underlying 222).isSome = true := by rw [Try.underlying222]; rfl
theorem sz_222 : Siz Try.prog 222 7 := Siz.of (by kernel_rfl)
theorem zr_222 : Zer Try.prog 222 [.bool false, .bool false, .bool false, .bool false, .bool false, .bool false, .slice none 0 0] := Zer.of (by kernel_rfl)
theorem el_222 : Elm Try.prog 222 (.agg #[.bool false, .bool false, .bool false, .bool false, .bool false, .bool false, .slice none 0 0]) 7 40 := Elm.of (by kernel_rfl) rfl (by decide)
theorem bp_222 {fs : Array Field} (h : Try.prog.underlying 222 = some (.struct fs)) : Plc Try.prog fs [(0, 1), (1, 1), (2, 1), (3, 1), (4, 1), (5, 2)] := by
  have e := h.symm.trans Try.underlying222
  injection e with e
  injection e with e
  subst e
  unfold Plc
  intro w
  kernel_rfl
theorem is_223 : (Try.prog.underlying 223).isSome = true := by rw [Try.underlying223]; rfl
theorem sz_223 : Siz Try.prog 223 7 := Siz.of (by kernel_rfl)
theorem zr_223 : Zer Try.prog 223 [.bool false, .bool false, .bool false, .bool false, .bool false, .bool false, .slice none 0 0] := Zer.of (by kernel_rfl)
theorem el_223 : Elm Try.prog 223 (.agg #[.bool false, .bool false, .bool false, .bool false, .bool false, .bool false, .slice none 0 0]) 7 40 := Elm.of (by kernel_rfl) rfl (by decide)
theorem bp_223 {fs : Array Field} (h : Try.prog.underlying 223 = some (.struct fs)) : Plc Try.prog fs [(0, 1), (1, 1), (2, 1), (3, 1), (4, 1), (5, 2)] := by
  have e := h.symm.trans Try.underlying223
  injection e with e
  injection e with e
  subst e
  unfold Plc
  intro w
  kernel_rfl
theorem is_238 : (Try.prog.underlying 238).isSome = true := by rw [Try.underlying238]; rfl
theorem sz_238 : Siz Try.prog 238 4 := Siz.of (by kernel_rfl)
theorem zr_238 : Zer Try.prog 238 [.bool false, .slice none 0 0, .int .i64 (0), .int .i64 (0)] := Zer.of (by kernel_rfl)
theorem el_238 : Elm Try.prog 238 (.agg #[.bool false, .slice none 0 0, .int .i64 (0), .int .i64 (0)]) 4 48 := Elm.of (by kernel_rfl) rfl (by decide)
theorem bp_238 {fs : Array Field} (h : Try.prog.underlying 238 = some (.struct fs)) : Plc Try.prog fs [(0, 1), (1, 1), (2, 1), (3, 1)] := by
  have e := h.symm.trans Try.underlying238
  injection e with e
  injection e with e
  subst e
  unfold Plc
  intro w
  kernel_rfl
theorem is_239 : (Try.prog.underlying 239).isSome = true := by rw [Try.underlying239]; rfl
theorem sz_239 : Siz Try.prog 239 4 := Siz.of (by kernel_rfl)
theorem zr_239 : Zer Try.prog 239 [.bool false, .slice none 0 0, .int .i64 (0), .int .i64 (0)] := Zer.of (by kernel_rfl)
theorem el_239 : Elm Try.prog 239 (.agg #[.bool false, .slice none 0 0, .int .i64 (0), .int .i64 (0)]) 4 48 := Elm.of (by kernel_rfl) rfl (by decide)
theorem bp_239 {fs : Array Field} (h : Try.prog.underlying 239 = some (.struct fs)) : Plc Try.prog fs [(0, 1), (1, 1), (2, 1), (3, 1)] := by
  have e := h.symm.trans Try.underlying239
  injection e with e
  injection e with e
  subst e
  unfold Plc
  intro w
  kernel_rfl
theorem is_242 : (Try.prog.underlying 242).isSome = true := by rw [Try.underlying242]; rfl
theorem sz_242 : Siz Try.prog 242 5 := Siz.of (by kernel_rfl)
theorem zr_242 : Zer Try.prog 242 [.int .u64 (0), .int .i64 (0), .string ⟨#[]⟩, .int .i64 (0), .int .i64 (0)] := Zer.of (by kernel_rfl)
theorem el_242 : Elm Try.prog 242 (.agg #[.int .u64 (0), .int .i64 (0), .string ⟨#[]⟩, .int .i64 (0), .int .i64 (0)]) 5 48 := Elm.of (by kernel_rfl) rfl (by decide)
theorem bp_242 {fs : Array Field} (h : Try.prog.underlying 242 = some (.struct fs)) : Plc Try.prog fs [(0, 1), (1, 1), (2, 1), (3, 1), (4, 1)] := by
  have e := h.symm.trans Try.underlying242
  injection e with e
  injection e with e
  subst e
  unfold Plc
  intro w
  kernel_rfl
theorem is_243 : (Try.prog.underlying 243).isSome = true := by rw [Try.underlying243]; rfl
theorem sz_243 : Siz Try.prog 243 5 := Siz.of (by kernel_rfl)
theorem zr_243 : Zer Try.prog 243 [.int .u64 (0), .int .i64 (0), .string ⟨#[]⟩, .int .i64 (0), .int .i64 (0)] := Zer.of (by kernel_rfl)
theorem el_243 : Elm Try.prog 243 (.agg #[.int .u64 (0), .int .i64 (0), .string ⟨#[]⟩, .int .i64 (0), .int .i64 (0)]) 5 48 := Elm.of (by kernel_rfl) rfl (by decide)
theorem bp_243 {fs : Array Field} (h : Try.prog.underlying 243 = some (.struct fs)) : Plc Try.prog fs [(0, 1), (1, 1), (2, 1), (3, 1), (4, 1)] := by
  have e := h.symm.trans Try.underlying243
  injection e with e
  injection e with e
  subst e
  unfold Plc
  intro w
  kernel_rfl
theorem is_245 : (Try.prog.underlying 245).isSome = true := by rw [Try.underlying245]; rfl
theorem sz_245 : Siz Try.prog 245 6 := Siz.of (by kernel_rfl)
theorem zr_245 : Zer Try.prog 245 [.int .i64 (0), .int .u64 (0), .int .i64 (0), .float .f64 0, .string ⟨#[]⟩, .int .i64 (0)] := Zer.of (by kernel_rfl)
theorem el_245 : Elm Try.prog 245 (.agg #[.int .i64 (0), .int .u64 (0), .int .i64 (0), .float .f64 0, .string ⟨#[]⟩, .int .i64 (0)]) 6 56 := Elm.of (by kernel_rfl) rfl (by decide)
theorem bp_245 {fs : Array Field} (h : Try.prog.underlying 245 = some (.struct fs)) : Plc Try.prog fs [(0, 1), (1, 1), (2, 1), (3, 1), (4, 1), (5, 1)] := by
  have e := h.symm.trans Try.underlying245
  injection e with e
  injection e with e
  subst e
  unfold Plc
  intro w
  kernel_rfl
theorem is_246 : (Try.prog.underlying 246).isSome = true := by rw [Try.underlying246]; rfl
theorem sz_246 : Siz Try.prog 246 6 := Siz.of (by kernel_rfl)
theorem zr_246 : Zer Try.prog 246 [.int .i64 (0), .int .u64 (0), .int .i64 (0), .float .f64 0, .string ⟨#[]⟩, .int .i64 (0)] := Zer.of (by kernel_rfl)
theorem el_246 : Elm Try.prog 246 (.agg #[.int .i64 (0), .int .u64 (0), .int .i64 (0), .float .f64 0, .string ⟨#[]⟩, .int .i64 (0)]) 6 56 := Elm.of (by kernel_rfl) rfl (by decide)
theorem bp_246 {fs : Array Field} (h : Try.prog.underlying 246 = some (.struct fs)) : Plc Try.prog fs [(0, 1), (1, 1), (2, 1), (3, 1), (4, 1), (5, 1)] := by
  have e := h.symm.trans Try.underlying246
  injection e with e
  injection e with e
  subst e
  unfold Plc
  intro w
  kernel_rfl
theorem is_247 : (Try.prog.underlying 247).isSome = true := by rw [Try.underlying247]; rfl
theorem sz_247 : Siz Try.prog 247 2 := Siz.of (by kernel_rfl)
theorem zr_247 : Zer Try.prog 247 [.bool false, .slice none 0 0] := Zer.of (by kernel_rfl)
theorem el_247 : Elm Try.prog 247 (.agg #[.bool false, .slice none 0 0]) 2 32 := Elm.of (by kernel_rfl) rfl (by decide)
theorem bp_247 {fs : Array Field} (h : Try.prog.underlying 247 = some (.struct fs)) : Plc Try.prog fs [(0, 1), (1, 1)] := by
  have e := h.symm.trans Try.underlying247
  injection e with e
  injection e with e
  subst e
  unfold Plc
  intro w
  kernel_rfl
theorem is_248 : (Try.prog.underlying 248).isSome = true := by rw [Try.underlying248]; rfl
theorem sz_248 : Siz Try.prog 248 2 := Siz.of (by kernel_rfl)
theorem zr_248 : Zer Try.prog 248 [.bool false, .slice none 0 0] := Zer.of (by kernel_rfl)
theorem el_248 : Elm Try.prog 248 (.agg #[.bool false, .slice none 0 0]) 2 32 := Elm.of (by kernel_rfl) rfl (by decide)
theorem bp_248 {fs : Array Field} (h : Try.prog.underlying 248 = some (.struct fs)) : Plc Try.prog fs [(0, 1), (1, 1)] := by
  have e := h.symm.trans Try.underlying248
  injection e with e
  injection e with e
  subst e
  unfold Plc
  intro w
  kernel_rfl
theorem sc_250 : Scal Try.prog 250 := Scal.of Try.underlying250 rfl
theorem is_250 : (Try.prog.underlying 250).isSome = true := by rw [Try.underlying250]; rfl
theorem sz_250 : Siz Try.prog 250 1 := Siz.of (by kernel_rfl)
theorem zr_250 : Zer Try.prog 250 [.map none] := Zer.of (by kernel_rfl)
theorem el_250 : Elm Try.prog 250 (.map none) 1 8 := Elm.of (by kernel_rfl) rfl (by decide)
theorem sc_255 : Scal Try.prog 255 := Scal.of Try.underlying255 rfl
theorem is_255 : (Try.prog.underlying 255).isSome = true := by rw [Try.underlying255]; rfl
theorem sz_255 : Siz Try.prog 255 1 := Siz.of (by kernel_rfl)
theorem zr_255 : Zer Try.prog 255 [.int .u64 (0)] := Zer.of (by kernel_rfl)
theorem el_255 : Elm Try.prog 255 (.int .u64 (0)) 1 8 := Elm.of (by kernel_rfl) rfl (by decide)
theorem sc_272 : Scal Try.prog 272 := Scal.of Try.underlying272 rfl
theorem is_272 : (Try.prog.underlying 272).isSome = true := by rw [Try.underlying272]; rfl
theorem sz_272 : Siz Try.prog 272 1 := Siz.of (by kernel_rfl)
theorem zr_272 : Zer Try.prog 272 [.pointer none] := Zer.of (by kernel_rfl)
theorem el_272 : Elm Try.prog 272 (.pointer none) 1 8 := Elm.of (by kernel_rfl) rfl (by decide)
theorem sc_289 : Scal Try.prog 289 := Scal.of Try.underlying289 rfl
theorem is_289 : (Try.prog.underlying 289).isSome = true := by rw [Try.underlying289]; rfl
theorem sz_289 : Siz Try.prog 289 1 := Siz.of (by kernel_rfl)
theorem zr_289 : Zer Try.prog 289 [.map none] := Zer.of (by kernel_rfl)
theorem el_289 : Elm Try.prog 289 (.map none) 1 8 := Elm.of (by kernel_rfl) rfl (by decide)
theorem sc_296 : Scal Try.prog 296 := Scal.of Try.underlying296 rfl
theorem is_296 : (Try.prog.underlying 296).isSome = true := by rw [Try.underlying296]; rfl
theorem sz_296 : Siz Try.prog 296 1 := Siz.of (by kernel_rfl)
theorem zr_296 : Zer Try.prog 296 [.int .i64 (0)] := Zer.of (by kernel_rfl)
theorem el_296 : Elm Try.prog 296 (.int .i64 (0)) 1 8 := Elm.of (by kernel_rfl) rfl (by decide)
theorem is_306 : (Try.prog.underlying 306).isSome = true := by rw [Try.underlying306]; rfl
theorem sz_306 : Siz Try.prog 306 4 := Siz.of (by kernel_rfl)
theorem zr_306 : Zer Try.prog 306 [.bool false, .int .u8 (0), .bool false, .slice none 0 0] := Zer.of (by kernel_rfl)
theorem el_306 : Elm Try.prog 306 (.agg #[.bool false, .int .u8 (0), .bool false, .slice none 0 0]) 4 32 := Elm.of (by kernel_rfl) rfl (by decide)
theorem bp_306 {fs : Array Field} (h : Try.prog.underlying 306 = some (.struct fs)) : Plc Try.prog fs [(0, 1), (1, 1), (2, 1), (3, 1)] := by
  have e := h.symm.trans Try.underlying306
  injection e with e
  injection e with e
  subst e
  unfold Plc
  intro w
  kernel_rfl
theorem is_307 : (Try.prog.underlying 307).isSome = true := by rw [Try.underlying307]; rfl
theorem sz_307 : Siz Try.prog 307 4 := Siz.of (by kernel_rfl)
theorem zr_307 : Zer Try.prog 307 [.bool false, .int .u8 (0), .bool false, .slice none 0 0] := Zer.of (by kernel_rfl)
theorem el_307 : Elm Try.prog 307 (.agg #[.bool false, .int .u8 (0), .bool false, .slice none 0 0]) 4 32 := Elm.of (by kernel_rfl) rfl (by decide)
theorem bp_307 {fs : Array Field} (h : Try.prog.underlying 307 = some (.struct fs)) : Plc Try.prog fs [(0, 1), (1, 1), (2, 1), (3, 1)] := by
  have e := h.symm.trans Try.underlying307
  injection e with e
  injection e with e
  subst e
  unfold Plc
  intro w
  kernel_rfl
theorem sc_329 : Scal Try.prog 329 := Scal.of Try.underlying329 rfl
theorem is_329 : (Try.prog.underlying 329).isSome = true := by rw [Try.underlying329]; rfl
theorem sz_329 : Siz Try.prog 329 1 := Siz.of (by kernel_rfl)
theorem zr_329 : Zer Try.prog 329 [.int .u64 (0)] := Zer.of (by kernel_rfl)
theorem el_329 : Elm Try.prog 329 (.int .u64 (0)) 1 8 := Elm.of (by kernel_rfl) rfl (by decide)
theorem sc_333 : Scal Try.prog 333 := Scal.of Try.underlying333 rfl
theorem is_333 : (Try.prog.underlying 333).isSome = true := by rw [Try.underlying333]; rfl
theorem sz_333 : Siz Try.prog 333 1 := Siz.of (by kernel_rfl)
theorem zr_333 : Zer Try.prog 333 [.pointer none] := Zer.of (by kernel_rfl)
theorem el_333 : Elm Try.prog 333 (.pointer none) 1 8 := Elm.of (by kernel_rfl) rfl (by decide)
theorem sc_346 : Scal Try.prog 346 := Scal.of Try.underlying346 rfl
theorem is_346 : (Try.prog.underlying 346).isSome = true := by rw [Try.underlying346]; rfl
theorem sz_346 : Siz Try.prog 346 1 := Siz.of (by kernel_rfl)
theorem zr_346 : Zer Try.prog 346 [.pointer none] := Zer.of (by kernel_rfl)
theorem el_346 : Elm Try.prog 346 (.pointer none) 1 8 := Elm.of (by kernel_rfl) rfl (by decide)
theorem is_356 : (Try.prog.underlying 356).isSome = true := by rw [Try.underlying356]; rfl
theorem sz_356 : Siz Try.prog 356 4 := Siz.of (by kernel_rfl)
theorem zr_356 : Zer Try.prog 356 [.pointer none, .pointer none, .pointer none, .string ⟨#[]⟩] := Zer.of (by kernel_rfl)
theorem el_356 : Elm Try.prog 356 (.agg #[.pointer none, .pointer none, .pointer none, .string ⟨#[]⟩]) 4 40 := Elm.of (by kernel_rfl) rfl (by decide)
theorem bp_356 {fs : Array Field} (h : Try.prog.underlying 356 = some (.struct fs)) : Plc Try.prog fs [(0, 1), (1, 1), (2, 1), (3, 1)] := by
  have e := h.symm.trans Try.underlying356
  injection e with e
  injection e with e
  subst e
  unfold Plc
  intro w
  kernel_rfl
theorem is_357 : (Try.prog.underlying 357).isSome = true := by rw [Try.underlying357]; rfl
theorem sz_357 : Siz Try.prog 357 4 := Siz.of (by kernel_rfl)
theorem zr_357 : Zer Try.prog 357 [.pointer none, .pointer none, .pointer none, .string ⟨#[]⟩] := Zer.of (by kernel_rfl)
theorem el_357 : Elm Try.prog 357 (.agg #[.pointer none, .pointer none, .pointer none, .string ⟨#[]⟩]) 4 40 := Elm.of (by kernel_rfl) rfl (by decide)
theorem bp_357 {fs : Array Field} (h : Try.prog.underlying 357 = some (.struct fs)) : Plc Try.prog fs [(0, 1), (1, 1), (2, 1), (3, 1)] := by
  have e := h.symm.trans Try.underlying357
  injection e with e
  injection e with e
  subst e
  unfold Plc
  intro w
  kernel_rfl
theorem is_358 : (Try.prog.underlying 358).isSome = true := by rw [Try.underlying358]; rfl
theorem is_359 : (Try.prog.underlying 359).isSome = true := by rw [Try.underlying359]; rfl
theorem is_360 : (Try.prog.underlying 360).isSome = true := by rw [Try.underlying360]; rfl
theorem sc_361 : Scal Try.prog 361 := Scal.of Try.underlying361 rfl
theorem is_361 : (Try.prog.underlying 361).isSome = true := by rw [Try.underlying361]; rfl
theorem sz_361 : Siz Try.prog 361 1 := Siz.of (by kernel_rfl)
theorem zr_361 : Zer Try.prog 361 [.int .u8 (0)] := Zer.of (by kernel_rfl)
theorem el_361 : Elm Try.prog 361 (.int .u8 (0)) 1 1 := Elm.of (by kernel_rfl) rfl (by decide)
theorem sc_362 : Scal Try.prog 362 := Scal.of Try.underlying362 rfl
theorem is_362 : (Try.prog.underlying 362).isSome = true := by rw [Try.underlying362]; rfl
theorem sz_362 : Siz Try.prog 362 1 := Siz.of (by kernel_rfl)
theorem zr_362 : Zer Try.prog 362 [.int .u8 (0)] := Zer.of (by kernel_rfl)
theorem el_362 : Elm Try.prog 362 (.int .u8 (0)) 1 1 := Elm.of (by kernel_rfl) rfl (by decide)
theorem sc_364 : Scal Try.prog 364 := Scal.of Try.underlying364 rfl
theorem is_364 : (Try.prog.underlying 364).isSome = true := by rw [Try.underlying364]; rfl
theorem sz_364 : Siz Try.prog 364 1 := Siz.of (by kernel_rfl)
theorem zr_364 : Zer Try.prog 364 [.pointer none] := Zer.of (by kernel_rfl)
theorem el_364 : Elm Try.prog 364 (.pointer none) 1 8 := Elm.of (by kernel_rfl) rfl (by decide)
theorem sc_365 : Scal Try.prog 365 := Scal.of Try.underlying365 rfl
theorem is_365 : (Try.prog.underlying 365).isSome = true := by rw [Try.underlying365]; rfl
theorem sz_365 : Siz Try.prog 365 1 := Siz.of (by kernel_rfl)
theorem zr_365 : Zer Try.prog 365 [.int .i32 (0)] := Zer.of (by kernel_rfl)
theorem el_365 : Elm Try.prog 365 (.int .i32 (0)) 1 4 := Elm.of (by kernel_rfl) rfl (by decide)
theorem sc_366 : Scal Try.prog 366 := Scal.of Try.underlying366 rfl
theorem is_366 : (Try.prog.underlying 366).isSome = true := by rw [Try.underlying366]; rfl
theorem sz_366 : Siz Try.prog 366 1 := Siz.of (by kernel_rfl)
theorem zr_366 : Zer Try.prog 366 [.int .i32 (0)] := Zer.of (by kernel_rfl)
theorem el_366 : Elm Try.prog 366 (.int .i32 (0)) 1 4 := Elm.of (by kernel_rfl) rfl (by decide)
theorem is_367 : (Try.prog.underlying 367).isSome = true := by rw [Try.underlying367]; rfl
theorem sz_367 : Siz Try.prog 367 11 := Siz.of (by kernel_rfl)
theorem zr_367 : Zer Try.prog 367 [.int .u64 (0), .int .u64 (0), .int .u32 (0), .int .u8 (0), .int .u8 (0), .int .u8 (0), .int .u8 (0), .nilFunc, .pointer none, .int .i32 (0), .int .i32 (0)] := Zer.of (by kernel_rfl)
theorem el_367 : Elm Try.prog 367 (.agg #[.int .u64 (0), .int .u64 (0), .int .u32 (0), .int .u8 (0), .int .u8 (0), .int .u8 (0), .int .u8 (0), .nilFunc, .pointer none, .int .i32 (0), .int .i32 (0)]) 11 48 := Elm.of (by kernel_rfl) rfl (by decide)
theorem bp_367 {fs : Array Field} (h : Try.prog.underlying 367 = some (.struct fs)) : Plc Try.prog fs [(0, 1), (1, 1), (2, 1), (3, 1), (4, 1), (5, 1), (6, 1), (7, 1), (8, 1), (9, 1), (10, 1)] := by
  have e := h.symm.trans Try.underlying367
  injection e with e
  injection e with e
  subst e
  unfold Plc
  intro w
  kernel_rfl
theorem is_368 : (Try.prog.underlying 368).isSome = true := by rw [Try.underlying368]; rfl
theorem sz_368 : Siz Try.prog 368 11 := Siz.of (by kernel_rfl)
theorem zr_368 : Zer Try.prog 368 [.int .u64 (0), .int .u64 (0), .int .u32 (0), .int .u8 (0), .int .u8 (0), .int .u8 (0), .int .u8 (0), .nilFunc, .pointer none, .int .i32 (0), .int .i32 (0)] := Zer.of (by kernel_rfl)
theorem el_368 : Elm Try.prog 368 (.agg #[.int .u64 (0), .int .u64 (0), .int .u32 (0), .int .u8 (0), .int .u8 (0), .int .u8 (0), .int .u8 (0), .nilFunc, .pointer none, .int .i32 (0), .int .i32 (0)]) 11 48 := Elm.of (by kernel_rfl) rfl (by decide)
theorem bp_368 {fs : Array Field} (h : Try.prog.underlying 368 = some (.struct fs)) : Plc Try.prog fs [(0, 1), (1, 1), (2, 1), (3, 1), (4, 1), (5, 1), (6, 1), (7, 1), (8, 1), (9, 1), (10, 1)] := by
  have e := h.symm.trans Try.underlying368
  injection e with e
  injection e with e
  subst e
  unfold Plc
  intro w
  kernel_rfl
theorem sc_371 : Scal Try.prog 371 := Scal.of Try.underlying371 rfl
theorem is_371 : (Try.prog.underlying 371).isSome = true := by rw [Try.underlying371]; rfl
theorem sz_371 : Siz Try.prog 371 1 := Siz.of (by kernel_rfl)
theorem zr_371 : Zer Try.prog 371 [.pointer none] := Zer.of (by kernel_rfl)
theorem el_371 : Elm Try.prog 371 (.pointer none) 1 8 := Elm.of (by kernel_rfl) rfl (by decide)
theorem en_2 : Ent Try.prog 2 := by unfold Ent; kernel_rfl
theorem en_3 : Ent Try.prog 3 := by unfold Ent; kernel_rfl
theorem en_4 : Ent Try.prog 4 := by unfold Ent; kernel_rfl
theorem en_5 : Ent Try.prog 5 := by unfold Ent; kernel_rfl
theorem en_6 : Ent Try.prog 6 := by unfold Ent; kernel_rfl
theorem en_7 : Ent Try.prog 7 := by unfold Ent; kernel_rfl
theorem en_8 : Ent Try.prog 8 := by unfold Ent; kernel_rfl
theorem en_9 : Ent Try.prog 9 := by unfold Ent; kernel_rfl
theorem en_10 : Ent Try.prog 10 := by unfold Ent; kernel_rfl
theorem en_11 : Ent Try.prog 11 := by unfold Ent; kernel_rfl
theorem en_12 : Ent Try.prog 12 := by unfold Ent; kernel_rfl
theorem en_13 : Ent Try.prog 13 := by unfold Ent; kernel_rfl
theorem en_14 : Ent Try.prog 14 := by unfold Ent; kernel_rfl
theorem en_15 : Ent Try.prog 15 := by unfold Ent; kernel_rfl
theorem en_16 : Ent Try.prog 16 := by unfold Ent; kernel_rfl
theorem en_17 : Ent Try.prog 17 := by unfold Ent; kernel_rfl
theorem en_18 : Ent Try.prog 18 := by unfold Ent; kernel_rfl
theorem en_19 : Ent Try.prog 19 := by unfold Ent; kernel_rfl
theorem en_20 : Ent Try.prog 20 := by unfold Ent; kernel_rfl
theorem en_21 : Ent Try.prog 21 := by unfold Ent; kernel_rfl
theorem en_22 : Ent Try.prog 22 := by unfold Ent; kernel_rfl
theorem en_23 : Ent Try.prog 23 := by unfold Ent; kernel_rfl
theorem en_24 : Ent Try.prog 24 := by unfold Ent; kernel_rfl
theorem en_25 : Ent Try.prog 25 := by unfold Ent; kernel_rfl
theorem en_26 : Ent Try.prog 26 := by unfold Ent; kernel_rfl
theorem en_27 : Ent Try.prog 27 := by unfold Ent; kernel_rfl
theorem en_28 : Ent Try.prog 28 := by unfold Ent; kernel_rfl
theorem en_29 : Ent Try.prog 29 := by unfold Ent; kernel_rfl
theorem en_30 : Ent Try.prog 30 := by unfold Ent; kernel_rfl
theorem en_31 : Ent Try.prog 31 := by unfold Ent; kernel_rfl
theorem en_32 : Ent Try.prog 32 := by unfold Ent; kernel_rfl
theorem en_33 : Ent Try.prog 33 := by unfold Ent; kernel_rfl
theorem en_34 : Ent Try.prog 34 := by unfold Ent; kernel_rfl
theorem en_35 : Ent Try.prog 35 := by unfold Ent; kernel_rfl
theorem en_36 : Ent Try.prog 36 := by unfold Ent; kernel_rfl
theorem en_37 : Ent Try.prog 37 := by unfold Ent; kernel_rfl
theorem en_38 : Ent Try.prog 38 := by unfold Ent; kernel_rfl
theorem en_39 : Ent Try.prog 39 := by unfold Ent; kernel_rfl
theorem en_40 : Ent Try.prog 40 := by unfold Ent; kernel_rfl
theorem en_41 : Ent Try.prog 41 := by unfold Ent; kernel_rfl
theorem en_42 : Ent Try.prog 42 := by unfold Ent; kernel_rfl
theorem en_43 : Ent Try.prog 43 := by unfold Ent; kernel_rfl
theorem en_44 : Ent Try.prog 44 := by unfold Ent; kernel_rfl
theorem en_45 : Ent Try.prog 45 := by unfold Ent; kernel_rfl
theorem en_46 : Ent Try.prog 46 := by unfold Ent; kernel_rfl
theorem en_47 : Ent Try.prog 47 := by unfold Ent; kernel_rfl
theorem en_48 : Ent Try.prog 48 := by unfold Ent; kernel_rfl
theorem en_49 : Ent Try.prog 49 := by unfold Ent; kernel_rfl
theorem en_50 : Ent Try.prog 50 := by unfold Ent; kernel_rfl
theorem en_51 : Ent Try.prog 51 := by unfold Ent; kernel_rfl
theorem en_52 : Ent Try.prog 52 := by unfold Ent; kernel_rfl
theorem en_53 : Ent Try.prog 53 := by unfold Ent; kernel_rfl
theorem en_54 : Ent Try.prog 54 := by unfold Ent; kernel_rfl
theorem en_55 : Ent Try.prog 55 := by unfold Ent; kernel_rfl
theorem en_56 : Ent Try.prog 56 := by unfold Ent; kernel_rfl
theorem en_57 : Ent Try.prog 57 := by unfold Ent; kernel_rfl
theorem en_58 : Ent Try.prog 58 := by unfold Ent; kernel_rfl
theorem en_59 : Ent Try.prog 59 := by unfold Ent; kernel_rfl
theorem en_60 : Ent Try.prog 60 := by unfold Ent; kernel_rfl
theorem en_61 : Ent Try.prog 61 := by unfold Ent; kernel_rfl
theorem en_62 : Ent Try.prog 62 := by unfold Ent; kernel_rfl
theorem en_63 : Ent Try.prog 63 := by unfold Ent; kernel_rfl
theorem en_64 : Ent Try.prog 64 := by unfold Ent; kernel_rfl
theorem en_65 : Ent Try.prog 65 := by unfold Ent; kernel_rfl
theorem en_66 : Ent Try.prog 66 := by unfold Ent; kernel_rfl
theorem en_67 : Ent Try.prog 67 := by unfold Ent; kernel_rfl
theorem en_68 : Ent Try.prog 68 := by unfold Ent; kernel_rfl
theorem en_69 : Ent Try.prog 69 := by unfold Ent; kernel_rfl
theorem en_70 : Ent Try.prog 70 := by unfold Ent; kernel_rfl
theorem en_71 : Ent Try.prog 71 := by unfold Ent; kernel_rfl
theorem en_72 : Ent Try.prog 72 := by unfold Ent; kernel_rfl
theorem en_73 : Ent Try.prog 73 := by unfold Ent; kernel_rfl
theorem en_74 : Ent Try.prog 74 := by unfold Ent; kernel_rfl
theorem en_75 : Ent Try.prog 75 := by unfold Ent; kernel_rfl
theorem en_76 : Ent Try.prog 76 := by unfold Ent; kernel_rfl
theorem en_77 : Ent Try.prog 77 := by unfold Ent; kernel_rfl
theorem en_78 : Ent Try.prog 78 := by unfold Ent; kernel_rfl
theorem en_79 : Ent Try.prog 79 := by unfold Ent; kernel_rfl
theorem en_80 : Ent Try.prog 80 := by unfold Ent; kernel_rfl
theorem en_81 : Ent Try.prog 81 := by unfold Ent; kernel_rfl
theorem en_82 : Ent Try.prog 82 := by unfold Ent; kernel_rfl
theorem en_83 : Ent Try.prog 83 := by unfold Ent; kernel_rfl
theorem en_84 : Ent Try.prog 84 := by unfold Ent; kernel_rfl
theorem en_85 : Ent Try.prog 85 := by unfold Ent; kernel_rfl
theorem en_86 : Ent Try.prog 86 := by unfold Ent; kernel_rfl
theorem en_87 : Ent Try.prog 87 := by unfold Ent; kernel_rfl
theorem en_88 : Ent Try.prog 88 := by unfold Ent; kernel_rfl
theorem en_89 : Ent Try.prog 89 := by unfold Ent; kernel_rfl
theorem en_90 : Ent Try.prog 90 := by unfold Ent; kernel_rfl
theorem en_91 : Ent Try.prog 91 := by unfold Ent; kernel_rfl
theorem en_92 : Ent Try.prog 92 := by unfold Ent; kernel_rfl
theorem en_93 : Ent Try.prog 93 := by unfold Ent; kernel_rfl
theorem en_94 : Ent Try.prog 94 := by unfold Ent; kernel_rfl
theorem en_95 : Ent Try.prog 95 := by unfold Ent; kernel_rfl
theorem en_96 : Ent Try.prog 96 := by unfold Ent; kernel_rfl
theorem en_97 : Ent Try.prog 97 := by unfold Ent; kernel_rfl
theorem en_98 : Ent Try.prog 98 := by unfold Ent; kernel_rfl
theorem en_99 : Ent Try.prog 99 := by unfold Ent; kernel_rfl
theorem en_100 : Ent Try.prog 100 := by unfold Ent; kernel_rfl
theorem en_101 : Ent Try.prog 101 := by unfold Ent; kernel_rfl
theorem en_102 : Ent Try.prog 102 := by unfold Ent; kernel_rfl
theorem en_103 : Ent Try.prog 103 := by unfold Ent; kernel_rfl
theorem en_104 : Ent Try.prog 104 := by unfold Ent; kernel_rfl
theorem en_105 : Ent Try.prog 105 := by unfold Ent; kernel_rfl
theorem en_106 : Ent Try.prog 106 := by unfold Ent; kernel_rfl
theorem en_107 : Ent Try.prog 107 := by unfold Ent; kernel_rfl
theorem en_108 : Ent Try.prog 108 := by unfold Ent; kernel_rfl
theorem en_109 : Ent Try.prog 109 := by unfold Ent; kernel_rfl
theorem en_110 : Ent Try.prog 110 := by unfold Ent; kernel_rfl
theorem en_111 : Ent Try.prog 111 := by unfold Ent; kernel_rfl
theorem en_112 : Ent Try.prog 112 := by unfold Ent; kernel_rfl
theorem en_113 : Ent Try.prog 113 := by unfold Ent; kernel_rfl
theorem en_114 : Ent Try.prog 114 := by unfold Ent; kernel_rfl
theorem en_115 : Ent Try.prog 115 := by unfold Ent; kernel_rfl
theorem en_116 : Ent Try.prog 116 := by unfold Ent; kernel_rfl
theorem en_117 : Ent Try.prog 117 := by unfold Ent; kernel_rfl
theorem en_118 : Ent Try.prog 118 := by unfold Ent; kernel_rfl
theorem en_119 : Ent Try.prog 119 := by unfold Ent; kernel_rfl
theorem en_120 : Ent Try.prog 120 := by unfold Ent; kernel_rfl
theorem en_121 : Ent Try.prog 121 := by unfold Ent; kernel_rfl
theorem en_122 : Ent Try.prog 122 := by unfold Ent; kernel_rfl
theorem en_123 : Ent Try.prog 123 := by unfold Ent; kernel_rfl
theorem en_124 : Ent Try.prog 124 := by unfold Ent; kernel_rfl
theorem en_125 : Ent Try.prog 125 := by unfold Ent; kernel_rfl
theorem en_126 : Ent Try.prog 126 := by unfold Ent; kernel_rfl
theorem en_127 : Ent Try.prog 127 := by unfold Ent; kernel_rfl
theorem en_128 : Ent Try.prog 128 := by unfold Ent; kernel_rfl
theorem en_129 : Ent Try.prog 129 := by unfold Ent; kernel_rfl
theorem en_130 : Ent Try.prog 130 := by unfold Ent; kernel_rfl
theorem en_131 : Ent Try.prog 131 := by unfold Ent; kernel_rfl
theorem en_132 : Ent Try.prog 132 := by unfold Ent; kernel_rfl
theorem en_133 : Ent Try.prog 133 := by unfold Ent; kernel_rfl
theorem en_134 : Ent Try.prog 134 := by unfold Ent; kernel_rfl
theorem en_135 : Ent Try.prog 135 := by unfold Ent; kernel_rfl
theorem en_136 : Ent Try.prog 136 := by unfold Ent; kernel_rfl
theorem en_137 : Ent Try.prog 137 := by unfold Ent; kernel_rfl
theorem en_138 : Ent Try.prog 138 := by unfold Ent; kernel_rfl
theorem en_139 : Ent Try.prog 139 := by unfold Ent; kernel_rfl
theorem en_140 : Ent Try.prog 140 := by unfold Ent; kernel_rfl
theorem en_141 : Ent Try.prog 141 := by unfold Ent; kernel_rfl
theorem en_142 : Ent Try.prog 142 := by unfold Ent; kernel_rfl
theorem en_143 : Ent Try.prog 143 := by unfold Ent; kernel_rfl
theorem en_144 : Ent Try.prog 144 := by unfold Ent; kernel_rfl
theorem en_145 : Ent Try.prog 145 := by unfold Ent; kernel_rfl
theorem en_146 : Ent Try.prog 146 := by unfold Ent; kernel_rfl
theorem en_147 : Ent Try.prog 147 := by unfold Ent; kernel_rfl
theorem en_148 : Ent Try.prog 148 := by unfold Ent; kernel_rfl
theorem en_149 : Ent Try.prog 149 := by unfold Ent; kernel_rfl
theorem en_150 : Ent Try.prog 150 := by unfold Ent; kernel_rfl
theorem en_151 : Ent Try.prog 151 := by unfold Ent; kernel_rfl
theorem en_152 : Ent Try.prog 152 := by unfold Ent; kernel_rfl
theorem en_153 : Ent Try.prog 153 := by unfold Ent; kernel_rfl
theorem en_154 : Ent Try.prog 154 := by unfold Ent; kernel_rfl
theorem en_155 : Ent Try.prog 155 := by unfold Ent; kernel_rfl
theorem en_156 : Ent Try.prog 156 := by unfold Ent; kernel_rfl
theorem en_157 : Ent Try.prog 157 := by unfold Ent; kernel_rfl
theorem en_158 : Ent Try.prog 158 := by unfold Ent; kernel_rfl
theorem en_159 : Ent Try.prog 159 := by unfold Ent; kernel_rfl
theorem en_160 : Ent Try.prog 160 := by unfold Ent; kernel_rfl
theorem en_161 : Ent Try.prog 161 := by unfold Ent; kernel_rfl
theorem en_162 : Ent Try.prog 162 := by unfold Ent; kernel_rfl
theorem en_163 : Ent Try.prog 163 := by unfold Ent; kernel_rfl
theorem en_164 : Ent Try.prog 164 := by unfold Ent; kernel_rfl
theorem en_165 : Ent Try.prog 165 := by unfold Ent; kernel_rfl
theorem en_166 : Ent Try.prog 166 := by unfold Ent; kernel_rfl
theorem en_167 : Ent Try.prog 167 := by unfold Ent; kernel_rfl
theorem en_168 : Ent Try.prog 168 := by unfold Ent; kernel_rfl
theorem en_169 : Ent Try.prog 169 := by unfold Ent; kernel_rfl
theorem en_170 : Ent Try.prog 170 := by unfold Ent; kernel_rfl
theorem en_171 : Ent Try.prog 171 := by unfold Ent; kernel_rfl
theorem en_172 : Ent Try.prog 172 := by unfold Ent; kernel_rfl
theorem en_173 : Ent Try.prog 173 := by unfold Ent; kernel_rfl
theorem en_174 : Ent Try.prog 174 := by unfold Ent; kernel_rfl
theorem en_175 : Ent Try.prog 175 := by unfold Ent; kernel_rfl
theorem en_176 : Ent Try.prog 176 := by unfold Ent; kernel_rfl
theorem en_177 : Ent Try.prog 177 := by unfold Ent; kernel_rfl
theorem en_178 : Ent Try.prog 178 := by unfold Ent; kernel_rfl
theorem en_179 : Ent Try.prog 179 := by unfold Ent; kernel_rfl
theorem en_180 : Ent Try.prog 180 := by unfold Ent; kernel_rfl
theorem en_181 : Ent Try.prog 181 := by unfold Ent; kernel_rfl
theorem en_182 : Ent Try.prog 182 := by unfold Ent; kernel_rfl
theorem en_183 : Ent Try.prog 183 := by unfold Ent; kernel_rfl
theorem en_184 : Ent Try.prog 184 := by unfold Ent; kernel_rfl
theorem en_185 : Ent Try.prog 185 := by unfold Ent; kernel_rfl
theorem en_186 : Ent Try.prog 186 := by unfold Ent; kernel_rfl
theorem en_187 : Ent Try.prog 187 := by unfold Ent; kernel_rfl
theorem en_188 : Ent Try.prog 188 := by unfold Ent; kernel_rfl
theorem en_189 : Ent Try.prog 189 := by unfold Ent; kernel_rfl
theorem en_190 : Ent Try.prog 190 := by unfold Ent; kernel_rfl
theorem en_191 : Ent Try.prog 191 := by unfold Ent; kernel_rfl
theorem en_192 : Ent Try.prog 192 := by unfold Ent; kernel_rfl
theorem en_193 : Ent Try.prog 193 := by unfold Ent; kernel_rfl
theorem en_194 : Ent Try.prog 194 := by unfold Ent; kernel_rfl
theorem en_195 : Ent Try.prog 195 := by unfold Ent; kernel_rfl
theorem en_196 : Ent Try.prog 196 := by unfold Ent; kernel_rfl
theorem en_197 : Ent Try.prog 197 := by unfold Ent; kernel_rfl
theorem en_198 : Ent Try.prog 198 := by unfold Ent; kernel_rfl
theorem en_199 : Ent Try.prog 199 := by unfold Ent; kernel_rfl
theorem en_200 : Ent Try.prog 200 := by unfold Ent; kernel_rfl
theorem en_201 : Ent Try.prog 201 := by unfold Ent; kernel_rfl
theorem en_202 : Ent Try.prog 202 := by unfold Ent; kernel_rfl
theorem en_203 : Ent Try.prog 203 := by unfold Ent; kernel_rfl
theorem en_204 : Ent Try.prog 204 := by unfold Ent; kernel_rfl
theorem en_205 : Ent Try.prog 205 := by unfold Ent; kernel_rfl
theorem en_207 : Ent Try.prog 207 := by unfold Ent; kernel_rfl
theorem en_208 : Ent Try.prog 208 := by unfold Ent; kernel_rfl
theorem en_209 : Ent Try.prog 209 := by unfold Ent; kernel_rfl
theorem en_210 : Ent Try.prog 210 := by unfold Ent; kernel_rfl
theorem en_211 : Ent Try.prog 211 := by unfold Ent; kernel_rfl
theorem en_212 : Ent Try.prog 212 := by unfold Ent; kernel_rfl
theorem en_213 : Ent Try.prog 213 := by unfold Ent; kernel_rfl
theorem en_214 : Ent Try.prog 214 := by unfold Ent; kernel_rfl
theorem en_215 : Ent Try.prog 215 := by unfold Ent; kernel_rfl
theorem en_216 : Ent Try.prog 216 := by unfold Ent; kernel_rfl
theorem en_217 : Ent Try.prog 217 := by unfold Ent; kernel_rfl
theorem en_218 : Ent Try.prog 218 := by unfold Ent; kernel_rfl
theorem en_219 : Ent Try.prog 219 := by unfold Ent; kernel_rfl
theorem en_220 : Ent Try.prog 220 := by unfold Ent; kernel_rfl
theorem en_221 : Ent Try.prog 221 := by unfold Ent; kernel_rfl
theorem en_222 : Ent Try.prog 222 := by unfold Ent; kernel_rfl
theorem en_223 : Ent Try.prog 223 := by unfold Ent; kernel_rfl
theorem en_224 : Ent Try.prog 224 := by unfold Ent; kernel_rfl
theorem en_225 : Ent Try.prog 225 := by unfold Ent; kernel_rfl
theorem en_226 : Ent Try.prog 226 := by unfold Ent; kernel_rfl
theorem en_227 : Ent Try.prog 227 := by unfold Ent; kernel_rfl
theorem en_228 : Ent Try.prog 228 := by unfold Ent; kernel_rfl
theorem en_229 : Ent Try.prog 229 := by unfold Ent; kernel_rfl
theorem en_230 : Ent Try.prog 230 := by unfold Ent; kernel_rfl
theorem en_231 : Ent Try.prog 231 := by unfold Ent; kernel_rfl
theorem en_232 : Ent Try.prog 232 := by unfold Ent; kernel_rfl
theorem en_233 : Ent Try.prog 233 := by unfold Ent; kernel_rfl
theorem en_234 : Ent Try.prog 234 := by unfold Ent; kernel_rfl
theorem en_235 : Ent Try.prog 235 := by unfold Ent; kernel_rfl
theorem en_236 : Ent Try.prog 236 := by unfold Ent; kernel_rfl
theorem en_237 : Ent Try.prog 237 := by unfold Ent; kernel_rfl
theorem en_238 : Ent Try.prog 238 := by unfold Ent; kernel_rfl
theorem en_239 : Ent Try.prog 239 := by unfold Ent; kernel_rfl
theorem en_240 : Ent Try.prog 240 := by unfold Ent; kernel_rfl
theorem en_241 : Ent Try.prog 241 := by unfold Ent; kernel_rfl
theorem en_242 : Ent Try.prog 242 := by unfold Ent; kernel_rfl
theorem en_243 : Ent Try.prog 243 := by unfold Ent; kernel_rfl
theorem en_244 : Ent Try.prog 244 := by unfold Ent; kernel_rfl
theorem en_245 : Ent Try.prog 245 := by unfold Ent; kernel_rfl
theorem en_246 : Ent Try.prog 246 := by unfold Ent; kernel_rfl
theorem en_247 : Ent Try.prog 247 := by unfold Ent; kernel_rfl
theorem en_248 : Ent Try.prog 248 := by unfold Ent; kernel_rfl
theorem en_249 : Ent Try.prog 249 := by unfold Ent; kernel_rfl
theorem en_250 : Ent Try.prog 250 := by unfold Ent; kernel_rfl
theorem en_251 : Ent Try.prog 251 := by unfold Ent; kernel_rfl
theorem en_252 : Ent Try.prog 252 := by unfold Ent; kernel_rfl
theorem en_253 : Ent Try.prog 253 := by unfold Ent; kernel_rfl
theorem en_254 : Ent Try.prog 254 := by unfold Ent; kernel_rfl
theorem en_255 : Ent Try.prog 255 := by unfold Ent; kernel_rfl
theorem en_256 : Ent Try.prog 256 := by unfold Ent; kernel_rfl
theorem en_257 : Ent Try.prog 257 := by unfold Ent; kernel_rfl
theorem en_258 : Ent Try.prog 258 := by unfold Ent; kernel_rfl
theorem en_259 : Ent Try.prog 259 := by unfold Ent; kernel_rfl
theorem en_260 : Ent Try.prog 260 := by unfold Ent; kernel_rfl
theorem en_261 : Ent Try.prog 261 := by unfold Ent; kernel_rfl
theorem en_262 : Ent Try.prog 262 := by unfold Ent; kernel_rfl
theorem en_263 : Ent Try.prog 263 := by unfold Ent; kernel_rfl
theorem en_264 : Ent Try.prog 264 := by unfold Ent; kernel_rfl
theorem en_265 : Ent Try.prog 265 := by unfold Ent; kernel_rfl
theorem en_266 : Ent Try.prog 266 := by unfold Ent; kernel_rfl
theorem en_267 : Ent Try.prog 267 := by unfold Ent; kernel_rfl
theorem en_268 : Ent Try.prog 268 := by unfold Ent; kernel_rfl
theorem en_269 : Ent Try.prog 269 := by unfold Ent; kernel_rfl
theorem en_270 : Ent Try.prog 270 := by unfold Ent; kernel_rfl
theorem en_271 : Ent Try.prog 271 := by unfold Ent; kernel_rfl
theorem en_272 : Ent Try.prog 272 := by unfold Ent; kernel_rfl
theorem en_273 : Ent Try.prog 273 := by unfold Ent; kernel_rfl
theorem en_274 : Ent Try.prog 274 := by unfold Ent; kernel_rfl
theorem en_275 : Ent Try.prog 275 := by unfold Ent; kernel_rfl
theorem en_276 : Ent Try.prog 276 := by unfold Ent; kernel_rfl
theorem en_277 : Ent Try.prog 277 := by unfold Ent; kernel_rfl
theorem en_278 : Ent Try.prog 278 := by unfold Ent; kernel_rfl
theorem en_279 : Ent Try.prog 279 := by unfold Ent; kernel_rfl
theorem en_280 : Ent Try.prog 280 := by unfold Ent; kernel_rfl
theorem en_281 : Ent Try.prog 281 := by unfold Ent; kernel_rfl
theorem en_282 : Ent Try.prog 282 := by unfold Ent; kernel_rfl
theorem en_283 : Ent Try.prog 283 := by unfold Ent; kernel_rfl
theorem en_284 : Ent Try.prog 284 := by unfold Ent; kernel_rfl
theorem en_285 : Ent Try.prog 285 := by unfold Ent; kernel_rfl
theorem en_286 : Ent Try.prog 286 := by unfold Ent; kernel_rfl
theorem en_287 : Ent Try.prog 287 := by unfold Ent; kernel_rfl
theorem en_288 : Ent Try.prog 288 := by unfold Ent; kernel_rfl
theorem en_289 : Ent Try.prog 289 := by unfold Ent; kernel_rfl
theorem en_290 : Ent Try.prog 290 := by unfold Ent; kernel_rfl
theorem en_291 : Ent Try.prog 291 := by unfold Ent; kernel_rfl
theorem en_292 : Ent Try.prog 292 := by unfold Ent; kernel_rfl
theorem en_293 : Ent Try.prog 293 := by unfold Ent; kernel_rfl
theorem en_294 : Ent Try.prog 294 := by unfold Ent; kernel_rfl
theorem en_295 : Ent Try.prog 295 := by unfold Ent; kernel_rfl
theorem en_296 : Ent Try.prog 296 := by unfold Ent; kernel_rfl
theorem en_297 : Ent Try.prog 297 := by unfold Ent; kernel_rfl
theorem en_298 : Ent Try.prog 298 := by unfold Ent; kernel_rfl
theorem en_299 : Ent Try.prog 299 := by unfold Ent; kernel_rfl
theorem en_300 : Ent Try.prog 300 := by unfold Ent; kernel_rfl
theorem en_301 : Ent Try.prog 301 := by unfold Ent; kernel_rfl
theorem en_302 : Ent Try.prog 302 := by unfold Ent; kernel_rfl
theorem en_303 : Ent Try.prog 303 := by unfold Ent; kernel_rfl
theorem en_304 : Ent Try.prog 304 := by unfold Ent; kernel_rfl
theorem en_305 : Ent Try.prog 305 := by unfold Ent; kernel_rfl
theorem en_306 : Ent Try.prog 306 := by unfold Ent; kernel_rfl
theorem en_307 : Ent Try.prog 307 := by unfold Ent; kernel_rfl
theorem en_308 : Ent Try.prog 308 := by unfold Ent; kernel_rfl
theorem en_325 : Ent Try.prog 325 := by unfold Ent; kernel_rfl
theorem en_326 : Ent Try.prog 326 := by unfold Ent; kernel_rfl
theorem en_327 : Ent Try.prog 327 := by unfold Ent; kernel_rfl
theorem en_328 : Ent Try.prog 328 := by unfold Ent; kernel_rfl
theorem en_331 : Ent Try.prog 331 := by unfold Ent; kernel_rfl
theorem en_332 : Ent Try.prog 332 := by unfold Ent; kernel_rfl
theorem en_333 : Ent Try.prog 333 := by unfold Ent; kernel_rfl
theorem en_334 : Ent Try.prog 334 := by unfold Ent; kernel_rfl
end Go.Proofs.Ytlipeplfjkgamaa.H
