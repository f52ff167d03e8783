/-
  Facts on the types and functions of this seat, for the logic of YtlohbkcedpkjaaaHoa.
-/
import Derived.Test.YtlohbkcedpkjaaaLogic
namespace Go.Proofs.Ytlohbkcedpkjaaa.H
open Go.RowKit Go.Proofs.Ytlohbkcedpkjaaa
theorem mixed : Try.prog.follows .mixedOrders = true := by kernel_rfl
theorem sc_2 : Scal Try.prog 2 := Scal.of Try.underlying2 rfl
theorem is_2 : (Try.prog.underlying 2).isSome = true := by rw [Try.underlying2]; rfl
theorem sz_2 : Siz Try.prog 2 1 := Siz.of (by kernel_rfl)
theorem zr_2 : Zer Try.prog 2 [.int .i64 (0)] := Zer.of (by kernel_rfl)
theorem el_2 : Elm Try.prog 2 (.int .i64 (0)) 1 8 := Elm.of (by kernel_rfl) rfl (by decide)
theorem sc_3 : Scal Try.prog 3 := Scal.of Try.underlying3 rfl
theorem is_3 : (Try.prog.underlying 3).isSome = true := by rw [Try.underlying3]; rfl
theorem sz_3 : Siz Try.prog 3 1 := Siz.of (by kernel_rfl)
theorem zr_3 : Zer Try.prog 3 [.int .i64 (0)] := Zer.of (by kernel_rfl)
theorem el_3 : Elm Try.prog 3 (.int .i64 (0)) 1 8 := Elm.of (by kernel_rfl) rfl (by decide)
theorem sc_4 : Scal Try.prog 4 := Scal.of Try.underlying4 rfl
theorem is_4 : (Try.prog.underlying 4).isSome = true := by rw [Try.underlying4]; rfl
theorem sz_4 : Siz Try.prog 4 1 := Siz.of (by kernel_rfl)
theorem zr_4 : Zer Try.prog 4 [.bool false] := Zer.of (by kernel_rfl)
theorem el_4 : Elm Try.prog 4 (.bool false) 1 1 := Elm.of (by kernel_rfl) rfl (by decide)
theorem sc_5 : Scal Try.prog 5 := Scal.of Try.underlying5 rfl
theorem is_5 : (Try.prog.underlying 5).isSome = true := by rw [Try.underlying5]; rfl
theorem sz_5 : Siz Try.prog 5 1 := Siz.of (by kernel_rfl)
theorem zr_5 : Zer Try.prog 5 [.int .u8 (0)] := Zer.of (by kernel_rfl)
theorem el_5 : Elm Try.prog 5 (.int .u8 (0)) 1 1 := Elm.of (by kernel_rfl) rfl (by decide)
theorem sc_6 : Scal Try.prog 6 := Scal.of Try.underlying6 rfl
theorem is_6 : (Try.prog.underlying 6).isSome = true := by rw [Try.underlying6]; rfl
theorem sz_6 : Siz Try.prog 6 1 := Siz.of (by kernel_rfl)
theorem zr_6 : Zer Try.prog 6 [.int .u8 (0)] := Zer.of (by kernel_rfl)
theorem el_6 : Elm Try.prog 6 (.int .u8 (0)) 1 1 := Elm.of (by kernel_rfl) rfl (by decide)
theorem is_7 : (Try.prog.underlying 7).isSome = true := by rw [Try.underlying7]; rfl
theorem sz_7 : Siz Try.prog 7 4 := Siz.of (by kernel_rfl)
theorem zr_7 : Zer Try.prog 7 [.int .i64 (0), .int .i64 (0), .bool false, .int .u8 (0)] := Zer.of (by kernel_rfl)
theorem el_7 : Elm Try.prog 7 (.agg #[.int .i64 (0), .int .i64 (0), .bool false, .int .u8 (0)]) 4 24 := Elm.of (by kernel_rfl) rfl (by decide)
theorem bp_7 {fs : Array Field} (h : Try.prog.underlying 7 = some (.struct fs)) : Plc Try.prog fs [(0, 1), (1, 1), (2, 1), (3, 1)] := by
  have e := h.symm.trans Try.underlying7
  injection e with e
  injection e with e
  subst e
  unfold Plc
  intro w
  kernel_rfl
theorem is_8 : (Try.prog.underlying 8).isSome = true := by rw [Try.underlying8]; rfl
theorem sz_8 : Siz Try.prog 8 4 := Siz.of (by kernel_rfl)
theorem zr_8 : Zer Try.prog 8 [.int .i64 (0), .int .i64 (0), .bool false, .int .u8 (0)] := Zer.of (by kernel_rfl)
theorem el_8 : Elm Try.prog 8 (.agg #[.int .i64 (0), .int .i64 (0), .bool false, .int .u8 (0)]) 4 24 := Elm.of (by kernel_rfl) rfl (by decide)
theorem bp_8 {fs : Array Field} (h : Try.prog.underlying 8 = some (.struct fs)) : Plc Try.prog fs [(0, 1), (1, 1), (2, 1), (3, 1)] := by
  have e := h.symm.trans Try.underlying8
  injection e with e
  injection e with e
  subst e
  unfold Plc
  intro w
  kernel_rfl
theorem sc_9 : Scal Try.prog 9 := Scal.of Try.underlying9 rfl
theorem is_9 : (Try.prog.underlying 9).isSome = true := by rw [Try.underlying9]; rfl
theorem sz_9 : Siz Try.prog 9 1 := Siz.of (by kernel_rfl)
theorem zr_9 : Zer Try.prog 9 [.string ⟨#[]⟩] := Zer.of (by kernel_rfl)
theorem el_9 : Elm Try.prog 9 (.string ⟨#[]⟩) 1 16 := Elm.of (by kernel_rfl) rfl (by decide)
theorem sc_10 : Scal Try.prog 10 := Scal.of Try.underlying10 rfl
theorem is_10 : (Try.prog.underlying 10).isSome = true := by rw [Try.underlying10]; rfl
theorem sz_10 : Siz Try.prog 10 1 := Siz.of (by kernel_rfl)
theorem zr_10 : Zer Try.prog 10 [.string ⟨#[]⟩] := Zer.of (by kernel_rfl)
theorem el_10 : Elm Try.prog 10 (.string ⟨#[]⟩) 1 16 := Elm.of (by kernel_rfl) rfl (by decide)
theorem sc_11 : Scal Try.prog 11 := Scal.of Try.underlying11 rfl
theorem is_11 : (Try.prog.underlying 11).isSome = true := by rw [Try.underlying11]; rfl
theorem sz_11 : Siz Try.prog 11 1 := Siz.of (by kernel_rfl)
theorem zr_11 : Zer Try.prog 11 [.string ⟨#[]⟩] := Zer.of (by kernel_rfl)
theorem el_11 : Elm Try.prog 11 (.string ⟨#[]⟩) 1 16 := Elm.of (by kernel_rfl) rfl (by decide)
theorem sc_12 : Scal Try.prog 12 := Scal.of Try.underlying12 rfl
theorem is_12 : (Try.prog.underlying 12).isSome = true := by rw [Try.underlying12]; rfl
theorem sz_12 : Siz Try.prog 12 1 := Siz.of (by kernel_rfl)
theorem zr_12 : Zer Try.prog 12 [.int .u64 (0)] := Zer.of (by kernel_rfl)
theorem el_12 : Elm Try.prog 12 (.int .u64 (0)) 1 8 := Elm.of (by kernel_rfl) rfl (by decide)
theorem is_13 : (Try.prog.underlying 13).isSome = true := by rw [Try.underlying13]; rfl
theorem sz_13 : Siz Try.prog 13 2 := Siz.of (by kernel_rfl)
theorem zr_13 : Zer Try.prog 13 [.string ⟨#[]⟩, .int .u64 (0)] := Zer.of (by kernel_rfl)
theorem el_13 : Elm Try.prog 13 (.agg #[.string ⟨#[]⟩, .int .u64 (0)]) 2 24 := Elm.of (by kernel_rfl) rfl (by decide)
theorem bp_13 {fs : Array Field} (h : Try.prog.underlying 13 = some (.struct fs)) : Plc Try.prog fs [(0, 1), (1, 1)] := by
  have e := h.symm.trans Try.underlying13
  injection e with e
  injection e with e
  subst e
  unfold Plc
  intro w
  kernel_rfl
theorem is_14 : (Try.prog.underlying 14).isSome = true := by rw [Try.underlying14]; rfl
theorem sz_14 : Siz Try.prog 14 2 := Siz.of (by kernel_rfl)
theorem zr_14 : Zer Try.prog 14 [.string ⟨#[]⟩, .int .u64 (0)] := Zer.of (by kernel_rfl)
theorem el_14 : Elm Try.prog 14 (.agg #[.string ⟨#[]⟩, .int .u64 (0)]) 2 24 := Elm.of (by kernel_rfl) rfl (by decide)
theorem bp_14 {fs : Array Field} (h : Try.prog.underlying 14 = some (.struct fs)) : Plc Try.prog fs [(0, 1), (1, 1)] := by
  have e := h.symm.trans Try.underlying14
  injection e with e
  injection e with e
  subst e
  unfold Plc
  intro w
  kernel_rfl
theorem sc_15 : Scal Try.prog 15 := Scal.of Try.underlying15 rfl
theorem is_15 : (Try.prog.underlying 15).isSome = true := by rw [Try.underlying15]; rfl
theorem sz_15 : Siz Try.prog 15 1 := Siz.of (by kernel_rfl)
theorem zr_15 : Zer Try.prog 15 [.pointer none] := Zer.of (by kernel_rfl)
theorem el_15 : Elm Try.prog 15 (.pointer none) 1 8 := Elm.of (by kernel_rfl) rfl (by decide)
theorem sc_16 : Scal Try.prog 16 := Scal.of Try.underlying16 rfl
theorem is_16 : (Try.prog.underlying 16).isSome = true := by rw [Try.underlying16]; rfl
theorem sz_16 : Siz Try.prog 16 1 := Siz.of (by kernel_rfl)
theorem zr_16 : Zer Try.prog 16 [.pointer none] := Zer.of (by kernel_rfl)
theorem el_16 : Elm Try.prog 16 (.pointer none) 1 8 := Elm.of (by kernel_rfl) rfl (by decide)
theorem sc_17 : Scal Try.prog 17 := Scal.of Try.underlying17 rfl
theorem is_17 : (Try.prog.underlying 17).isSome = true := by rw [Try.underlying17]; rfl
theorem sz_17 : Siz Try.prog 17 1 := Siz.of (by kernel_rfl)
theorem zr_17 : Zer Try.prog 17 [.pointer none] := Zer.of (by kernel_rfl)
theorem el_17 : Elm Try.prog 17 (.pointer none) 1 8 := Elm.of (by kernel_rfl) rfl (by decide)
theorem is_18 : (Try.prog.underlying 18).isSome = true := by rw [Try.underlying18]; rfl
theorem sz_18 : Siz Try.prog 18 1 := Siz.of (by kernel_rfl)
theorem zr_18 : Zer Try.prog 18 [.pointer none] := Zer.of (by kernel_rfl)
theorem el_18 : Elm Try.prog 18 (.agg #[.pointer none]) 1 8 := Elm.of (by kernel_rfl) rfl (by decide)
theorem bp_18 {fs : Array Field} (h : Try.prog.underlying 18 = some (.struct fs)) : Plc Try.prog fs [(0, 1)] := by
  have e := h.symm.trans Try.underlying18
  injection e with e
  injection e with e
  subst e
  unfold Plc
  intro w
  kernel_rfl
theorem is_19 : (Try.prog.underlying 19).isSome = true := by rw [Try.underlying19]; rfl
theorem sz_19 : Siz Try.prog 19 1 := Siz.of (by kernel_rfl)
theorem zr_19 : Zer Try.prog 19 [.pointer none] := Zer.of (by kernel_rfl)
theorem el_19 : Elm Try.prog 19 (.agg #[.pointer none]) 1 8 := Elm.of (by kernel_rfl) rfl (by decide)
theorem bp_19 {fs : Array Field} (h : Try.prog.underlying 19 = some (.struct fs)) : Plc Try.prog fs [(0, 1)] := by
  have e := h.symm.trans Try.underlying19
  injection e with e
  injection e with e
  subst e
  unfold Plc
  intro w
  kernel_rfl
theorem sc_21 : Scal Try.prog 21 := Scal.of Try.underlying21 rfl
theorem is_21 : (Try.prog.underlying 21).isSome = true := by rw [Try.underlying21]; rfl
theorem sz_21 : Siz Try.prog 21 1 := Siz.of (by kernel_rfl)
theorem zr_21 : Zer Try.prog 21 [.int .i32 (0)] := Zer.of (by kernel_rfl)
theorem el_21 : Elm Try.prog 21 (.int .i32 (0)) 1 4 := Elm.of (by kernel_rfl) rfl (by decide)
theorem sc_22 : Scal Try.prog 22 := Scal.of Try.underlying22 rfl
theorem is_22 : (Try.prog.underlying 22).isSome = true := by rw [Try.underlying22]; rfl
theorem sz_22 : Siz Try.prog 22 1 := Siz.of (by kernel_rfl)
theorem zr_22 : Zer Try.prog 22 [.slice none 0 0] := Zer.of (by kernel_rfl)
theorem el_22 : Elm Try.prog 22 (.slice none 0 0) 1 24 := Elm.of (by kernel_rfl) rfl (by decide)
theorem sc_25 : Scal Try.prog 25 := Scal.of Try.underlying25 rfl
theorem is_25 : (Try.prog.underlying 25).isSome = true := by rw [Try.underlying25]; rfl
theorem sz_25 : Siz Try.prog 25 1 := Siz.of (by kernel_rfl)
theorem zr_25 : Zer Try.prog 25 [.slice none 0 0] := Zer.of (by kernel_rfl)
theorem el_25 : Elm Try.prog 25 (.slice none 0 0) 1 24 := Elm.of (by kernel_rfl) rfl (by decide)
theorem sc_30 : Scal Try.prog 30 := Scal.of Try.underlying30 rfl
theorem is_30 : (Try.prog.underlying 30).isSome = true := by rw [Try.underlying30]; rfl
theorem sz_30 : Siz Try.prog 30 1 := Siz.of (by kernel_rfl)
theorem zr_30 : Zer Try.prog 30 [.slice none 0 0] := Zer.of (by kernel_rfl)
theorem el_30 : Elm Try.prog 30 (.slice none 0 0) 1 24 := Elm.of (by kernel_rfl) rfl (by decide)
theorem sc_31 : Scal Try.prog 31 := Scal.of Try.underlying31 rfl
theorem is_31 : (Try.prog.underlying 31).isSome = true := by rw [Try.underlying31]; rfl
theorem sz_31 : Siz Try.prog 31 1 := Siz.of (by kernel_rfl)
theorem zr_31 : Zer Try.prog 31 [.slice none 0 0] := Zer.of (by kernel_rfl)
theorem el_31 : Elm Try.prog 31 (.slice none 0 0) 1 24 := Elm.of (by kernel_rfl) rfl (by decide)
theorem sc_32 : Scal Try.prog 32 := Scal.of Try.underlying32 rfl
theorem is_32 : (Try.prog.underlying 32).isSome = true := by rw [Try.underlying32]; rfl
theorem sz_32 : Siz Try.prog 32 1 := Siz.of (by kernel_rfl)
theorem zr_32 : Zer Try.prog 32 [.slice none 0 0] := Zer.of (by kernel_rfl)
theorem el_32 : Elm Try.prog 32 (.slice none 0 0) 1 24 := Elm.of (by kernel_rfl) rfl (by decide)
theorem is_33 : (Try.prog.underlying 33).isSome = true := by rw [Try.underlying33]; rfl
theorem sz_33 : Siz Try.prog 33 4 := Siz.of (by kernel_rfl)
theorem zr_33 : Zer Try.prog 33 [.slice none 0 0, .slice none 0 0, .slice none 0 0, .slice none 0 0] := Zer.of (by kernel_rfl)
theorem el_33 : Elm Try.prog 33 (.agg #[.slice none 0 0, .slice none 0 0, .slice none 0 0, .slice none 0 0]) 4 96 := Elm.of (by kernel_rfl) rfl (by decide)
theorem bp_33 {fs : Array Field} (h : Try.prog.underlying 33 = some (.struct fs)) : Plc Try.prog fs [(0, 1), (1, 1), (2, 1), (3, 1)] := by
  have e := h.symm.trans Try.underlying33
  injection e with e
  injection e with e
  subst e
  unfold Plc
  intro w
  kernel_rfl
theorem is_34 : (Try.prog.underlying 34).isSome = true := by rw [Try.underlying34]; rfl
theorem sz_34 : Siz Try.prog 34 4 := Siz.of (by kernel_rfl)
theorem zr_34 : Zer Try.prog 34 [.slice none 0 0, .slice none 0 0, .slice none 0 0, .slice none 0 0] := Zer.of (by kernel_rfl)
theorem el_34 : Elm Try.prog 34 (.agg #[.slice none 0 0, .slice none 0 0, .slice none 0 0, .slice none 0 0]) 4 96 := Elm.of (by kernel_rfl) rfl (by decide)
theorem bp_34 {fs : Array Field} (h : Try.prog.underlying 34 = some (.struct fs)) : Plc Try.prog fs [(0, 1), (1, 1), (2, 1), (3, 1)] := by
  have e := h.symm.trans Try.underlying34
  injection e with e
  injection e with e
  subst e
  unfold Plc
  intro w
  kernel_rfl
theorem sc_35 : Scal Try.prog 35 := Scal.of Try.underlying35 rfl
theorem is_35 : (Try.prog.underlying 35).isSome = true := by rw [Try.underlying35]; rfl
theorem sz_35 : Siz Try.prog 35 1 := Siz.of (by kernel_rfl)
theorem zr_35 : Zer Try.prog 35 [.int .u32 (0)] := Zer.of (by kernel_rfl)
theorem el_35 : Elm Try.prog 35 (.int .u32 (0)) 1 4 := Elm.of (by kernel_rfl) rfl (by decide)
theorem sc_36 : Scal Try.prog 36 := Scal.of Try.underlying36 rfl
theorem is_36 : (Try.prog.underlying 36).isSome = true := by rw [Try.underlying36]; rfl
theorem sz_36 : Siz Try.prog 36 1 := Siz.of (by kernel_rfl)
theorem zr_36 : Zer Try.prog 36 [.slice none 0 0] := Zer.of (by kernel_rfl)
theorem el_36 : Elm Try.prog 36 (.slice none 0 0) 1 24 := Elm.of (by kernel_rfl) rfl (by decide)
theorem sc_37 : Scal Try.prog 37 := Scal.of Try.underlying37 rfl
theorem is_37 : (Try.prog.underlying 37).isSome = true := by rw [Try.underlying37]; rfl
theorem sz_37 : Siz Try.prog 37 1 := Siz.of (by kernel_rfl)
theorem zr_37 : Zer Try.prog 37 [.slice none 0 0] := Zer.of (by kernel_rfl)
theorem el_37 : Elm Try.prog 37 (.slice none 0 0) 1 24 := Elm.of (by kernel_rfl) rfl (by decide)
theorem sc_38 : Scal Try.prog 38 := Scal.of Try.underlying38 rfl
theorem is_38 : (Try.prog.underlying 38).isSome = true := by rw [Try.underlying38]; rfl
theorem sz_38 : Siz Try.prog 38 1 := Siz.of (by kernel_rfl)
theorem zr_38 : Zer Try.prog 38 [.slice none 0 0] := Zer.of (by kernel_rfl)
theorem el_38 : Elm Try.prog 38 (.slice none 0 0) 1 24 := Elm.of (by kernel_rfl) rfl (by decide)
theorem is_39 : (Try.prog.underlying 39).isSome = true := by rw [Try.underlying39]; rfl
theorem sz_39 : Siz Try.prog 39 5 := Siz.of (by kernel_rfl)
theorem zr_39 : Zer Try.prog 39 [.int .u32 (0), .slice none 0 0, .slice none 0 0, .slice none 0 0, .int .i64 (0)] := Zer.of (by kernel_rfl)
theorem el_39 : Elm Try.prog 39 (.agg #[.int .u32 (0), .slice none 0 0, .slice none 0 0, .slice none 0 0, .int .i64 (0)]) 5 88 := Elm.of (by kernel_rfl) rfl (by decide)
theorem bp_39 {fs : Array Field} (h : Try.prog.underlying 39 = some (.struct fs)) : Plc Try.prog fs [(0, 1), (1, 1), (2, 1), (3, 1), (4, 1)] := by
  have e := h.symm.trans Try.underlying39
  injection e with e
  injection e with e
  subst e
  unfold Plc
  intro w
  kernel_rfl
theorem is_40 : (Try.prog.underlying 40).isSome = true := by rw [Try.underlying40]; rfl
theorem sz_40 : Siz Try.prog 40 5 := Siz.of (by kernel_rfl)
theorem zr_40 : Zer Try.prog 40 [.int .u32 (0), .slice none 0 0, .slice none 0 0, .slice none 0 0, .int .i64 (0)] := Zer.of (by kernel_rfl)
theorem el_40 : Elm Try.prog 40 (.agg #[.int .u32 (0), .slice none 0 0, .slice none 0 0, .slice none 0 0, .int .i64 (0)]) 5 88 := Elm.of (by kernel_rfl) rfl (by decide)
theorem bp_40 {fs : Array Field} (h : Try.prog.underlying 40 = some (.struct fs)) : Plc Try.prog fs [(0, 1), (1, 1), (2, 1), (3, 1), (4, 1)] := by
  have e := h.symm.trans Try.underlying40
  injection e with e
  injection e with e
  subst e
  unfold Plc
  intro w
  kernel_rfl
theorem sc_43 : Scal Try.prog 43 := Scal.of Try.underlying43 rfl
theorem is_43 : (Try.prog.underlying 43).isSome = true := by rw [Try.underlying43]; rfl
theorem sz_43 : Siz Try.prog 43 1 := Siz.of (by kernel_rfl)
theorem zr_43 : Zer Try.prog 43 [.int .i64 (0)] := Zer.of (by kernel_rfl)
theorem el_43 : Elm Try.prog 43 (.int .i64 (0)) 1 8 := Elm.of (by kernel_rfl) rfl (by decide)
theorem sc_55 : Scal Try.prog 55 := Scal.of Try.underlying55 rfl
theorem is_55 : (Try.prog.underlying 55).isSome = true := by rw [Try.underlying55]; rfl
theorem sz_55 : Siz Try.prog 55 1 := Siz.of (by kernel_rfl)
theorem zr_55 : Zer Try.prog 55 [.slice none 0 0] := Zer.of (by kernel_rfl)
theorem el_55 : Elm Try.prog 55 (.slice none 0 0) 1 24 := Elm.of (by kernel_rfl) rfl (by decide)
theorem is_56 : (Try.prog.underlying 56).isSome = true := by rw [Try.underlying56]; rfl
theorem sz_56 : Siz Try.prog 56 2 := Siz.of (by kernel_rfl)
theorem zr_56 : Zer Try.prog 56 [.slice none 0 0, .slice none 0 0] := Zer.of (by kernel_rfl)
theorem el_56 : Elm Try.prog 56 (.agg #[.slice none 0 0, .slice none 0 0]) 2 48 := Elm.of (by kernel_rfl) rfl (by decide)
theorem bp_56 {fs : Array Field} (h : Try.prog.underlying 56 = some (.struct fs)) : Plc Try.prog fs [(0, 1), (1, 1)] := by
  have e := h.symm.trans Try.underlying56
  injection e with e
  injection e with e
  subst e
  unfold Plc
  intro w
  kernel_rfl
theorem is_57 : (Try.prog.underlying 57).isSome = true := by rw [Try.underlying57]; rfl
theorem sz_57 : Siz Try.prog 57 2 := Siz.of (by kernel_rfl)
theorem zr_57 : Zer Try.prog 57 [.slice none 0 0, .slice none 0 0] := Zer.of (by kernel_rfl)
theorem el_57 : Elm Try.prog 57 (.agg #[.slice none 0 0, .slice none 0 0]) 2 48 := Elm.of (by kernel_rfl) rfl (by decide)
theorem bp_57 {fs : Array Field} (h : Try.prog.underlying 57 = some (.struct fs)) : Plc Try.prog fs [(0, 1), (1, 1)] := by
  have e := h.symm.trans Try.underlying57
  injection e with e
  injection e with e
  subst e
  unfold Plc
  intro w
  kernel_rfl
theorem sc_58 : Scal Try.prog 58 := Scal.of Try.underlying58 rfl
theorem is_58 : (Try.prog.underlying 58).isSome = true := by rw [Try.underlying58]; rfl
theorem sz_58 : Siz Try.prog 58 1 := Siz.of (by kernel_rfl)
theorem zr_58 : Zer Try.prog 58 [.slice none 0 0] := Zer.of (by kernel_rfl)
theorem el_58 : Elm Try.prog 58 (.slice none 0 0) 1 24 := Elm.of (by kernel_rfl) rfl (by decide)
theorem sc_73 : Scal Try.prog 73 := Scal.of Try.underlying73 rfl
theorem is_73 : (Try.prog.underlying 73).isSome = true := by rw [Try.underlying73]; rfl
theorem sz_73 : Siz Try.prog 73 1 := Siz.of (by kernel_rfl)
theorem zr_73 : Zer Try.prog 73 [.int .u64 (0)] := Zer.of (by kernel_rfl)
theorem el_73 : Elm Try.prog 73 (.int .u64 (0)) 1 8 := Elm.of (by kernel_rfl) rfl (by decide)
theorem sc_74 : Scal Try.prog 74 := Scal.of Try.underlying74 rfl
theorem is_74 : (Try.prog.underlying 74).isSome = true := by rw [Try.underlying74]; rfl
theorem sz_74 : Siz Try.prog 74 1 := Siz.of (by kernel_rfl)
theorem zr_74 : Zer Try.prog 74 [.slice none 0 0] := Zer.of (by kernel_rfl)
theorem el_74 : Elm Try.prog 74 (.slice none 0 0) 1 24 := Elm.of (by kernel_rfl) rfl (by decide)
theorem sc_75 : Scal Try.prog 75 := Scal.of Try.underlying75 rfl
theorem is_75 : (Try.prog.underlying 75).isSome = true := by rw [Try.underlying75]; rfl
theorem sz_75 : Siz Try.prog 75 1 := Siz.of (by kernel_rfl)
theorem zr_75 : Zer Try.prog 75 [.slice none 0 0] := Zer.of (by kernel_rfl)
theorem el_75 : Elm Try.prog 75 (.slice none 0 0) 1 24 := Elm.of (by kernel_rfl) rfl (by decide)
theorem is_76 : (Try.prog.underlying 76).isSome = true := by rw [Try.underlying76]; rfl
theorem sz_76 : Siz Try.prog 76 4 := Siz.of (by kernel_rfl)
theorem zr_76 : Zer Try.prog 76 [.int .u64 (0), .int .i64 (0), .slice none 0 0, .slice none 0 0] := Zer.of (by kernel_rfl)
theorem el_76 : Elm Try.prog 76 (.agg #[.int .u64 (0), .int .i64 (0), .slice none 0 0, .slice none 0 0]) 4 64 := Elm.of (by kernel_rfl) rfl (by decide)
theorem bp_76 {fs : Array Field} (h : Try.prog.underlying 76 = some (.struct fs)) : Plc Try.prog fs [(0, 1), (1, 1), (2, 1), (3, 1)] := by
  have e := h.symm.trans Try.underlying76
  injection e with e
  injection e with e
  subst e
  unfold Plc
  intro w
  kernel_rfl
theorem is_77 : (Try.prog.underlying 77).isSome = true := by rw [Try.underlying77]; rfl
theorem sz_77 : Siz Try.prog 77 4 := Siz.of (by kernel_rfl)
theorem zr_77 : Zer Try.prog 77 [.int .u64 (0), .int .i64 (0), .slice none 0 0, .slice none 0 0] := Zer.of (by kernel_rfl)
theorem el_77 : Elm Try.prog 77 (.agg #[.int .u64 (0), .int .i64 (0), .slice none 0 0, .slice none 0 0]) 4 64 := Elm.of (by kernel_rfl) rfl (by decide)
theorem bp_77 {fs : Array Field} (h : Try.prog.underlying 77 = some (.struct fs)) : Plc Try.prog fs [(0, 1), (1, 1), (2, 1), (3, 1)] := by
  have e := h.symm.trans Try.underlying77
  injection e with e
  injection e with e
  subst e
  unfold Plc
  intro w
  kernel_rfl
theorem sc_78 : Scal Try.prog 78 := Scal.of Try.underlying78 rfl
theorem is_78 : (Try.prog.underlying 78).isSome = true := by rw [Try.underlying78]; rfl
theorem sz_78 : Siz Try.prog 78 1 := Siz.of (by kernel_rfl)
theorem zr_78 : Zer Try.prog 78 [.slice none 0 0] := Zer.of (by kernel_rfl)
theorem el_78 : Elm Try.prog 78 (.slice none 0 0) 1 24 := Elm.of (by kernel_rfl) rfl (by decide)
theorem sc_79 : Scal Try.prog 79 := Scal.of Try.underlying79 rfl
theorem is_79 : (Try.prog.underlying 79).isSome = true := by rw [Try.underlying79]; rfl
theorem sz_79 : Siz Try.prog 79 1 := Siz.of (by kernel_rfl)
theorem zr_79 : Zer Try.prog 79 [.slice none 0 0] := Zer.of (by kernel_rfl)
theorem el_79 : Elm Try.prog 79 (.slice none 0 0) 1 24 := Elm.of (by kernel_rfl) rfl (by decide)
theorem is_82 : (Try.prog.underlying 82).isSome = true := by rw [Try.underlying82]; rfl
theorem sz_82 : Siz Try.prog 82 2 := Siz.of (by kernel_rfl)
theorem zr_82 : Zer Try.prog 82 [.int .u64 (0), .int .i64 (0)] := Zer.of (by kernel_rfl)
theorem el_82 : Elm Try.prog 82 (.agg #[.int .u64 (0), .int .i64 (0)]) 2 16 := Elm.of (by kernel_rfl) rfl (by decide)
theorem bp_82 {fs : Array Field} (h : Try.prog.underlying 82 = some (.struct fs)) : Plc Try.prog fs [(0, 1), (1, 1)] := by
  have e := h.symm.trans Try.underlying82
  injection e with e
  injection e with e
  subst e
  unfold Plc
  intro w
  kernel_rfl
theorem is_83 : (Try.prog.underlying 83).isSome = true := by rw [Try.underlying83]; rfl
theorem sz_83 : Siz Try.prog 83 2 := Siz.of (by kernel_rfl)
theorem zr_83 : Zer Try.prog 83 [.int .u64 (0), .int .i64 (0)] := Zer.of (by kernel_rfl)
theorem el_83 : Elm Try.prog 83 (.agg #[.int .u64 (0), .int .i64 (0)]) 2 16 := Elm.of (by kernel_rfl) rfl (by decide)
theorem bp_83 {fs : Array Field} (h : Try.prog.underlying 83 = some (.struct fs)) : Plc Try.prog fs [(0, 1), (1, 1)] := by
  have e := h.symm.trans Try.underlying83
  injection e with e
  injection e with e
  subst e
  unfold Plc
  intro w
  kernel_rfl
theorem sc_84 : Scal Try.prog 84 := Scal.of Try.underlying84 rfl
theorem is_84 : (Try.prog.underlying 84).isSome = true := by rw [Try.underlying84]; rfl
theorem sz_84 : Siz Try.prog 84 1 := Siz.of (by kernel_rfl)
theorem zr_84 : Zer Try.prog 84 [.slice none 0 0] := Zer.of (by kernel_rfl)
theorem el_84 : Elm Try.prog 84 (.slice none 0 0) 1 24 := Elm.of (by kernel_rfl) rfl (by decide)
theorem is_87 : (Try.prog.underlying 87).isSome = true := by rw [Try.underlying87]; rfl
theorem sz_87 : Siz Try.prog 87 2 := Siz.of (by kernel_rfl)
theorem zr_87 : Zer Try.prog 87 [.string ⟨#[]⟩, .int .i64 (0)] := Zer.of (by kernel_rfl)
theorem el_87 : Elm Try.prog 87 (.agg #[.string ⟨#[]⟩, .int .i64 (0)]) 2 24 := Elm.of (by kernel_rfl) rfl (by decide)
theorem bp_87 {fs : Array Field} (h : Try.prog.underlying 87 = some (.struct fs)) : Plc Try.prog fs [(0, 1), (1, 1)] := by
  have e := h.symm.trans Try.underlying87
  injection e with e
  injection e with e
  subst e
  unfold Plc
  intro w
  kernel_rfl
theorem is_88 : (Try.prog.underlying 88).isSome = true := by rw [Try.underlying88]; rfl
theorem sz_88 : Siz Try.prog 88 2 := Siz.of (by kernel_rfl)
theorem zr_88 : Zer Try.prog 88 [.string ⟨#[]⟩, .int .i64 (0)] := Zer.of (by kernel_rfl)
theorem el_88 : Elm Try.prog 88 (.agg #[.string ⟨#[]⟩, .int .i64 (0)]) 2 24 := Elm.of (by kernel_rfl) rfl (by decide)
theorem bp_88 {fs : Array Field} (h : Try.prog.underlying 88 = some (.struct fs)) : Plc Try.prog fs [(0, 1), (1, 1)] := by
  have e := h.symm.trans Try.underlying88
  injection e with e
  injection e with e
  subst e
  unfold Plc
  intro w
  kernel_rfl
theorem is_89 : (Try.prog.underlying 89).isSome = true := by rw [Try.underlying89]; rfl
theorem sz_89 : Siz Try.prog 89 2 := Siz.of (by kernel_rfl)
theorem zr_89 : Zer Try.prog 89 [.int .i64 (0), .slice none 0 0] := Zer.of (by kernel_rfl)
theorem el_89 : Elm Try.prog 89 (.agg #[.int .i64 (0), .slice none 0 0]) 2 32 := Elm.of (by kernel_rfl) rfl (by decide)
theorem bp_89 {fs : Array Field} (h : Try.prog.underlying 89 = some (.struct fs)) : Plc Try.prog fs [(0, 1), (1, 1)] := by
  have e := h.symm.trans Try.underlying89
  injection e with e
  injection e with e
  subst e
  unfold Plc
  intro w
  kernel_rfl
theorem is_90 : (Try.prog.underlying 90).isSome = true := by rw [Try.underlying90]; rfl
theorem sz_90 : Siz Try.prog 90 2 := Siz.of (by kernel_rfl)
theorem zr_90 : Zer Try.prog 90 [.int .i64 (0), .slice none 0 0] := Zer.of (by kernel_rfl)
theorem el_90 : Elm Try.prog 90 (.agg #[.int .i64 (0), .slice none 0 0]) 2 32 := Elm.of (by kernel_rfl) rfl (by decide)
theorem bp_90 {fs : Array Field} (h : Try.prog.underlying 90 = some (.struct fs)) : Plc Try.prog fs [(0, 1), (1, 1)] := by
  have e := h.symm.trans Try.underlying90
  injection e with e
  injection e with e
  subst e
  unfold Plc
  intro w
  kernel_rfl
theorem is_91 : (Try.prog.underlying 91).isSome = true := by rw [Try.underlying91]; rfl
theorem sz_91 : Siz Try.prog 91 2 := Siz.of (by kernel_rfl)
theorem zr_91 : Zer Try.prog 91 [.int .i64 (0), .int .i64 (0)] := Zer.of (by kernel_rfl)
theorem el_91 : Elm Try.prog 91 (.agg #[.int .i64 (0), .int .i64 (0)]) 2 16 := Elm.of (by kernel_rfl) rfl (by decide)
theorem bp_91 {fs : Array Field} (h : Try.prog.underlying 91 = some (.struct fs)) : Plc Try.prog fs [(0, 1), (1, 1)] := by
  have e := h.symm.trans Try.underlying91
  injection e with e
  injection e with e
  subst e
  unfold Plc
  intro w
  kernel_rfl
theorem is_92 : (Try.prog.underlying 92).isSome = true := by rw [Try.underlying92]; rfl
theorem sz_92 : Siz Try.prog 92 2 := Siz.of (by kernel_rfl)
theorem zr_92 : Zer Try.prog 92 [.int .i64 (0), .int .i64 (0)] := Zer.of (by kernel_rfl)
theorem el_92 : Elm Try.prog 92 (.agg #[.int .i64 (0), .int .i64 (0)]) 2 16 := Elm.of (by kernel_rfl) rfl (by decide)
theorem bp_92 {fs : Array Field} (h : Try.prog.underlying 92 = some (.struct fs)) : Plc Try.prog fs [(0, 1), (1, 1)] := by
  have e := h.symm.trans Try.underlying92
  injection e with e
  injection e with e
  subst e
  unfold Plc
  intro w
  kernel_rfl
theorem is_102 : (Try.prog.underlying 102).isSome = true := by rw [Try.underlying102]; rfl
theorem sz_102 : Siz Try.prog 102 2 := Siz.of (by kernel_rfl)
theorem zr_102 : Zer Try.prog 102 [.int .i64 (0), .bool false] := Zer.of (by kernel_rfl)
theorem el_102 : Elm Try.prog 102 (.agg #[.int .i64 (0), .bool false]) 2 16 := Elm.of (by kernel_rfl) rfl (by decide)
theorem bp_102 {fs : Array Field} (h : Try.prog.underlying 102 = some (.struct fs)) : Plc Try.prog fs [(0, 1), (1, 1)] := by
  have e := h.symm.trans Try.underlying102
  injection e with e
  injection e with e
  subst e
  unfold Plc
  intro w
  kernel_rfl
theorem is_103 : (Try.prog.underlying 103).isSome = true := by rw [Try.underlying103]; rfl
theorem sz_103 : Siz Try.prog 103 2 := Siz.of (by kernel_rfl)
theorem zr_103 : Zer Try.prog 103 [.int .i64 (0), .bool false] := Zer.of (by kernel_rfl)
theorem el_103 : Elm Try.prog 103 (.agg #[.int .i64 (0), .bool false]) 2 16 := Elm.of (by kernel_rfl) rfl (by decide)
theorem bp_103 {fs : Array Field} (h : Try.prog.underlying 103 = some (.struct fs)) : Plc Try.prog fs [(0, 1), (1, 1)] := by
  have e := h.symm.trans Try.underlying103
  injection e with e
  injection e with e
  subst e
  unfold Plc
  intro w
  kernel_rfl
theorem sc_104 : Scal Try.prog 104 := Scal.of Try.underlying104 rfl
theorem is_104 : (Try.prog.underlying 104).isSome = true := by rw [Try.underlying104]; rfl
theorem sz_104 : Siz Try.prog 104 1 := Siz.of (by kernel_rfl)
theorem zr_104 : Zer Try.prog 104 [.float .f64 0] := Zer.of (by kernel_rfl)
theorem el_104 : Elm Try.prog 104 (.float .f64 0) 1 8 := Elm.of (by kernel_rfl) rfl (by decide)
theorem is_105 : (Try.prog.underlying 105).isSome = true := by rw [Try.underlying105]; rfl
theorem sz_105 : Siz Try.prog 105 3 := Siz.of (by kernel_rfl)
theorem zr_105 : Zer Try.prog 105 [.bool false, .int .i64 (0), .float .f64 0] := Zer.of (by kernel_rfl)
theorem el_105 : Elm Try.prog 105 (.agg #[.bool false, .int .i64 (0), .float .f64 0]) 3 24 := Elm.of (by kernel_rfl) rfl (by decide)
theorem bp_105 {fs : Array Field} (h : Try.prog.underlying 105 = some (.struct fs)) : Plc Try.prog fs [(0, 1), (1, 1), (2, 1)] := by
  have e := h.symm.trans Try.underlying105
  injection e with e
  injection e with e
  subst e
  unfold Plc
  intro w
  kernel_rfl
theorem is_106 : (Try.prog.underlying 106).isSome = true := by rw [Try.underlying106]; rfl
theorem sz_106 : Siz Try.prog 106 3 := Siz.of (by kernel_rfl)
theorem zr_106 : Zer Try.prog 106 [.bool false, .int .i64 (0), .float .f64 0] := Zer.of (by kernel_rfl)
theorem el_106 : Elm Try.prog 106 (.agg #[.bool false, .int .i64 (0), .float .f64 0]) 3 24 := Elm.of (by kernel_rfl) rfl (by decide)
theorem bp_106 {fs : Array Field} (h : Try.prog.underlying 106 = some (.struct fs)) : Plc Try.prog fs [(0, 1), (1, 1), (2, 1)] := by
  have e := h.symm.trans Try.underlying106
  injection e with e
  injection e with e
  subst e
  unfold Plc
  intro w
  kernel_rfl
theorem sc_107 : Scal Try.prog 107 := Scal.of Try.underlying107 rfl
theorem is_107 : (Try.prog.underlying 107).isSome = true := by rw [Try.underlying107]; rfl
theorem sz_107 : Siz Try.prog 107 1 := Siz.of (by kernel_rfl)
theorem zr_107 : Zer Try.prog 107 [.slice none 0 0] := Zer.of (by kernel_rfl)
theorem el_107 : Elm Try.prog 107 (.slice none 0 0) 1 24 := Elm.of (by kernel_rfl) rfl (by decide)
theorem sc_120 : Scal Try.prog 120 := Scal.of Try.underlying120 rfl
theorem is_120 : (Try.prog.underlying 120).isSome = true := by rw [Try.underlying120]; rfl
theorem sz_120 : Siz Try.prog 120 1 := Siz.of (by kernel_rfl)
theorem zr_120 : Zer Try.prog 120 [.pointer none] := Zer.of (by kernel_rfl)
theorem el_120 : Elm Try.prog 120 (.pointer none) 1 8 := Elm.of (by kernel_rfl) rfl (by decide)
theorem sc_126 : Scal Try.prog 126 := Scal.of Try.underlying126 rfl
theorem is_126 : (Try.prog.underlying 126).isSome = true := by rw [Try.underlying126]; rfl
theorem sz_126 : Siz Try.prog 126 1 := Siz.of (by kernel_rfl)
theorem zr_126 : Zer Try.prog 126 [.pointer none] := Zer.of (by kernel_rfl)
theorem el_126 : Elm Try.prog 126 (.pointer none) 1 8 := Elm.of (by kernel_rfl) rfl (by decide)
theorem is_127 : (Try.prog.underlying 127).isSome = true := by rw [Try.underlying127]; rfl
theorem sz_127 : Siz Try.prog 127 3 := Siz.of (by kernel_rfl)
theorem zr_127 : Zer Try.prog 127 [.slice none 0 0, .int .i64 (0), .int .i64 (0)] := Zer.of (by kernel_rfl)
theorem el_127 : Elm Try.prog 127 (.agg #[.slice none 0 0, .int .i64 (0), .int .i64 (0)]) 3 40 := Elm.of (by kernel_rfl) rfl (by decide)
theorem bp_127 {fs : Array Field} (h : Try.prog.underlying 127 = some (.struct fs)) : Plc Try.prog fs [(0, 1), (1, 1), (2, 1)] := by
  have e := h.symm.trans Try.underlying127
  injection e with e
  injection e with e
  subst e
  unfold Plc
  intro w
  kernel_rfl
theorem is_128 : (Try.prog.underlying 128).isSome = true := by rw [Try.underlying128]; rfl
theorem sz_128 : Siz Try.prog 128 3 := Siz.of (by kernel_rfl)
theorem zr_128 : Zer Try.prog 128 [.slice none 0 0, .int .i64 (0), .int .i64 (0)] := Zer.of (by kernel_rfl)
theorem el_128 : Elm Try.prog 128 (.agg #[.slice none 0 0, .int .i64 (0), .int .i64 (0)]) 3 40 := Elm.of (by kernel_rfl) rfl (by decide)
theorem bp_128 {fs : Array Field} (h : Try.prog.underlying 128 = some (.struct fs)) : Plc Try.prog fs [(0, 1), (1, 1), (2, 1)] := by
  have e := h.symm.trans Try.underlying128
  injection e with e
  injection e with e
  subst e
  unfold Plc
  intro w
  kernel_rfl
theorem sc_135 : Scal Try.prog 135 := Scal.of Try.underlying135 rfl
theorem is_135 : (Try.prog.underlying 135).isSome = true := by rw [Try.underlying135]; rfl
theorem sz_135 : Siz Try.prog 135 1 := Siz.of (by kernel_rfl)
theorem zr_135 : Zer Try.prog 135 [.pointer none] := Zer.of (by kernel_rfl)
theorem el_135 : Elm Try.prog 135 (.pointer none) 1 8 := Elm.of (by kernel_rfl) rfl (by decide)
theorem sc_139 : Scal Try.prog 139 := Scal.of Try.underlying139 rfl
theorem is_139 : (Try.prog.underlying 139).isSome = true := by rw [Try.underlying139]; rfl
theorem sz_139 : Siz Try.prog 139 1 := Siz.of (by kernel_rfl)
theorem zr_139 : Zer Try.prog 139 [.slice none 0 0] := Zer.of (by kernel_rfl)
theorem el_139 : Elm Try.prog 139 (.slice none 0 0) 1 24 := Elm.of (by kernel_rfl) rfl (by decide)
theorem sc_150 : Scal Try.prog 150 := Scal.of Try.underlying150 rfl
theorem is_150 : (Try.prog.underlying 150).isSome = true := by rw [Try.underlying150]; rfl
theorem sz_150 : Siz Try.prog 150 1 := Siz.of (by kernel_rfl)
theorem zr_150 : Zer Try.prog 150 [.pointer none] := Zer.of (by kernel_rfl)
theorem el_150 : Elm Try.prog 150 (.pointer none) 1 8 := Elm.of (by kernel_rfl) rfl (by decide)
theorem is_151 : (Try.prog.underlying 151).isSome = true := by rw [Try.underlying151]; rfl
theorem sz_151 : Siz Try.prog 151 2 := Siz.of (by kernel_rfl)
theorem zr_151 : Zer Try.prog 151 [.slice none 0 0, .slice none 0 0] := Zer.of (by kernel_rfl)
theorem el_151 : Elm Try.prog 151 (.agg #[.slice none 0 0, .slice none 0 0]) 2 48 := Elm.of (by kernel_rfl) rfl (by decide)
theorem bp_151 {fs : Array Field} (h : Try.prog.underlying 151 = some (.struct fs)) : Plc Try.prog fs [(0, 1), (1, 1)] := by
  have e := h.symm.trans Try.underlying151
  injection e with e
  injection e with e
  subst e
  unfold Plc
  intro w
  kernel_rfl
theorem is_152 : (Try.prog.underlying 152).isSome = true := by rw [Try.underlying152]; rfl
theorem sz_152 : Siz Try.prog 152 2 := Siz.of (by kernel_rfl)
theorem zr_152 : Zer Try.prog 152 [.slice none 0 0, .slice none 0 0] := Zer.of (by kernel_rfl)
theorem el_152 : Elm Try.prog 152 (.agg #[.slice none 0 0, .slice none 0 0]) 2 48 := Elm.of (by kernel_rfl) rfl (by decide)
theorem bp_152 {fs : Array Field} (h : Try.prog.underlying 152 = some (.struct fs)) : Plc Try.prog fs [(0, 1), (1, 1)] := by
  have e := h.symm.trans Try.underlying152
  injection e with e
  injection e with e
  subst e
  unfold Plc
  intro w
  kernel_rfl
theorem is_162 : (Try.prog.underlying 162).isSome = true := by rw [Try.underlying162]; rfl
theorem sz_162 : Siz Try.prog 162 4 := Siz.of (by kernel_rfl)
theorem zr_162 : Zer Try.prog 162 [.bool false, .slice none 0 0, .int .i64 (0), .int .i64 (0)] := Zer.of (by kernel_rfl)
theorem el_162 : Elm Try.prog 162 (.agg #[.bool false, .slice none 0 0, .int .i64 (0), .int .i64 (0)]) 4 48 := Elm.of (by kernel_rfl) rfl (by decide)
theorem bp_162 {fs : Array Field} (h : Try.prog.underlying 162 = some (.struct fs)) : Plc Try.prog fs [(0, 1), (1, 1), (2, 1), (3, 1)] := by
  have e := h.symm.trans Try.underlying162
  injection e with e
  injection e with e
  subst e
  unfold Plc
  intro w
  kernel_rfl
theorem is_163 : (Try.prog.underlying 163).isSome = true := by rw [Try.underlying163]; rfl
theorem sz_163 : Siz Try.prog 163 4 := Siz.of (by kernel_rfl)
theorem zr_163 : Zer Try.prog 163 [.bool false, .slice none 0 0, .int .i64 (0), .int .i64 (0)] := Zer.of (by kernel_rfl)
theorem el_163 : Elm Try.prog 163 (.agg #[.bool false, .slice none 0 0, .int .i64 (0), .int .i64 (0)]) 4 48 := Elm.of (by kernel_rfl) rfl (by decide)
theorem bp_163 {fs : Array Field} (h : Try.prog.underlying 163 = some (.struct fs)) : Plc Try.prog fs [(0, 1), (1, 1), (2, 1), (3, 1)] := by
  have e := h.symm.trans Try.underlying163
  injection e with e
  injection e with e
  subst e
  unfold Plc
  intro w
  kernel_rfl
theorem is_171 : (Try.prog.underlying 171).isSome = true := by rw [Try.underlying171]; rfl
theorem sz_171 : Siz Try.prog 171 5 := Siz.of (by kernel_rfl)
theorem zr_171 : Zer Try.prog 171 [.int .u64 (0), .int .i64 (0), .string ⟨#[]⟩, .int .i64 (0), .int .i64 (0)] := Zer.of (by kernel_rfl)
theorem el_171 : Elm Try.prog 171 (.agg #[.int .u64 (0), .int .i64 (0), .string ⟨#[]⟩, .int .i64 (0), .int .i64 (0)]) 5 48 := Elm.of (by kernel_rfl) rfl (by decide)
theorem bp_171 {fs : Array Field} (h : Try.prog.underlying 171 = some (.struct fs)) : Plc Try.prog fs [(0, 1), (1, 1), (2, 1), (3, 1), (4, 1)] := by
  have e := h.symm.trans Try.underlying171
  injection e with e
  injection e with e
  subst e
  unfold Plc
  intro w
  kernel_rfl
theorem is_172 : (Try.prog.underlying 172).isSome = true := by rw [Try.underlying172]; rfl
theorem sz_172 : Siz Try.prog 172 5 := Siz.of (by kernel_rfl)
theorem zr_172 : Zer Try.prog 172 [.int .u64 (0), .int .i64 (0), .string ⟨#[]⟩, .int .i64 (0), .int .i64 (0)] := Zer.of (by kernel_rfl)
theorem el_172 : Elm Try.prog 172 (.agg #[.int .u64 (0), .int .i64 (0), .string ⟨#[]⟩, .int .i64 (0), .int .i64 (0)]) 5 48 := Elm.of (by kernel_rfl) rfl (by decide)
theorem bp_172 {fs : Array Field} (h : Try.prog.underlying 172 = some (.struct fs)) : Plc Try.prog fs [(0, 1), (1, 1), (2, 1), (3, 1), (4, 1)] := by
  have e := h.symm.trans Try.underlying172
  injection e with e
  injection e with e
  subst e
  unfold Plc
  intro w
  kernel_rfl
theorem is_174 : (Try.prog.underlying 174).isSome = true := by rw [Try.underlying174]; rfl
theorem sz_174 : Siz Try.prog 174 6 := Siz.of (by kernel_rfl)
theorem zr_174 : Zer Try.prog 174 [.int .i64 (0), .int .u64 (0), .int .i64 (0), .float .f64 0, .string ⟨#[]⟩, .int .i64 (0)] := Zer.of (by kernel_rfl)
theorem el_174 : Elm Try.prog 174 (.agg #[.int .i64 (0), .int .u64 (0), .int .i64 (0), .float .f64 0, .string ⟨#[]⟩, .int .i64 (0)]) 6 56 := Elm.of (by kernel_rfl) rfl (by decide)
theorem bp_174 {fs : Array Field} (h : Try.prog.underlying 174 = some (.struct fs)) : Plc Try.prog fs [(0, 1), (1, 1), (2, 1), (3, 1), (4, 1), (5, 1)] := by
  have e := h.symm.trans Try.underlying174
  injection e with e
  injection e with e
  subst e
  unfold Plc
  intro w
  kernel_rfl
theorem is_175 : (Try.prog.underlying 175).isSome = true := by rw [Try.underlying175]; rfl
theorem sz_175 : Siz Try.prog 175 6 := Siz.of (by kernel_rfl)
theorem zr_175 : Zer Try.prog 175 [.int .i64 (0), .int .u64 (0), .int .i64 (0), .float .f64 0, .string ⟨#[]⟩, .int .i64 (0)] := Zer.of (by kernel_rfl)
theorem el_175 : Elm Try.prog 175 (.agg #[.int .i64 (0), .int .u64 (0), .int .i64 (0), .float .f64 0, .string ⟨#[]⟩, .int .i64 (0)]) 6 56 := Elm.of (by kernel_rfl) rfl (by decide)
theorem bp_175 {fs : Array Field} (h : Try.prog.underlying 175 = some (.struct fs)) : Plc Try.prog fs [(0, 1), (1, 1), (2, 1), (3, 1), (4, 1), (5, 1)] := by
  have e := h.symm.trans Try.underlying175
  injection e with e
  injection e with e
  subst e
  unfold Plc
  intro w
  kernel_rfl
theorem is_176 : (Try.prog.underlying 176).isSome = true := by rw [Try.underlying176]; rfl
theorem sz_176 : Siz Try.prog 176 2 := Siz.of (by kernel_rfl)
theorem zr_176 : Zer Try.prog 176 [.bool false, .slice none 0 0] := Zer.of (by kernel_rfl)
theorem el_176 : Elm Try.prog 176 (.agg #[.bool false, .slice none 0 0]) 2 32 := Elm.of (by kernel_rfl) rfl (by decide)
theorem bp_176 {fs : Array Field} (h : Try.prog.underlying 176 = some (.struct fs)) : Plc Try.prog fs [(0, 1), (1, 1)] := by
  have e := h.symm.trans Try.underlying176
  injection e with e
  injection e with e
  subst e
  unfold Plc
  intro w
  kernel_rfl
theorem is_177 : (Try.prog.underlying 177).isSome = true := by rw [Try.underlying177]; rfl
theorem sz_177 : Siz Try.prog 177 2 := Siz.of (by kernel_rfl)
theorem zr_177 : Zer Try.prog 177 [.bool false, .slice none 0 0] := Zer.of (by kernel_rfl)
theorem el_177 : Elm Try.prog 177 (.agg #[.bool false, .slice none 0 0]) 2 32 := Elm.of (by kernel_rfl) rfl (by decide)
theorem bp_177 {fs : Array Field} (h : Try.prog.underlying 177 = some (.struct fs)) : Plc Try.prog fs [(0, 1), (1, 1)] := by
  have e := h.symm.trans Try.underlying177
  injection e with e
  injection e with e
  subst e
  unfold Plc
  intro w
  kernel_rfl
theorem is_182 : (Try.prog.underlying 182).isSome = true := by rw [Try.underlying182]; rfl
theorem sz_182 : Siz Try.prog 182 5 := Siz.of (by kernel_rfl)
theorem zr_182 : Zer Try.prog 182 [.int .i64 (0), .int .i64 (0), .slice none 0 0, .int .i64 (0), .int .i64 (0)] := Zer.of (by kernel_rfl)
theorem el_182 : Elm Try.prog 182 (.agg #[.int .i64 (0), .int .i64 (0), .slice none 0 0, .int .i64 (0), .int .i64 (0)]) 5 56 := Elm.of (by kernel_rfl) rfl (by decide)
theorem bp_182 {fs : Array Field} (h : Try.prog.underlying 182 = some (.struct fs)) : Plc Try.prog fs [(0, 1), (1, 1), (2, 1), (3, 1), (4, 1)] := by
  have e := h.symm.trans Try.underlying182
  injection e with e
  injection e with e
  subst e
  unfold Plc
  intro w
  kernel_rfl
theorem is_183 : (Try.prog.underlying 183).isSome = true := by rw [Try.underlying183]; rfl
theorem sz_183 : Siz Try.prog 183 5 := Siz.of (by kernel_rfl)
theorem zr_183 : Zer Try.prog 183 [.int .i64 (0), .int .i64 (0), .slice none 0 0, .int .i64 (0), .int .i64 (0)] := Zer.of (by kernel_rfl)
theorem el_183 : Elm Try.prog 183 (.agg #[.int .i64 (0), .int .i64 (0), .slice none 0 0, .int .i64 (0), .int .i64 (0)]) 5 56 := Elm.of (by kernel_rfl) rfl (by decide)
theorem bp_183 {fs : Array Field} (h : Try.prog.underlying 183 = some (.struct fs)) : Plc Try.prog fs [(0, 1), (1, 1), (2, 1), (3, 1), (4, 1)] := by
  have e := h.symm.trans Try.underlying183
  injection e with e
  injection e with e
  subst e
  unfold Plc
  intro w
  kernel_rfl
theorem is_186 : (Try.prog.underlying 186).isSome = true := by rw [Try.underlying186]; rfl
theorem sz_186 : Siz Try.prog 186 3 := Siz.of (by kernel_rfl)
theorem zr_186 : Zer Try.prog 186 [.slice none 0 0, .float .f64 0, .float .f64 0] := Zer.of (by kernel_rfl)
theorem el_186 : Elm Try.prog 186 (.agg #[.slice none 0 0, .float .f64 0, .float .f64 0]) 3 40 := Elm.of (by kernel_rfl) rfl (by decide)
theorem bp_186 {fs : Array Field} (h : Try.prog.underlying 186 = some (.struct fs)) : Plc Try.prog fs [(0, 1), (1, 1), (2, 1)] := by
  have e := h.symm.trans Try.underlying186
  injection e with e
  injection e with e
  subst e
  unfold Plc
  intro w
  kernel_rfl
theorem is_187 : (Try.prog.underlying 187).isSome = true := by rw [Try.underlying187]; rfl
theorem sz_187 : Siz Try.prog 187 3 := Siz.of (by kernel_rfl)
theorem zr_187 : Zer Try.prog 187 [.slice none 0 0, .float .f64 0, .float .f64 0] := Zer.of (by kernel_rfl)
theorem el_187 : Elm Try.prog 187 (.agg #[.slice none 0 0, .float .f64 0, .float .f64 0]) 3 40 := Elm.of (by kernel_rfl) rfl (by decide)
theorem bp_187 {fs : Array Field} (h : Try.prog.underlying 187 = some (.struct fs)) : Plc Try.prog fs [(0, 1), (1, 1), (2, 1)] := by
  have e := h.symm.trans Try.underlying187
  injection e with e
  injection e with e
  subst e
  unfold Plc
  intro w
  kernel_rfl
theorem sc_195 : Scal Try.prog 195 := Scal.of Try.underlying195 rfl
theorem is_195 : (Try.prog.underlying 195).isSome = true := by rw [Try.underlying195]; rfl
theorem sz_195 : Siz Try.prog 195 1 := Siz.of (by kernel_rfl)
theorem zr_195 : Zer Try.prog 195 [.int .u64 (0)] := Zer.of (by kernel_rfl)
theorem el_195 : Elm Try.prog 195 (.int .u64 (0)) 1 8 := Elm.of (by kernel_rfl) rfl (by decide)
theorem sc_198 : Scal Try.prog 198 := Scal.of Try.underlying198 rfl
theorem is_198 : (Try.prog.underlying 198).isSome = true := by rw [Try.underlying198]; rfl
theorem sz_198 : Siz Try.prog 198 1 := Siz.of (by kernel_rfl)
theorem zr_198 : Zer Try.prog 198 [.map none] := Zer.of (by kernel_rfl)
theorem el_198 : Elm Try.prog 198 (.map none) 1 8 := Elm.of (by kernel_rfl) rfl (by decide)
theorem is_219 : (Try.prog.underlying 219).isSome = true := by rw [Try.underlying219]; rfl
theorem sz_219 : Siz Try.prog 219 4 := Siz.of (by kernel_rfl)
theorem zr_219 : Zer Try.prog 219 [.pointer none, .pointer none, .pointer none, .string ⟨#[]⟩] := Zer.of (by kernel_rfl)
theorem el_219 : Elm Try.prog 219 (.agg #[.pointer none, .pointer none, .pointer none, .string ⟨#[]⟩]) 4 40 := Elm.of (by kernel_rfl) rfl (by decide)
theorem bp_219 {fs : Array Field} (h : Try.prog.underlying 219 = some (.struct fs)) : Plc Try.prog fs [(0, 1), (1, 1), (2, 1), (3, 1)] := by
  have e := h.symm.trans Try.underlying219
  injection e with e
  injection e with e
  subst e
  unfold Plc
  intro w
  kernel_rfl
theorem is_220 : (Try.prog.underlying 220).isSome = true := by rw [Try.underlying220]; rfl
theorem sz_220 : Siz Try.prog 220 4 := Siz.of (by kernel_rfl)
theorem zr_220 : Zer Try.prog 220 [.pointer none, .pointer none, .pointer none, .string ⟨#[]⟩] := Zer.of (by kernel_rfl)
theorem el_220 : Elm Try.prog 220 (.agg #[.pointer none, .pointer none, .pointer none, .string ⟨#[]⟩]) 4 40 := Elm.of (by kernel_rfl) rfl (by decide)
theorem bp_220 {fs : Array Field} (h : Try.prog.underlying 220 = some (.struct fs)) : Plc Try.prog fs [(0, 1), (1, 1), (2, 1), (3, 1)] := by
  have e := h.symm.trans Try.underlying220
  injection e with e
  injection e with e
  subst e
  unfold Plc
  intro w
  kernel_rfl
theorem is_221 : (Try.prog.underlying 221).isSome = true := by rw [Try.underlying221]; rfl
theorem is_222 : (Try.prog.underlying 222).isSome = true := by rw [Try.underlying222]; rfl
theorem is_223 : (Try.prog.underlying 223).isSome = true := by rw [Try.underlying223]; rfl
theorem sc_224 : Scal Try.prog 224 := Scal.of Try.underlying224 rfl
theorem is_224 : (Try.prog.underlying 224).isSome = true := by rw [Try.underlying224]; rfl
theorem sz_224 : Siz Try.prog 224 1 := Siz.of (by kernel_rfl)
theorem zr_224 : Zer Try.prog 224 [.int .u8 (0)] := Zer.of (by kernel_rfl)
theorem el_224 : Elm Try.prog 224 (.int .u8 (0)) 1 1 := Elm.of (by kernel_rfl) rfl (by decide)
theorem sc_225 : Scal Try.prog 225 := Scal.of Try.underlying225 rfl
theorem is_225 : (Try.prog.underlying 225).isSome = true := by rw [Try.underlying225]; rfl
theorem sz_225 : Siz Try.prog 225 1 := Siz.of (by kernel_rfl)
theorem zr_225 : Zer Try.prog 225 [.int .u8 (0)] := Zer.of (by kernel_rfl)
theorem el_225 : Elm Try.prog 225 (.int .u8 (0)) 1 1 := Elm.of (by kernel_rfl) rfl (by decide)
theorem sc_227 : Scal Try.prog 227 := Scal.of Try.underlying227 rfl
theorem is_227 : (Try.prog.underlying 227).isSome = true := by rw [Try.underlying227]; rfl
theorem sz_227 : Siz Try.prog 227 1 := Siz.of (by kernel_rfl)
theorem zr_227 : Zer Try.prog 227 [.pointer none] := Zer.of (by kernel_rfl)
theorem el_227 : Elm Try.prog 227 (.pointer none) 1 8 := Elm.of (by kernel_rfl) rfl (by decide)
theorem sc_228 : Scal Try.prog 228 := Scal.of Try.underlying228 rfl
theorem is_228 : (Try.prog.underlying 228).isSome = true := by rw [Try.underlying228]; rfl
theorem sz_228 : Siz Try.prog 228 1 := Siz.of (by kernel_rfl)
theorem zr_228 : Zer Try.prog 228 [.int .i32 (0)] := Zer.of (by kernel_rfl)
theorem el_228 : Elm Try.prog 228 (.int .i32 (0)) 1 4 := Elm.of (by kernel_rfl) rfl (by decide)
theorem sc_229 : Scal Try.prog 229 := Scal.of Try.underlying229 rfl
theorem is_229 : (Try.prog.underlying 229).isSome = true := by rw [Try.underlying229]; rfl
theorem sz_229 : Siz Try.prog 229 1 := Siz.of (by kernel_rfl)
theorem zr_229 : Zer Try.prog 229 [.int .i32 (0)] := Zer.of (by kernel_rfl)
theorem el_229 : Elm Try.prog 229 (.int .i32 (0)) 1 4 := Elm.of (by kernel_rfl) rfl (by decide)
theorem is_230 : (Try.prog.underlying 230).isSome = true := by rw [Try.underlying230]; rfl
theorem sz_230 : Siz Try.prog 230 11 := Siz.of (by kernel_rfl)
theorem zr_230 : Zer Try.prog 230 [.int .u64 (0), .int .u64 (0), .int .u32 (0), .int .u8 (0), .int .u8 (0), .int .u8 (0), .int .u8 (0), .nilFunc, .pointer none, .int .i32 (0), .int .i32 (0)] := Zer.of (by kernel_rfl)
theorem el_230 : Elm Try.prog 230 (.agg #[.int .u64 (0), .int .u64 (0), .int .u32 (0), .int .u8 (0), .int .u8 (0), .int .u8 (0), .int .u8 (0), .nilFunc, .pointer none, .int .i32 (0), .int .i32 (0)]) 11 48 := Elm.of (by kernel_rfl) rfl (by decide)
theorem bp_230 {fs : Array Field} (h : Try.prog.underlying 230 = some (.struct fs)) : Plc Try.prog fs [(0, 1), (1, 1), (2, 1), (3, 1), (4, 1), (5, 1), (6, 1), (7, 1), (8, 1), (9, 1), (10, 1)] := by
  have e := h.symm.trans Try.underlying230
  injection e with e
  injection e with e
  subst e
  unfold Plc
  intro w
  kernel_rfl
theorem is_231 : (Try.prog.underlying 231).isSome = true := by rw [Try.underlying231]; rfl
theorem sz_231 : Siz Try.prog 231 11 := Siz.of (by kernel_rfl)
theorem zr_231 : Zer Try.prog 231 [.int .u64 (0), .int .u64 (0), .int .u32 (0), .int .u8 (0), .int .u8 (0), .int .u8 (0), .int .u8 (0), .nilFunc, .pointer none, .int .i32 (0), .int .i32 (0)] := Zer.of (by kernel_rfl)
theorem el_231 : Elm Try.prog 231 (.agg #[.int .u64 (0), .int .u64 (0), .int .u32 (0), .int .u8 (0), .int .u8 (0), .int .u8 (0), .int .u8 (0), .nilFunc, .pointer none, .int .i32 (0), .int .i32 (0)]) 11 48 := Elm.of (by kernel_rfl) rfl (by decide)
theorem bp_231 {fs : Array Field} (h : Try.prog.underlying 231 = some (.struct fs)) : Plc Try.prog fs [(0, 1), (1, 1), (2, 1), (3, 1), (4, 1), (5, 1), (6, 1), (7, 1), (8, 1), (9, 1), (10, 1)] := by
  have e := h.symm.trans Try.underlying231
  injection e with e
  injection e with e
  subst e
  unfold Plc
  intro w
  kernel_rfl
theorem sc_234 : Scal Try.prog 234 := Scal.of Try.underlying234 rfl
theorem is_234 : (Try.prog.underlying 234).isSome = true := by rw [Try.underlying234]; rfl
theorem sz_234 : Siz Try.prog 234 1 := Siz.of (by kernel_rfl)
theorem zr_234 : Zer Try.prog 234 [.pointer none] := Zer.of (by kernel_rfl)
theorem el_234 : Elm Try.prog 234 (.pointer none) 1 8 := Elm.of (by kernel_rfl) rfl (by decide)
theorem en_2 : Ent Try.prog 2 := by unfold Ent; kernel_rfl
theorem en_3 : Ent Try.prog 3 := by unfold Ent; kernel_rfl
theorem en_4 : Ent Try.prog 4 := by unfold Ent; kernel_rfl
theorem en_5 : Ent Try.prog 5 := by unfold Ent; kernel_rfl
theorem en_6 : Ent Try.prog 6 := by unfold Ent; kernel_rfl
theorem en_7 : Ent Try.prog 7 := by unfold Ent; kernel_rfl
theorem en_8 : Ent Try.prog 8 := by unfold Ent; kernel_rfl
theorem en_9 : Ent Try.prog 9 := by unfold Ent; kernel_rfl
theorem en_10 : Ent Try.prog 10 := by unfold Ent; kernel_rfl
theorem en_11 : Ent Try.prog 11 := by unfold Ent; kernel_rfl
theorem en_12 : Ent Try.prog 12 := by unfold Ent; kernel_rfl
theorem en_13 : Ent Try.prog 13 := by unfold Ent; kernel_rfl
theorem en_14 : Ent Try.prog 14 := by unfold Ent; kernel_rfl
theorem en_15 : Ent Try.prog 15 := by unfold Ent; kernel_rfl
theorem en_16 : Ent Try.prog 16 := by unfold Ent; kernel_rfl
theorem en_17 : Ent Try.prog 17 := by unfold Ent; kernel_rfl
theorem en_18 : Ent Try.prog 18 := by unfold Ent; kernel_rfl
theorem en_19 : Ent Try.prog 19 := by unfold Ent; kernel_rfl
theorem en_20 : Ent Try.prog 20 := by unfold Ent; kernel_rfl
theorem en_21 : Ent Try.prog 21 := by unfold Ent; kernel_rfl
theorem en_22 : Ent Try.prog 22 := by unfold Ent; kernel_rfl
theorem en_23 : Ent Try.prog 23 := by unfold Ent; kernel_rfl
theorem en_24 : Ent Try.prog 24 := by unfold Ent; kernel_rfl
theorem en_25 : Ent Try.prog 25 := by unfold Ent; kernel_rfl
theorem en_26 : Ent Try.prog 26 := by unfold Ent; kernel_rfl
theorem en_27 : Ent Try.prog 27 := by unfold Ent; kernel_rfl
theorem en_28 : Ent Try.prog 28 := by unfold Ent; kernel_rfl
theorem en_29 : Ent Try.prog 29 := by unfold Ent; kernel_rfl
theorem en_30 : Ent Try.prog 30 := by unfold Ent; kernel_rfl
theorem en_31 : Ent Try.prog 31 := by unfold Ent; kernel_rfl
theorem en_32 : Ent Try.prog 32 := by unfold Ent; kernel_rfl
theorem en_33 : Ent Try.prog 33 := by unfold Ent; kernel_rfl
theorem en_34 : Ent Try.prog 34 := by unfold Ent; kernel_rfl
theorem en_35 : Ent Try.prog 35 := by unfold Ent; kernel_rfl
theorem en_36 : Ent Try.prog 36 := by unfold Ent; kernel_rfl
theorem en_37 : Ent Try.prog 37 := by unfold Ent; kernel_rfl
theorem en_38 : Ent Try.prog 38 := by unfold Ent; kernel_rfl
theorem en_39 : Ent Try.prog 39 := by unfold Ent; kernel_rfl
theorem en_40 : Ent Try.prog 40 := by unfold Ent; kernel_rfl
theorem en_41 : Ent Try.prog 41 := by unfold Ent; kernel_rfl
theorem en_42 : Ent Try.prog 42 := by unfold Ent; kernel_rfl
theorem en_43 : Ent Try.prog 43 := by unfold Ent; kernel_rfl
theorem en_44 : Ent Try.prog 44 := by unfold Ent; kernel_rfl
theorem en_45 : Ent Try.prog 45 := by unfold Ent; kernel_rfl
theorem en_46 : Ent Try.prog 46 := by unfold Ent; kernel_rfl
theorem en_47 : Ent Try.prog 47 := by unfold Ent; kernel_rfl
theorem en_48 : Ent Try.prog 48 := by unfold Ent; kernel_rfl
theorem en_49 : Ent Try.prog 49 := by unfold Ent; kernel_rfl
theorem en_50 : Ent Try.prog 50 := by unfold Ent; kernel_rfl
theorem en_51 : Ent Try.prog 51 := by unfold Ent; kernel_rfl
theorem en_52 : Ent Try.prog 52 := by unfold Ent; kernel_rfl
theorem en_53 : Ent Try.prog 53 := by unfold Ent; kernel_rfl
theorem en_54 : Ent Try.prog 54 := by unfold Ent; kernel_rfl
theorem en_55 : Ent Try.prog 55 := by unfold Ent; kernel_rfl
theorem en_56 : Ent Try.prog 56 := by unfold Ent; kernel_rfl
theorem en_57 : Ent Try.prog 57 := by unfold Ent; kernel_rfl
theorem en_58 : Ent Try.prog 58 := by unfold Ent; kernel_rfl
theorem en_59 : Ent Try.prog 59 := by unfold Ent; kernel_rfl
theorem en_60 : Ent Try.prog 60 := by unfold Ent; kernel_rfl
theorem en_61 : Ent Try.prog 61 := by unfold Ent; kernel_rfl
theorem en_62 : Ent Try.prog 62 := by unfold Ent; kernel_rfl
theorem en_63 : Ent Try.prog 63 := by unfold Ent; kernel_rfl
theorem en_64 : Ent Try.prog 64 := by unfold Ent; kernel_rfl
theorem en_65 : Ent Try.prog 65 := by unfold Ent; kernel_rfl
theorem en_66 : Ent Try.prog 66 := by unfold Ent; kernel_rfl
theorem en_67 : Ent Try.prog 67 := by unfold Ent; kernel_rfl
theorem en_68 : Ent Try.prog 68 := by unfold Ent; kernel_rfl
theorem en_69 : Ent Try.prog 69 := by unfold Ent; kernel_rfl
theorem en_70 : Ent Try.prog 70 := by unfold Ent; kernel_rfl
theorem en_71 : Ent Try.prog 71 := by unfold Ent; kernel_rfl
theorem en_72 : Ent Try.prog 72 := by unfold Ent; kernel_rfl
theorem en_73 : Ent Try.prog 73 := by unfold Ent; kernel_rfl
theorem en_74 : Ent Try.prog 74 := by unfold Ent; kernel_rfl
theorem en_75 : Ent Try.prog 75 := by unfold Ent; kernel_rfl
theorem en_76 : Ent Try.prog 76 := by unfold Ent; kernel_rfl
theorem en_77 : Ent Try.prog 77 := by unfold Ent; kernel_rfl
theorem en_78 : Ent Try.prog 78 := by unfold Ent; kernel_rfl
theorem en_79 : Ent Try.prog 79 := by unfold Ent; kernel_rfl
theorem en_80 : Ent Try.prog 80 := by unfold Ent; kernel_rfl
theorem en_81 : Ent Try.prog 81 := by unfold Ent; kernel_rfl
theorem en_82 : Ent Try.prog 82 := by unfold Ent; kernel_rfl
theorem en_83 : Ent Try.prog 83 := by unfold Ent; kernel_rfl
theorem en_84 : Ent Try.prog 84 := by unfold Ent; kernel_rfl
theorem en_85 : Ent Try.prog 85 := by unfold Ent; kernel_rfl
theorem en_86 : Ent Try.prog 86 := by unfold Ent; kernel_rfl
theorem en_87 : Ent Try.prog 87 := by unfold Ent; kernel_rfl
theorem en_88 : Ent Try.prog 88 := by unfold Ent; kernel_rfl
theorem en_89 : Ent Try.prog 89 := by unfold Ent; kernel_rfl
theorem en_90 : Ent Try.prog 90 := by unfold Ent; kernel_rfl
theorem en_91 : Ent Try.prog 91 := by unfold Ent; kernel_rfl
theorem en_92 : Ent Try.prog 92 := by unfold Ent; kernel_rfl
theorem en_93 : Ent Try.prog 93 := by unfold Ent; kernel_rfl
theorem en_94 : Ent Try.prog 94 := by unfold Ent; kernel_rfl
theorem en_95 : Ent Try.prog 95 := by unfold Ent; kernel_rfl
theorem en_96 : Ent Try.prog 96 := by unfold Ent; kernel_rfl
theorem en_97 : Ent Try.prog 97 := by unfold Ent; kernel_rfl
theorem en_98 : Ent Try.prog 98 := by unfold Ent; kernel_rfl
theorem en_99 : Ent Try.prog 99 := by unfold Ent; kernel_rfl
theorem en_100 : Ent Try.prog 100 := by unfold Ent; kernel_rfl
theorem en_101 : Ent Try.prog 101 := by unfold Ent; kernel_rfl
theorem en_102 : Ent Try.prog 102 := by unfold Ent; kernel_rfl
theorem en_103 : Ent Try.prog 103 := by unfold Ent; kernel_rfl
theorem en_104 : Ent Try.prog 104 := by unfold Ent; kernel_rfl
theorem en_105 : Ent Try.prog 105 := by unfold Ent; kernel_rfl
theorem en_106 : Ent Try.prog 106 := by unfold Ent; kernel_rfl
theorem en_107 : Ent Try.prog 107 := by unfold Ent; kernel_rfl
theorem en_108 : Ent Try.prog 108 := by unfold Ent; kernel_rfl
theorem en_109 : Ent Try.prog 109 := by unfold Ent; kernel_rfl
theorem en_110 : Ent Try.prog 110 := by unfold Ent; kernel_rfl
theorem en_111 : Ent Try.prog 111 := by unfold Ent; kernel_rfl
theorem en_112 : Ent Try.prog 112 := by unfold Ent; kernel_rfl
theorem en_113 : Ent Try.prog 113 := by unfold Ent; kernel_rfl
theorem en_114 : Ent Try.prog 114 := by unfold Ent; kernel_rfl
theorem en_115 : Ent Try.prog 115 := by unfold Ent; kernel_rfl
theorem en_116 : Ent Try.prog 116 := by unfold Ent; kernel_rfl
theorem en_117 : Ent Try.prog 117 := by unfold Ent; kernel_rfl
theorem en_118 : Ent Try.prog 118 := by unfold Ent; kernel_rfl
theorem en_119 : Ent Try.prog 119 := by unfold Ent; kernel_rfl
theorem en_120 : Ent Try.prog 120 := by unfold Ent; kernel_rfl
theorem en_121 : Ent Try.prog 121 := by unfold Ent; kernel_rfl
theorem en_122 : Ent Try.prog 122 := by unfold Ent; kernel_rfl
theorem en_123 : Ent Try.prog 123 := by unfold Ent; kernel_rfl
theorem en_124 : Ent Try.prog 124 := by unfold Ent; kernel_rfl
theorem en_125 : Ent Try.prog 125 := by unfold Ent; kernel_rfl
theorem en_126 : Ent Try.prog 126 := by unfold Ent; kernel_rfl
theorem en_127 : Ent Try.prog 127 := by unfold Ent; kernel_rfl
theorem en_128 : Ent Try.prog 128 := by unfold Ent; kernel_rfl
theorem en_129 : Ent Try.prog 129 := by unfold Ent; kernel_rfl
theorem en_130 : Ent Try.prog 130 := by unfold Ent; kernel_rfl
theorem en_131 : Ent Try.prog 131 := by unfold Ent; kernel_rfl
theorem en_132 : Ent Try.prog 132 := by unfold Ent; kernel_rfl
theorem en_133 : Ent Try.prog 133 := by unfold Ent; kernel_rfl
theorem en_134 : Ent Try.prog 134 := by unfold Ent; kernel_rfl
theorem en_135 : Ent Try.prog 135 := by unfold Ent; kernel_rfl
theorem en_136 : Ent Try.prog 136 := by unfold Ent; kernel_rfl
theorem en_137 : Ent Try.prog 137 := by unfold Ent; kernel_rfl
theorem en_138 : Ent Try.prog 138 := by unfold Ent; kernel_rfl
theorem en_139 : Ent Try.prog 139 := by unfold Ent; kernel_rfl
theorem en_140 : Ent Try.prog 140 := by unfold Ent; kernel_rfl
theorem en_141 : Ent Try.prog 141 := by unfold Ent; kernel_rfl
theorem en_142 : Ent Try.prog 142 := by unfold Ent; kernel_rfl
theorem en_143 : Ent Try.prog 143 := by unfold Ent; kernel_rfl
theorem en_145 : Ent Try.prog 145 := by unfold Ent; kernel_rfl
theorem en_146 : Ent Try.prog 146 := by unfold Ent; kernel_rfl
theorem en_147 : Ent Try.prog 147 := by unfold Ent; kernel_rfl
theorem en_148 : Ent Try.prog 148 := by unfold Ent; kernel_rfl
theorem en_149 : Ent Try.prog 149 := by unfold Ent; kernel_rfl
theorem en_150 : Ent Try.prog 150 := by unfold Ent; kernel_rfl
theorem en_151 : Ent Try.prog 151 := by unfold Ent; kernel_rfl
theorem en_152 : Ent Try.prog 152 := by unfold Ent; kernel_rfl
theorem en_153 : Ent Try.prog 153 := by unfold Ent; kernel_rfl
theorem en_154 : Ent Try.prog 154 := by unfold Ent; kernel_rfl
theorem en_155 : Ent Try.prog 155 := by unfold Ent; kernel_rfl
theorem en_156 : Ent Try.prog 156 := by unfold Ent; kernel_rfl
theorem en_157 : Ent Try.prog 157 := by unfold Ent; kernel_rfl
theorem en_158 : Ent Try.prog 158 := by unfold Ent; kernel_rfl
theorem en_159 : Ent Try.prog 159 := by unfold Ent; kernel_rfl
theorem en_178 : Ent Try.prog 178 := by unfold Ent; kernel_rfl
theorem en_179 : Ent Try.prog 179 := by unfold Ent; kernel_rfl
theorem en_180 : Ent Try.prog 180 := by unfold Ent; kernel_rfl
theorem en_181 : Ent Try.prog 181 := by unfold Ent; kernel_rfl
end Go.Proofs.Ytlohbkcedpkjaaa.H
