/-
  Facts on the types and functions of this seat, for the logic of YtmiieppcoknmfaaHoa.
-/
import Derived.Test.YtmiieppcoknmfaaHoaF
namespace Go.Proofs.Ytmiieppcoknmfaa.H
open Go.RowKit Go.Proofs.Ytmiieppcoknmfaa
theorem mixed : Try.prog.follows .mixedOrders = true := by kernel_rfl
theorem sc_2 : Scal Try.prog 2 := Scal.of Try.underlying2 rfl
theorem is_2 : (Try.prog.underlying 2).isSome = true := by rw [Try.underlying2]; rfl
theorem sz_2 : Siz Try.prog 2 1 := Siz.of (by kernel_rfl)
theorem zr_2 : Zer Try.prog 2 [.int .i64 (0)] := Zer.of (by kernel_rfl)
theorem el_2 : Elm Try.prog 2 (.int .i64 (0)) 1 8 := Elm.of (by kernel_rfl) rfl (by decide)
theorem sc_3 : Scal Try.prog 3 := Scal.of Try.underlying3 rfl
theorem is_3 : (Try.prog.underlying 3).isSome = true := by rw [Try.underlying3]; rfl
theorem sz_3 : Siz Try.prog 3 1 := Siz.of (by kernel_rfl)
theorem zr_3 : Zer Try.prog 3 [.int .i64 (0)] := Zer.of (by kernel_rfl)
theorem el_3 : Elm Try.prog 3 (.int .i64 (0)) 1 8 := Elm.of (by kernel_rfl) rfl (by decide)
theorem sc_4 : Scal Try.prog 4 := Scal.of Try.underlying4 rfl
theorem is_4 : (Try.prog.underlying 4).isSome = true := by rw [Try.underlying4]; rfl
theorem sz_4 : Siz Try.prog 4 1 := Siz.of (by kernel_rfl)
theorem zr_4 : Zer Try.prog 4 [.bool false] := Zer.of (by kernel_rfl)
theorem el_4 : Elm Try.prog 4 (.bool false) 1 1 := Elm.of (by kernel_rfl) rfl (by decide)
theorem sc_5 : Scal Try.prog 5 := Scal.of Try.underlying5 rfl
theorem is_5 : (Try.prog.underlying 5).isSome = true := by rw [Try.underlying5]; rfl
theorem sz_5 : Siz Try.prog 5 1 := Siz.of (by kernel_rfl)
theorem zr_5 : Zer Try.prog 5 [.int .u8 (0)] := Zer.of (by kernel_rfl)
theorem el_5 : Elm Try.prog 5 (.int .u8 (0)) 1 1 := Elm.of (by kernel_rfl) rfl (by decide)
theorem sc_6 : Scal Try.prog 6 := Scal.of Try.underlying6 rfl
theorem is_6 : (Try.prog.underlying 6).isSome = true := by rw [Try.underlying6]; rfl
theorem sz_6 : Siz Try.prog 6 1 := Siz.of (by kernel_rfl)
theorem zr_6 : Zer Try.prog 6 [.int .u8 (0)] := Zer.of (by kernel_rfl)
theorem el_6 : Elm Try.prog 6 (.int .u8 (0)) 1 1 := Elm.of (by kernel_rfl) rfl (by decide)
theorem is_7 : (Try.prog.underlying 7).isSome = true := by rw [Try.underlying7]; rfl
theorem sz_7 : Siz Try.prog 7 4 := Siz.of (by kernel_rfl)
theorem zr_7 : Zer Try.prog 7 [.int .i64 (0), .int .i64 (0), .bool false, .int .u8 (0)] := Zer.of (by kernel_rfl)
theorem el_7 : Elm Try.prog 7 (.agg #[.int .i64 (0), .int .i64 (0), .bool false, .int .u8 (0)]) 4 24 := Elm.of (by kernel_rfl) rfl (by decide)
theorem bp_7 {fs : Array Field} (h : Try.prog.underlying 7 = some (.struct fs)) : Plc Try.prog fs [(0, 1), (1, 1), (2, 1), (3, 1)] := by
  have e := h.symm.trans Try.underlying7
  injection e with e
  injection e with e
  subst e
  unfold Plc
  intro w
  kernel_rfl
theorem is_8 : (Try.prog.underlying 8).isSome = true := by rw [Try.underlying8]; rfl
theorem sz_8 : Siz Try.prog 8 4 := Siz.of (by kernel_rfl)
theorem zr_8 : Zer Try.prog 8 [.int .i64 (0), .int .i64 (0), .bool false, .int .u8 (0)] := Zer.of (by kernel_rfl)
theorem el_8 : Elm Try.prog 8 (.agg #[.int .i64 (0), .int .i64 (0), .bool false, .int .u8 (0)]) 4 24 := Elm.of (by kernel_rfl) rfl (by decide)
theorem bp_8 {fs : Array Field} (h : Try.prog.underlying 8 = some (.struct fs)) : Plc Try.prog fs [(0, 1), (1, 1), (2, 1), (3, 1)] := by
  have e := h.symm.trans Try.underlying8
  injection e with e
  injection e with e
  subst e
  unfold Plc
  intro w
  kernel_rfl
theorem sc_9 : Scal Try.prog 9 := Scal.of Try.underlying9 rfl
theorem is_9 : (Try.prog.underlying 9).isSome = true := by rw [Try.underlying9]; rfl
theorem sz_9 : Siz Try.prog 9 1 := Siz.of (by kernel_rfl)
theorem zr_9 : Zer Try.prog 9 [.string ⟨#[]⟩] := Zer.of (by kernel_rfl)
theorem el_9 : Elm Try.prog 9 (.string ⟨#[]⟩) 1 16 := Elm.of (by kernel_rfl) rfl (by decide)
theorem sc_10 : Scal Try.prog 10 := Scal.of Try.underlying10 rfl
theorem is_10 : (Try.prog.underlying 10).isSome = true := by rw [Try.underlying10]; rfl
theorem sz_10 : Siz Try.prog 10 1 := Siz.of (by kernel_rfl)
theorem zr_10 : Zer Try.prog 10 [.string ⟨#[]⟩] := Zer.of (by kernel_rfl)
theorem el_10 : Elm Try.prog 10 (.string ⟨#[]⟩) 1 16 := Elm.of (by kernel_rfl) rfl (by decide)
theorem sc_11 : Scal Try.prog 11 := Scal.of Try.underlying11 rfl
theorem is_11 : (Try.prog.underlying 11).isSome = true := by rw [Try.underlying11]; rfl
theorem sz_11 : Siz Try.prog 11 1 := Siz.of (by kernel_rfl)
theorem zr_11 : Zer Try.prog 11 [.string ⟨#[]⟩] := Zer.of (by kernel_rfl)
theorem el_11 : Elm Try.prog 11 (.string ⟨#[]⟩) 1 16 := Elm.of (by kernel_rfl) rfl (by decide)
theorem sc_12 : Scal Try.prog 12 := Scal.of Try.underlying12 rfl
theorem is_12 : (Try.prog.underlying 12).isSome = true := by rw [Try.underlying12]; rfl
theorem sz_12 : Siz Try.prog 12 1 := Siz.of (by kernel_rfl)
theorem zr_12 : Zer Try.prog 12 [.int .u64 (0)] := Zer.of (by kernel_rfl)
theorem el_12 : Elm Try.prog 12 (.int .u64 (0)) 1 8 := Elm.of (by kernel_rfl) rfl (by decide)
theorem is_13 : (Try.prog.underlying 13).isSome = true := by rw [Try.underlying13]; rfl
theorem sz_13 : Siz Try.prog 13 2 := Siz.of (by kernel_rfl)
theorem zr_13 : Zer Try.prog 13 [.string ⟨#[]⟩, .int .u64 (0)] := Zer.of (by kernel_rfl)
theorem el_13 : Elm Try.prog 13 (.agg #[.string ⟨#[]⟩, .int .u64 (0)]) 2 24 := Elm.of (by kernel_rfl) rfl (by decide)
theorem bp_13 {fs : Array Field} (h : Try.prog.underlying 13 = some (.struct fs)) : Plc Try.prog fs [(0, 1), (1, 1)] := by
  have e := h.symm.trans Try.underlying13
  injection e with e
  injection e with e
  subst e
  unfold Plc
  intro w
  kernel_rfl
theorem is_14 : (Try.prog.underlying 14).isSome = true := by rw [Try.underlying14]; rfl
theorem sz_14 : Siz Try.prog 14 2 := Siz.of (by kernel_rfl)
theorem zr_14 : Zer Try.prog 14 [.string ⟨#[]⟩, .int .u64 (0)] := Zer.of (by kernel_rfl)
theorem el_14 : Elm Try.prog 14 (.agg #[.string ⟨#[]⟩, .int .u64 (0)]) 2 24 := Elm.of (by kernel_rfl) rfl (by decide)
theorem bp_14 {fs : Array Field} (h : Try.prog.underlying 14 = some (.struct fs)) : Plc Try.prog fs [(0, 1), (1, 1)] := by
  have e := h.symm.trans Try.underlying14
  injection e with e
  injection e with e
  subst e
  unfold Plc
  intro w
  kernel_rfl
theorem sc_15 : Scal Try.prog 15 := Scal.of Try.underlying15 rfl
theorem is_15 : (Try.prog.underlying 15).isSome = true := by rw [Try.underlying15]; rfl
theorem sz_15 : Siz Try.prog 15 1 := Siz.of (by kernel_rfl)
theorem zr_15 : Zer Try.prog 15 [.pointer none] := Zer.of (by kernel_rfl)
theorem el_15 : Elm Try.prog 15 (.pointer none) 1 8 := Elm.of (by kernel_rfl) rfl (by decide)
theorem sc_16 : Scal Try.prog 16 := Scal.of Try.underlying16 rfl
theorem is_16 : (Try.prog.underlying 16).isSome = true := by rw [Try.underlying16]; rfl
theorem sz_16 : Siz Try.prog 16 1 := Siz.of (by kernel_rfl)
theorem zr_16 : Zer Try.prog 16 [.pointer none] := Zer.of (by kernel_rfl)
theorem el_16 : Elm Try.prog 16 (.pointer none) 1 8 := Elm.of (by kernel_rfl) rfl (by decide)
theorem sc_17 : Scal Try.prog 17 := Scal.of Try.underlying17 rfl
theorem is_17 : (Try.prog.underlying 17).isSome = true := by rw [Try.underlying17]; rfl
theorem sz_17 : Siz Try.prog 17 1 := Siz.of (by kernel_rfl)
theorem zr_17 : Zer Try.prog 17 [.pointer none] := Zer.of (by kernel_rfl)
theorem el_17 : Elm Try.prog 17 (.pointer none) 1 8 := Elm.of (by kernel_rfl) rfl (by decide)
theorem is_18 : (Try.prog.underlying 18).isSome = true := by rw [Try.underlying18]; rfl
theorem sz_18 : Siz Try.prog 18 1 := Siz.of (by kernel_rfl)
theorem zr_18 : Zer Try.prog 18 [.pointer none] := Zer.of (by kernel_rfl)
theorem el_18 : Elm Try.prog 18 (.agg #[.pointer none]) 1 8 := Elm.of (by kernel_rfl) rfl (by decide)
theorem bp_18 {fs : Array Field} (h : Try.prog.underlying 18 = some (.struct fs)) : Plc Try.prog fs [(0, 1)] := by
  have e := h.symm.trans Try.underlying18
  injection e with e
  injection e with e
  subst e
  unfold Plc
  intro w
  kernel_rfl
theorem is_19 : (Try.prog.underlying 19).isSome = true := by rw [Try.underlying19]; rfl
theorem sz_19 : Siz Try.prog 19 1 := Siz.of (by kernel_rfl)
theorem zr_19 : Zer Try.prog 19 [.pointer none] := Zer.of (by kernel_rfl)
theorem el_19 : Elm Try.prog 19 (.agg #[.pointer none]) 1 8 := Elm.of (by kernel_rfl) rfl (by decide)
theorem bp_19 {fs : Array Field} (h : Try.prog.underlying 19 = some (.struct fs)) : Plc Try.prog fs [(0, 1)] := by
  have e := h.symm.trans Try.underlying19
  injection e with e
  injection e with e
  subst e
  unfold Plc
  intro w
  kernel_rfl
theorem sc_21 : Scal Try.prog 21 := Scal.of Try.underlying21 rfl
theorem is_21 : (Try.prog.underlying 21).isSome = true := by rw [Try.underlying21]; rfl
theorem sz_21 : Siz Try.prog 21 1 := Siz.of (by kernel_rfl)
theorem zr_21 : Zer Try.prog 21 [.int .i32 (0)] := Zer.of (by kernel_rfl)
theorem el_21 : Elm Try.prog 21 (.int .i32 (0)) 1 4 := Elm.of (by kernel_rfl) rfl (by decide)
theorem sc_22 : Scal Try.prog 22 := Scal.of Try.underlying22 rfl
theorem is_22 : (Try.prog.underlying 22).isSome = true := by rw [Try.underlying22]; rfl
theorem sz_22 : Siz Try.prog 22 1 := Siz.of (by kernel_rfl)
theorem zr_22 : Zer Try.prog 22 [.slice none 0 0] := Zer.of (by kernel_rfl)
theorem el_22 : Elm Try.prog 22 (.slice none 0 0) 1 24 := Elm.of (by kernel_rfl) rfl (by decide)
theorem sc_23 : Scal Try.prog 23 := Scal.of Try.underlying23 rfl
theorem is_23 : (Try.prog.underlying 23).isSome = true := by rw [Try.underlying23]; rfl
theorem sz_23 : Siz Try.prog 23 1 := Siz.of (by kernel_rfl)
theorem zr_23 : Zer Try.prog 23 [.slice none 0 0] := Zer.of (by kernel_rfl)
theorem el_23 : Elm Try.prog 23 (.slice none 0 0) 1 24 := Elm.of (by kernel_rfl) rfl (by decide)
theorem sc_24 : Scal Try.prog 24 := Scal.of Try.underlying24 rfl
theorem is_24 : (Try.prog.underlying 24).isSome = true := by rw [Try.underlying24]; rfl
theorem sz_24 : Siz Try.prog 24 1 := Siz.of (by kernel_rfl)
theorem zr_24 : Zer Try.prog 24 [.slice none 0 0] := Zer.of (by kernel_rfl)
theorem el_24 : Elm Try.prog 24 (.slice none 0 0) 1 24 := Elm.of (by kernel_rfl) rfl (by decide)
theorem is_25 : (Try.prog.underlying 25).isSome = true := by rw [Try.underlying25]; rfl
theorem sz_25 : Siz Try.prog 25 4 := Siz.of (by kernel_rfl)
theorem zr_25 : Zer Try.prog 25 [.slice none 0 0, .slice none 0 0, .slice none 0 0, .slice none 0 0] := Zer.of (by kernel_rfl)
theorem el_25 : Elm Try.prog 25 (.agg #[.slice none 0 0, .slice none 0 0, .slice none 0 0, .slice none 0 0]) 4 96 := Elm.of (by kernel_rfl) rfl (by decide)
theorem bp_25 {fs : Array Field} (h : Try.prog.underlying 25 = some (.struct fs)) : Plc Try.prog fs [(0, 1), (1, 1), (2, 1), (3, 1)] := by
  have e := h.symm.trans Try.underlying25
  injection e with e
  injection e with e
  subst e
  unfold Plc
  intro w
  kernel_rfl
theorem is_26 : (Try.prog.underlying 26).isSome = true := by rw [Try.underlying26]; rfl
theorem sz_26 : Siz Try.prog 26 4 := Siz.of (by kernel_rfl)
theorem zr_26 : Zer Try.prog 26 [.slice none 0 0, .slice none 0 0, .slice none 0 0, .slice none 0 0] := Zer.of (by kernel_rfl)
theorem el_26 : Elm Try.prog 26 (.agg #[.slice none 0 0, .slice none 0 0, .slice none 0 0, .slice none 0 0]) 4 96 := Elm.of (by kernel_rfl) rfl (by decide)
theorem bp_26 {fs : Array Field} (h : Try.prog.underlying 26 = some (.struct fs)) : Plc Try.prog fs [(0, 1), (1, 1), (2, 1), (3, 1)] := by
  have e := h.symm.trans Try.underlying26
  injection e with e
  injection e with e
  subst e
  unfold Plc
  intro w
  kernel_rfl
theorem sc_27 : Scal Try.prog 27 := Scal.of Try.underlying27 rfl
theorem is_27 : (Try.prog.underlying 27).isSome = true := by rw [Try.underlying27]; rfl
theorem sz_27 : Siz Try.prog 27 1 := Siz.of (by kernel_rfl)
theorem zr_27 : Zer Try.prog 27 [.int .u32 (0)] := Zer.of (by kernel_rfl)
theorem el_27 : Elm Try.prog 27 (.int .u32 (0)) 1 4 := Elm.of (by kernel_rfl) rfl (by decide)
theorem sc_28 : Scal Try.prog 28 := Scal.of Try.underlying28 rfl
theorem is_28 : (Try.prog.underlying 28).isSome = true := by rw [Try.underlying28]; rfl
theorem sz_28 : Siz Try.prog 28 1 := Siz.of (by kernel_rfl)
theorem zr_28 : Zer Try.prog 28 [.slice none 0 0] := Zer.of (by kernel_rfl)
theorem el_28 : Elm Try.prog 28 (.slice none 0 0) 1 24 := Elm.of (by kernel_rfl) rfl (by decide)
theorem sc_31 : Scal Try.prog 31 := Scal.of Try.underlying31 rfl
theorem is_31 : (Try.prog.underlying 31).isSome = true := by rw [Try.underlying31]; rfl
theorem sz_31 : Siz Try.prog 31 1 := Siz.of (by kernel_rfl)
theorem zr_31 : Zer Try.prog 31 [.int .u64 (0)] := Zer.of (by kernel_rfl)
theorem el_31 : Elm Try.prog 31 (.int .u64 (0)) 1 8 := Elm.of (by kernel_rfl) rfl (by decide)
theorem sc_32 : Scal Try.prog 32 := Scal.of Try.underlying32 rfl
theorem is_32 : (Try.prog.underlying 32).isSome = true := by rw [Try.underlying32]; rfl
theorem sz_32 : Siz Try.prog 32 1 := Siz.of (by kernel_rfl)
theorem zr_32 : Zer Try.prog 32 [.int .i64 (0)] := Zer.of (by kernel_rfl)
theorem el_32 : Elm Try.prog 32 (.int .i64 (0)) 1 8 := Elm.of (by kernel_rfl) rfl (by decide)
theorem is_39 : (Try.prog.underlying 39).isSome = true := by rw [Try.underlying39]; rfl
theorem sz_39 : Siz Try.prog 39 2 := Siz.of (by kernel_rfl)
theorem zr_39 : Zer Try.prog 39 [.string ⟨#[]⟩, .int .i64 (0)] := Zer.of (by kernel_rfl)
theorem el_39 : Elm Try.prog 39 (.agg #[.string ⟨#[]⟩, .int .i64 (0)]) 2 24 := Elm.of (by kernel_rfl) rfl (by decide)
theorem bp_39 {fs : Array Field} (h : Try.prog.underlying 39 = some (.struct fs)) : Plc Try.prog fs [(0, 1), (1, 1)] := by
  have e := h.symm.trans Try.underlying39
  injection e with e
  injection e with e
  subst e
  unfold Plc
  intro w
  kernel_rfl
theorem is_40 : (Try.prog.underlying 40).isSome = true := by rw [Try.underlying40]; rfl
theorem sz_40 : Siz Try.prog 40 2 := Siz.of (by kernel_rfl)
theorem zr_40 : Zer Try.prog 40 [.string ⟨#[]⟩, .int .i64 (0)] := Zer.of (by kernel_rfl)
theorem el_40 : Elm Try.prog 40 (.agg #[.string ⟨#[]⟩, .int .i64 (0)]) 2 24 := Elm.of (by kernel_rfl) rfl (by decide)
theorem bp_40 {fs : Array Field} (h : Try.prog.underlying 40 = some (.struct fs)) : Plc Try.prog fs [(0, 1), (1, 1)] := by
  have e := h.symm.trans Try.underlying40
  injection e with e
  injection e with e
  subst e
  unfold Plc
  intro w
  kernel_rfl
theorem is_46 : (Try.prog.underlying 46).isSome = true := by rw [Try.underlying46]; rfl
theorem sz_46 : Siz Try.prog 46 2 := Siz.of (by kernel_rfl)
theorem zr_46 : Zer Try.prog 46 [.slice none 0 0, .slice none 0 0] := Zer.of (by kernel_rfl)
theorem el_46 : Elm Try.prog 46 (.agg #[.slice none 0 0, .slice none 0 0]) 2 48 := Elm.of (by kernel_rfl) rfl (by decide)
theorem is_48 : (Try.prog.underlying 48).isSome = true := by rw [Try.underlying48]; rfl
theorem sz_48 : Siz Try.prog 48 4 := Siz.of (by kernel_rfl)
theorem zr_48 : Zer Try.prog 48 [.int .u32 (0), .int .u32 (0), .int .u64 (0), .int .i64 (0)] := Zer.of (by kernel_rfl)
theorem el_48 : Elm Try.prog 48 (.agg #[.int .u32 (0), .int .u32 (0), .int .u64 (0), .int .i64 (0)]) 4 24 := Elm.of (by kernel_rfl) rfl (by decide)
theorem bp_48 {fs : Array Field} (h : Try.prog.underlying 48 = some (.struct fs)) : Plc Try.prog fs [(0, 1), (1, 1), (2, 1), (3, 1)] := by
  have e := h.symm.trans Try.underlying48
  injection e with e
  injection e with e
  subst e
  unfold Plc
  intro w
  kernel_rfl
theorem is_49 : (Try.prog.underlying 49).isSome = true := by rw [Try.underlying49]; rfl
theorem sz_49 : Siz Try.prog 49 4 := Siz.of (by kernel_rfl)
theorem zr_49 : Zer Try.prog 49 [.int .u32 (0), .int .u32 (0), .int .u64 (0), .int .i64 (0)] := Zer.of (by kernel_rfl)
theorem el_49 : Elm Try.prog 49 (.agg #[.int .u32 (0), .int .u32 (0), .int .u64 (0), .int .i64 (0)]) 4 24 := Elm.of (by kernel_rfl) rfl (by decide)
theorem bp_49 {fs : Array Field} (h : Try.prog.underlying 49 = some (.struct fs)) : Plc Try.prog fs [(0, 1), (1, 1), (2, 1), (3, 1)] := by
  have e := h.symm.trans Try.underlying49
  injection e with e
  injection e with e
  subst e
  unfold Plc
  intro w
  kernel_rfl
theorem is_55 : (Try.prog.underlying 55).isSome = true := by rw [Try.underlying55]; rfl
theorem sz_55 : Siz Try.prog 55 3 := Siz.of (by kernel_rfl)
theorem zr_55 : Zer Try.prog 55 [.int .u32 (0), .int .u32 (0), .int .u32 (0)] := Zer.of (by kernel_rfl)
theorem el_55 : Elm Try.prog 55 (.agg #[.int .u32 (0), .int .u32 (0), .int .u32 (0)]) 3 12 := Elm.of (by kernel_rfl) rfl (by decide)
theorem sc_57 : Scal Try.prog 57 := Scal.of Try.underlying57 rfl
theorem is_57 : (Try.prog.underlying 57).isSome = true := by rw [Try.underlying57]; rfl
theorem sz_57 : Siz Try.prog 57 1 := Siz.of (by kernel_rfl)
theorem zr_57 : Zer Try.prog 57 [.slice none 0 0] := Zer.of (by kernel_rfl)
theorem el_57 : Elm Try.prog 57 (.slice none 0 0) 1 24 := Elm.of (by kernel_rfl) rfl (by decide)
theorem sc_58 : Scal Try.prog 58 := Scal.of Try.underlying58 rfl
theorem is_58 : (Try.prog.underlying 58).isSome = true := by rw [Try.underlying58]; rfl
theorem sz_58 : Siz Try.prog 58 1 := Siz.of (by kernel_rfl)
theorem zr_58 : Zer Try.prog 58 [.slice none 0 0] := Zer.of (by kernel_rfl)
theorem el_58 : Elm Try.prog 58 (.slice none 0 0) 1 24 := Elm.of (by kernel_rfl) rfl (by decide)
theorem sc_59 : Scal Try.prog 59 := Scal.of Try.underlying59 rfl
theorem is_59 : (Try.prog.underlying 59).isSome = true := by rw [Try.underlying59]; rfl
theorem sz_59 : Siz Try.prog 59 1 := Siz.of (by kernel_rfl)
theorem zr_59 : Zer Try.prog 59 [.slice none 0 0] := Zer.of (by kernel_rfl)
theorem el_59 : Elm Try.prog 59 (.slice none 0 0) 1 24 := Elm.of (by kernel_rfl) rfl (by decide)
theorem is_60 : (Try.prog.underlying 60).isSome = true := by rw [Try.underlying60]; rfl
theorem sz_60 : Siz Try.prog 60 5 := Siz.of (by kernel_rfl)
theorem zr_60 : Zer Try.prog 60 [.int .u32 (0), .slice none 0 0, .slice none 0 0, .slice none 0 0, .int .i64 (0)] := Zer.of (by kernel_rfl)
theorem el_60 : Elm Try.prog 60 (.agg #[.int .u32 (0), .slice none 0 0, .slice none 0 0, .slice none 0 0, .int .i64 (0)]) 5 88 := Elm.of (by kernel_rfl) rfl (by decide)
theorem bp_60 {fs : Array Field} (h : Try.prog.underlying 60 = some (.struct fs)) : Plc Try.prog fs [(0, 1), (1, 1), (2, 1), (3, 1), (4, 1)] := by
  have e := h.symm.trans Try.underlying60
  injection e with e
  injection e with e
  subst e
  unfold Plc
  intro w
  kernel_rfl
theorem is_61 : (Try.prog.underlying 61).isSome = true := by rw [Try.underlying61]; rfl
theorem sz_61 : Siz Try.prog 61 5 := Siz.of (by kernel_rfl)
theorem zr_61 : Zer Try.prog 61 [.int .u32 (0), .slice none 0 0, .slice none 0 0, .slice none 0 0, .int .i64 (0)] := Zer.of (by kernel_rfl)
theorem el_61 : Elm Try.prog 61 (.agg #[.int .u32 (0), .slice none 0 0, .slice none 0 0, .slice none 0 0, .int .i64 (0)]) 5 88 := Elm.of (by kernel_rfl) rfl (by decide)
theorem bp_61 {fs : Array Field} (h : Try.prog.underlying 61 = some (.struct fs)) : Plc Try.prog fs [(0, 1), (1, 1), (2, 1), (3, 1), (4, 1)] := by
  have e := h.symm.trans Try.underlying61
  injection e with e
  injection e with e
  subst e
  unfold Plc
  intro w
  kernel_rfl
theorem sc_83 : Scal Try.prog 83 := Scal.of Try.underlying83 rfl
theorem is_83 : (Try.prog.underlying 83).isSome = true := by rw [Try.underlying83]; rfl
theorem sz_83 : Siz Try.prog 83 1 := Siz.of (by kernel_rfl)
theorem zr_83 : Zer Try.prog 83 [.pointer none] := Zer.of (by kernel_rfl)
theorem el_83 : Elm Try.prog 83 (.pointer none) 1 8 := Elm.of (by kernel_rfl) rfl (by decide)
theorem sc_84 : Scal Try.prog 84 := Scal.of Try.underlying84 rfl
theorem is_84 : (Try.prog.underlying 84).isSome = true := by rw [Try.underlying84]; rfl
theorem sz_84 : Siz Try.prog 84 1 := Siz.of (by kernel_rfl)
theorem zr_84 : Zer Try.prog 84 [.slice none 0 0] := Zer.of (by kernel_rfl)
theorem el_84 : Elm Try.prog 84 (.slice none 0 0) 1 24 := Elm.of (by kernel_rfl) rfl (by decide)
theorem is_85 : (Try.prog.underlying 85).isSome = true := by rw [Try.underlying85]; rfl
theorem sz_85 : Siz Try.prog 85 2 := Siz.of (by kernel_rfl)
theorem zr_85 : Zer Try.prog 85 [.slice none 0 0, .slice none 0 0] := Zer.of (by kernel_rfl)
theorem el_85 : Elm Try.prog 85 (.agg #[.slice none 0 0, .slice none 0 0]) 2 48 := Elm.of (by kernel_rfl) rfl (by decide)
theorem bp_85 {fs : Array Field} (h : Try.prog.underlying 85 = some (.struct fs)) : Plc Try.prog fs [(0, 1), (1, 1)] := by
  have e := h.symm.trans Try.underlying85
  injection e with e
  injection e with e
  subst e
  unfold Plc
  intro w
  kernel_rfl
theorem is_86 : (Try.prog.underlying 86).isSome = true := by rw [Try.underlying86]; rfl
theorem sz_86 : Siz Try.prog 86 2 := Siz.of (by kernel_rfl)
theorem zr_86 : Zer Try.prog 86 [.slice none 0 0, .slice none 0 0] := Zer.of (by kernel_rfl)
theorem el_86 : Elm Try.prog 86 (.agg #[.slice none 0 0, .slice none 0 0]) 2 48 := Elm.of (by kernel_rfl) rfl (by decide)
theorem bp_86 {fs : Array Field} (h : Try.prog.underlying 86 = some (.struct fs)) : Plc Try.prog fs [(0, 1), (1, 1)] := by
  have e := h.symm.trans Try.underlying86
  injection e with e
  injection e with e
  subst e
  unfold Plc
  intro w
  kernel_rfl
theorem sc_93 : Scal Try.prog 93 := Scal.of Try.underlying93 rfl
theorem is_93 : (Try.prog.underlying 93).isSome = true := by rw [Try.underlying93]; rfl
theorem sz_93 : Siz Try.prog 93 1 := Siz.of (by kernel_rfl)
theorem zr_93 : Zer Try.prog 93 [.slice none 0 0] := Zer.of (by kernel_rfl)
theorem el_93 : Elm Try.prog 93 (.slice none 0 0) 1 24 := Elm.of (by kernel_rfl) rfl (by decide)
theorem is_96 : (Try.prog.underlying 96).isSome = true := by rw [Try.underlying96]; rfl
theorem sz_96 : Siz Try.prog 96 1 := Siz.of (by kernel_rfl)
theorem zr_96 : Zer Try.prog 96 [.slice none 0 0] := Zer.of (by kernel_rfl)
theorem el_96 : Elm Try.prog 96 (.agg #[.slice none 0 0]) 1 24 := Elm.of (by kernel_rfl) rfl (by decide)
theorem bp_96 {fs : Array Field} (h : Try.prog.underlying 96 = some (.struct fs)) : Plc Try.prog fs [(0, 1)] := by
  have e := h.symm.trans Try.underlying96
  injection e with e
  injection e with e
  subst e
  unfold Plc
  intro w
  kernel_rfl
theorem is_97 : (Try.prog.underlying 97).isSome = true := by rw [Try.underlying97]; rfl
theorem sz_97 : Siz Try.prog 97 1 := Siz.of (by kernel_rfl)
theorem zr_97 : Zer Try.prog 97 [.slice none 0 0] := Zer.of (by kernel_rfl)
theorem el_97 : Elm Try.prog 97 (.agg #[.slice none 0 0]) 1 24 := Elm.of (by kernel_rfl) rfl (by decide)
theorem bp_97 {fs : Array Field} (h : Try.prog.underlying 97 = some (.struct fs)) : Plc Try.prog fs [(0, 1)] := by
  have e := h.symm.trans Try.underlying97
  injection e with e
  injection e with e
  subst e
  unfold Plc
  intro w
  kernel_rfl
theorem is_101 : (Try.prog.underlying 101).isSome = true := by rw [Try.underlying101]; rfl
theorem sz_101 : Siz Try.prog 101 2 := Siz.of (by kernel_rfl)
theorem zr_101 : Zer Try.prog 101 [.int .i64 (0), .slice none 0 0] := Zer.of (by kernel_rfl)
theorem el_101 : Elm Try.prog 101 (.agg #[.int .i64 (0), .slice none 0 0]) 2 32 := Elm.of (by kernel_rfl) rfl (by decide)
theorem bp_101 {fs : Array Field} (h : Try.prog.underlying 101 = some (.struct fs)) : Plc Try.prog fs [(0, 1), (1, 1)] := by
  have e := h.symm.trans Try.underlying101
  injection e with e
  injection e with e
  subst e
  unfold Plc
  intro w
  kernel_rfl
theorem is_102 : (Try.prog.underlying 102).isSome = true := by rw [Try.underlying102]; rfl
theorem sz_102 : Siz Try.prog 102 2 := Siz.of (by kernel_rfl)
theorem zr_102 : Zer Try.prog 102 [.int .i64 (0), .slice none 0 0] := Zer.of (by kernel_rfl)
theorem el_102 : Elm Try.prog 102 (.agg #[.int .i64 (0), .slice none 0 0]) 2 32 := Elm.of (by kernel_rfl) rfl (by decide)
theorem bp_102 {fs : Array Field} (h : Try.prog.underlying 102 = some (.struct fs)) : Plc Try.prog fs [(0, 1), (1, 1)] := by
  have e := h.symm.trans Try.underlying102
  injection e with e
  injection e with e
  subst e
  unfold Plc
  intro w
  kernel_rfl
theorem is_114 : (Try.prog.underlying 114).isSome = true := by rw [Try.underlying114]; rfl
theorem sz_114 : Siz Try.prog 114 2 := Siz.of (by kernel_rfl)
theorem zr_114 : Zer Try.prog 114 [.int .i64 (0), .slice none 0 0] := Zer.of (by kernel_rfl)
theorem el_114 : Elm Try.prog 114 (.agg #[.int .i64 (0), .slice none 0 0]) 2 32 := Elm.of (by kernel_rfl) rfl (by decide)
theorem bp_114 {fs : Array Field} (h : Try.prog.underlying 114 = some (.struct fs)) : Plc Try.prog fs [(0, 1), (1, 1)] := by
  have e := h.symm.trans Try.underlying114
  injection e with e
  injection e with e
  subst e
  unfold Plc
  intro w
  kernel_rfl
theorem is_115 : (Try.prog.underlying 115).isSome = true := by rw [Try.underlying115]; rfl
theorem sz_115 : Siz Try.prog 115 2 := Siz.of (by kernel_rfl)
theorem zr_115 : Zer Try.prog 115 [.int .i64 (0), .slice none 0 0] := Zer.of (by kernel_rfl)
theorem el_115 : Elm Try.prog 115 (.agg #[.int .i64 (0), .slice none 0 0]) 2 32 := Elm.of (by kernel_rfl) rfl (by decide)
theorem bp_115 {fs : Array Field} (h : Try.prog.underlying 115 = some (.struct fs)) : Plc Try.prog fs [(0, 1), (1, 1)] := by
  have e := h.symm.trans Try.underlying115
  injection e with e
  injection e with e
  subst e
  unfold Plc
  intro w
  kernel_rfl
theorem is_116 : (Try.prog.underlying 116).isSome = true := by rw [Try.underlying116]; rfl
theorem sz_116 : Siz Try.prog 116 2 := Siz.of (by kernel_rfl)
theorem zr_116 : Zer Try.prog 116 [.int .i64 (0), .int .i64 (0)] := Zer.of (by kernel_rfl)
theorem el_116 : Elm Try.prog 116 (.agg #[.int .i64 (0), .int .i64 (0)]) 2 16 := Elm.of (by kernel_rfl) rfl (by decide)
theorem bp_116 {fs : Array Field} (h : Try.prog.underlying 116 = some (.struct fs)) : Plc Try.prog fs [(0, 1), (1, 1)] := by
  have e := h.symm.trans Try.underlying116
  injection e with e
  injection e with e
  subst e
  unfold Plc
  intro w
  kernel_rfl
theorem is_117 : (Try.prog.underlying 117).isSome = true := by rw [Try.underlying117]; rfl
theorem sz_117 : Siz Try.prog 117 2 := Siz.of (by kernel_rfl)
theorem zr_117 : Zer Try.prog 117 [.int .i64 (0), .int .i64 (0)] := Zer.of (by kernel_rfl)
theorem el_117 : Elm Try.prog 117 (.agg #[.int .i64 (0), .int .i64 (0)]) 2 16 := Elm.of (by kernel_rfl) rfl (by decide)
theorem bp_117 {fs : Array Field} (h : Try.prog.underlying 117 = some (.struct fs)) : Plc Try.prog fs [(0, 1), (1, 1)] := by
  have e := h.symm.trans Try.underlying117
  injection e with e
  injection e with e
  subst e
  unfold Plc
  intro w
  kernel_rfl
theorem is_123 : (Try.prog.underlying 123).isSome = true := by rw [Try.underlying123]; rfl
theorem sz_123 : Siz Try.prog 123 2 := Siz.of (by kernel_rfl)
theorem zr_123 : Zer Try.prog 123 [.int .i64 (0), .bool false] := Zer.of (by kernel_rfl)
theorem el_123 : Elm Try.prog 123 (.agg #[.int .i64 (0), .bool false]) 2 16 := Elm.of (by kernel_rfl) rfl (by decide)
theorem bp_123 {fs : Array Field} (h : Try.prog.underlying 123 = some (.struct fs)) : Plc Try.prog fs [(0, 1), (1, 1)] := by
  have e := h.symm.trans Try.underlying123
  injection e with e
  injection e with e
  subst e
  unfold Plc
  intro w
  kernel_rfl
theorem is_124 : (Try.prog.underlying 124).isSome = true := by rw [Try.underlying124]; rfl
theorem sz_124 : Siz Try.prog 124 2 := Siz.of (by kernel_rfl)
theorem zr_124 : Zer Try.prog 124 [.int .i64 (0), .bool false] := Zer.of (by kernel_rfl)
theorem el_124 : Elm Try.prog 124 (.agg #[.int .i64 (0), .bool false]) 2 16 := Elm.of (by kernel_rfl) rfl (by decide)
theorem bp_124 {fs : Array Field} (h : Try.prog.underlying 124 = some (.struct fs)) : Plc Try.prog fs [(0, 1), (1, 1)] := by
  have e := h.symm.trans Try.underlying124
  injection e with e
  injection e with e
  subst e
  unfold Plc
  intro w
  kernel_rfl
theorem sc_125 : Scal Try.prog 125 := Scal.of Try.underlying125 rfl
theorem is_125 : (Try.prog.underlying 125).isSome = true := by rw [Try.underlying125]; rfl
theorem sz_125 : Siz Try.prog 125 1 := Siz.of (by kernel_rfl)
theorem zr_125 : Zer Try.prog 125 [.map none] := Zer.of (by kernel_rfl)
theorem el_125 : Elm Try.prog 125 (.map none) 1 8 := Elm.of (by kernel_rfl) rfl (by decide)
theorem sc_130 : Scal Try.prog 130 := Scal.of Try.underlying130 rfl
theorem is_130 : (Try.prog.underlying 130).isSome = true := by rw [Try.underlying130]; rfl
theorem sz_130 : Siz Try.prog 130 1 := Siz.of (by kernel_rfl)
theorem zr_130 : Zer Try.prog 130 [.pointer none] := Zer.of (by kernel_rfl)
theorem el_130 : Elm Try.prog 130 (.pointer none) 1 8 := Elm.of (by kernel_rfl) rfl (by decide)
theorem sc_140 : Scal Try.prog 140 := Scal.of Try.underlying140 rfl
theorem is_140 : (Try.prog.underlying 140).isSome = true := by rw [Try.underlying140]; rfl
theorem sz_140 : Siz Try.prog 140 1 := Siz.of (by kernel_rfl)
theorem zr_140 : Zer Try.prog 140 [.int .u64 (0)] := Zer.of (by kernel_rfl)
theorem el_140 : Elm Try.prog 140 (.int .u64 (0)) 1 8 := Elm.of (by kernel_rfl) rfl (by decide)
theorem sc_150 : Scal Try.prog 150 := Scal.of Try.underlying150 rfl
theorem is_150 : (Try.prog.underlying 150).isSome = true := by rw [Try.underlying150]; rfl
theorem sz_150 : Siz Try.prog 150 1 := Siz.of (by kernel_rfl)
theorem zr_150 : Zer Try.prog 150 [.int .i64 (0)] := Zer.of (by kernel_rfl)
theorem el_150 : Elm Try.prog 150 (.int .i64 (0)) 1 8 := Elm.of (by kernel_rfl) rfl (by decide)
theorem sc_158 : Scal Try.prog 158 := Scal.of Try.underlying158 rfl
theorem is_158 : (Try.prog.underlying 158).isSome = true := by rw [Try.underlying158]; rfl
theorem sz_158 : Siz Try.prog 158 1 := Siz.of (by kernel_rfl)
theorem zr_158 : Zer Try.prog 158 [.map none] := Zer.of (by kernel_rfl)
theorem el_158 : Elm Try.prog 158 (.map none) 1 8 := Elm.of (by kernel_rfl) rfl (by decide)
theorem sc_159 : Scal Try.prog 159 := Scal.of Try.underlying159 rfl
theorem is_159 : (Try.prog.underlying 159).isSome = true := by rw [Try.underlying159]; rfl
theorem sz_159 : Siz Try.prog 159 1 := Siz.of (by kernel_rfl)
theorem zr_159 : Zer Try.prog 159 [.int .u64 (0)] := Zer.of (by kernel_rfl)
theorem el_159 : Elm Try.prog 159 (.int .u64 (0)) 1 8 := Elm.of (by kernel_rfl) rfl (by decide)
theorem sc_163 : Scal Try.prog 163 := Scal.of Try.underlying163 rfl
theorem is_163 : (Try.prog.underlying 163).isSome = true := by rw [Try.underlying163]; rfl
theorem sz_163 : Siz Try.prog 163 1 := Siz.of (by kernel_rfl)
theorem zr_163 : Zer Try.prog 163 [.pointer none] := Zer.of (by kernel_rfl)
theorem el_163 : Elm Try.prog 163 (.pointer none) 1 8 := Elm.of (by kernel_rfl) rfl (by decide)
theorem sc_166 : Scal Try.prog 166 := Scal.of Try.underlying166 rfl
theorem is_166 : (Try.prog.underlying 166).isSome = true := by rw [Try.underlying166]; rfl
theorem sz_166 : Siz Try.prog 166 1 := Siz.of (by kernel_rfl)
theorem zr_166 : Zer Try.prog 166 [.pointer none] := Zer.of (by kernel_rfl)
theorem el_166 : Elm Try.prog 166 (.pointer none) 1 8 := Elm.of (by kernel_rfl) rfl (by decide)
theorem is_170 : (Try.prog.underlying 170).isSome = true := by rw [Try.underlying170]; rfl
theorem sz_170 : Siz Try.prog 170 4 := Siz.of (by kernel_rfl)
theorem zr_170 : Zer Try.prog 170 [.pointer none, .pointer none, .pointer none, .string ⟨#[]⟩] := Zer.of (by kernel_rfl)
theorem el_170 : Elm Try.prog 170 (.agg #[.pointer none, .pointer none, .pointer none, .string ⟨#[]⟩]) 4 40 := Elm.of (by kernel_rfl) rfl (by decide)
theorem bp_170 {fs : Array Field} (h : Try.prog.underlying 170 = some (.struct fs)) : Plc Try.prog fs [(0, 1), (1, 1), (2, 1), (3, 1)] := by
  have e := h.symm.trans Try.underlying170
  injection e with e
  injection e with e
  subst e
  unfold Plc
  intro w
  kernel_rfl
theorem is_171 : (Try.prog.underlying 171).isSome = true := by rw [Try.underlying171]; rfl
theorem sz_171 : Siz Try.prog 171 4 := Siz.of (by kernel_rfl)
theorem zr_171 : Zer Try.prog 171 [.pointer none, .pointer none, .pointer none, .string ⟨#[]⟩] := Zer.of (by kernel_rfl)
theorem el_171 : Elm Try.prog 171 (.agg #[.pointer none, .pointer none, .pointer none, .string ⟨#[]⟩]) 4 40 := Elm.of (by kernel_rfl) rfl (by decide)
theorem bp_171 {fs : Array Field} (h : Try.prog.underlying 171 = some (.struct fs)) : Plc Try.prog fs [(0, 1), (1, 1), (2, 1), (3, 1)] := by
  have e := h.symm.trans Try.underlying171
  injection e with e
  injection e with e
  subst e
  unfold Plc
  intro w
  kernel_rfl
theorem is_172 : (Try.prog.underlying 172).isSome = true := by rw [Try.underlying172]; rfl
theorem is_173 : (Try.prog.underlying 173).isSome = true := by rw [Try.underlying173]; rfl
theorem is_174 : (Try.prog.underlying 174).isSome = true := by rw [Try.underlying174]; rfl
theorem sc_175 : Scal Try.prog 175 := Scal.of Try.underlying175 rfl
theorem is_175 : (Try.prog.underlying 175).isSome = true := by rw [Try.underlying175]; rfl
theorem sz_175 : Siz Try.prog 175 1 := Siz.of (by kernel_rfl)
theorem zr_175 : Zer Try.prog 175 [.int .u8 (0)] := Zer.of (by kernel_rfl)
theorem el_175 : Elm Try.prog 175 (.int .u8 (0)) 1 1 := Elm.of (by kernel_rfl) rfl (by decide)
theorem sc_176 : Scal Try.prog 176 := Scal.of Try.underlying176 rfl
theorem is_176 : (Try.prog.underlying 176).isSome = true := by rw [Try.underlying176]; rfl
theorem sz_176 : Siz Try.prog 176 1 := Siz.of (by kernel_rfl)
theorem zr_176 : Zer Try.prog 176 [.int .u8 (0)] := Zer.of (by kernel_rfl)
theorem el_176 : Elm Try.prog 176 (.int .u8 (0)) 1 1 := Elm.of (by kernel_rfl) rfl (by decide)
theorem sc_178 : Scal Try.prog 178 := Scal.of Try.underlying178 rfl
theorem is_178 : (Try.prog.underlying 178).isSome = true := by rw [Try.underlying178]; rfl
theorem sz_178 : Siz Try.prog 178 1 := Siz.of (by kernel_rfl)
theorem zr_178 : Zer Try.prog 178 [.pointer none] := Zer.of (by kernel_rfl)
theorem el_178 : Elm Try.prog 178 (.pointer none) 1 8 := Elm.of (by kernel_rfl) rfl (by decide)
theorem sc_179 : Scal Try.prog 179 := Scal.of Try.underlying179 rfl
theorem is_179 : (Try.prog.underlying 179).isSome = true := by rw [Try.underlying179]; rfl
theorem sz_179 : Siz Try.prog 179 1 := Siz.of (by kernel_rfl)
theorem zr_179 : Zer Try.prog 179 [.int .i32 (0)] := Zer.of (by kernel_rfl)
theorem el_179 : Elm Try.prog 179 (.int .i32 (0)) 1 4 := Elm.of (by kernel_rfl) rfl (by decide)
theorem sc_180 : Scal Try.prog 180 := Scal.of Try.underlying180 rfl
theorem is_180 : (Try.prog.underlying 180).isSome = true := by rw [Try.underlying180]; rfl
theorem sz_180 : Siz Try.prog 180 1 := Siz.of (by kernel_rfl)
theorem zr_180 : Zer Try.prog 180 [.int .i32 (0)] := Zer.of (by kernel_rfl)
theorem el_180 : Elm Try.prog 180 (.int .i32 (0)) 1 4 := Elm.of (by kernel_rfl) rfl (by decide)
theorem is_181 : (Try.prog.underlying 181).isSome = true := by rw [Try.underlying181]; rfl
theorem sz_181 : Siz Try.prog 181 11 := Siz.of (by kernel_rfl)
theorem zr_181 : Zer Try.prog 181 [.int .u64 (0), .int .u64 (0), .int .u32 (0), .int .u8 (0), .int .u8 (0), .int .u8 (0), .int .u8 (0), .nilFunc, .pointer none, .int .i32 (0), .int .i32 (0)] := Zer.of (by kernel_rfl)
theorem el_181 : Elm Try.prog 181 (.agg #[.int .u64 (0), .int .u64 (0), .int .u32 (0), .int .u8 (0), .int .u8 (0), .int .u8 (0), .int .u8 (0), .nilFunc, .pointer none, .int .i32 (0), .int .i32 (0)]) 11 48 := Elm.of (by kernel_rfl) rfl (by decide)
theorem bp_181 {fs : Array Field} (h : Try.prog.underlying 181 = some (.struct fs)) : Plc Try.prog fs [(0, 1), (1, 1), (2, 1), (3, 1), (4, 1), (5, 1), (6, 1), (7, 1), (8, 1), (9, 1), (10, 1)] := by
  have e := h.symm.trans Try.underlying181
  injection e with e
  injection e with e
  subst e
  unfold Plc
  intro w
  kernel_rfl
theorem is_182 : (Try.prog.underlying 182).isSome = true := by rw [Try.underlying182]; rfl
theorem sz_182 : Siz Try.prog 182 11 := Siz.of (by kernel_rfl)
theorem zr_182 : Zer Try.prog 182 [.int .u64 (0), .int .u64 (0), .int .u32 (0), .int .u8 (0), .int .u8 (0), .int .u8 (0), .int .u8 (0), .nilFunc, .pointer none, .int .i32 (0), .int .i32 (0)] := Zer.of (by kernel_rfl)
theorem el_182 : Elm Try.prog 182 (.agg #[.int .u64 (0), .int .u64 (0), .int .u32 (0), .int .u8 (0), .int .u8 (0), .int .u8 (0), .int .u8 (0), .nilFunc, .pointer none, .int .i32 (0), .int .i32 (0)]) 11 48 := Elm.of (by kernel_rfl) rfl (by decide)
theorem bp_182 {fs : Array Field} (h : Try.prog.underlying 182 = some (.struct fs)) : Plc Try.prog fs [(0, 1), (1, 1), (2, 1), (3, 1), (4, 1), (5, 1), (6, 1), (7, 1), (8, 1), (9, 1), (10, 1)] := by
  have e := h.symm.trans Try.underlying182
  injection e with e
  injection e with e
  subst e
  unfold Plc
  intro w
  kernel_rfl
theorem sc_183 : Scal Try.prog 183 := Scal.of Try.underlying183 rfl
theorem is_183 : (Try.prog.underlying 183).isSome = true := by rw [Try.underlying183]; rfl
theorem sz_183 : Siz Try.prog 183 1 := Siz.of (by kernel_rfl)
theorem zr_183 : Zer Try.prog 183 [.pointer none] := Zer.of (by kernel_rfl)
theorem el_183 : Elm Try.prog 183 (.pointer none) 1 8 := Elm.of (by kernel_rfl) rfl (by decide)
theorem en_2 : Ent Try.prog 2 := by unfold Ent; kernel_rfl
theorem en_3 : Ent Try.prog 3 := by unfold Ent; kernel_rfl
theorem en_4 : Ent Try.prog 4 := by unfold Ent; kernel_rfl
theorem en_5 : Ent Try.prog 5 := by unfold Ent; kernel_rfl
theorem en_6 : Ent Try.prog 6 := by unfold Ent; kernel_rfl
theorem en_7 : Ent Try.prog 7 := by unfold Ent; kernel_rfl
theorem en_8 : Ent Try.prog 8 := by unfold Ent; kernel_rfl
theorem en_9 : Ent Try.prog 9 := by unfold Ent; kernel_rfl
theorem en_10 : Ent Try.prog 10 := by unfold Ent; kernel_rfl
theorem en_11 : Ent Try.prog 11 := by unfold Ent; kernel_rfl
theorem en_12 : Ent Try.prog 12 := by unfold Ent; kernel_rfl
theorem en_13 : Ent Try.prog 13 := by unfold Ent; kernel_rfl
theorem en_14 : Ent Try.prog 14 := by unfold Ent; kernel_rfl
theorem en_15 : Ent Try.prog 15 := by unfold Ent; kernel_rfl
theorem en_16 : Ent Try.prog 16 := by unfold Ent; kernel_rfl
theorem en_17 : Ent Try.prog 17 := by unfold Ent; kernel_rfl
theorem en_18 : Ent Try.prog 18 := by unfold Ent; kernel_rfl
theorem en_19 : Ent Try.prog 19 := by unfold Ent; kernel_rfl
theorem en_20 : Ent Try.prog 20 := by unfold Ent; kernel_rfl
theorem en_21 : Ent Try.prog 21 := by unfold Ent; kernel_rfl
theorem en_22 : Ent Try.prog 22 := by unfold Ent; kernel_rfl
theorem en_23 : Ent Try.prog 23 := by unfold Ent; kernel_rfl
theorem en_24 : Ent Try.prog 24 := by unfold Ent; kernel_rfl
theorem en_25 : Ent Try.prog 25 := by unfold Ent; kernel_rfl
theorem en_26 : Ent Try.prog 26 := by unfold Ent; kernel_rfl
theorem en_27 : Ent Try.prog 27 := by unfold Ent; kernel_rfl
theorem en_28 : Ent Try.prog 28 := by unfold Ent; kernel_rfl
theorem en_29 : Ent Try.prog 29 := by unfold Ent; kernel_rfl
theorem en_30 : Ent Try.prog 30 := by unfold Ent; kernel_rfl
theorem en_31 : Ent Try.prog 31 := by unfold Ent; kernel_rfl
theorem en_32 : Ent Try.prog 32 := by unfold Ent; kernel_rfl
theorem en_33 : Ent Try.prog 33 := by unfold Ent; kernel_rfl
theorem en_34 : Ent Try.prog 34 := by unfold Ent; kernel_rfl
theorem en_35 : Ent Try.prog 35 := by unfold Ent; kernel_rfl
theorem en_36 : Ent Try.prog 36 := by unfold Ent; kernel_rfl
theorem en_37 : Ent Try.prog 37 := by unfold Ent; kernel_rfl
theorem en_38 : Ent Try.prog 38 := by unfold Ent; kernel_rfl
theorem en_39 : Ent Try.prog 39 := by unfold Ent; kernel_rfl
theorem en_40 : Ent Try.prog 40 := by unfold Ent; kernel_rfl
theorem en_41 : Ent Try.prog 41 := by unfold Ent; kernel_rfl
theorem en_42 : Ent Try.prog 42 := by unfold Ent; kernel_rfl
theorem en_43 : Ent Try.prog 43 := by unfold Ent; kernel_rfl
theorem en_44 : Ent Try.prog 44 := by unfold Ent; kernel_rfl
theorem en_45 : Ent Try.prog 45 := by unfold Ent; kernel_rfl
theorem en_46 : Ent Try.prog 46 := by unfold Ent; kernel_rfl
theorem en_47 : Ent Try.prog 47 := by unfold Ent; kernel_rfl
theorem en_48 : Ent Try.prog 48 := by unfold Ent; kernel_rfl
theorem en_49 : Ent Try.prog 49 := by unfold Ent; kernel_rfl
theorem en_50 : Ent Try.prog 50 := by unfold Ent; kernel_rfl
theorem en_51 : Ent Try.prog 51 := by unfold Ent; kernel_rfl
theorem en_52 : Ent Try.prog 52 := by unfold Ent; kernel_rfl
theorem en_53 : Ent Try.prog 53 := by unfold Ent; kernel_rfl
theorem en_54 : Ent Try.prog 54 := by unfold Ent; kernel_rfl
theorem en_55 : Ent Try.prog 55 := by unfold Ent; kernel_rfl
theorem en_56 : Ent Try.prog 56 := by unfold Ent; kernel_rfl
theorem en_57 : Ent Try.prog 57 := by unfold Ent; kernel_rfl
theorem en_58 : Ent Try.prog 58 := by unfold Ent; kernel_rfl
theorem en_59 : Ent Try.prog 59 := by unfold Ent; kernel_rfl
theorem en_60 : Ent Try.prog 60 := by unfold Ent; kernel_rfl
theorem en_61 : Ent Try.prog 61 := by unfold Ent; kernel_rfl
theorem en_62 : Ent Try.prog 62 := by unfold Ent; kernel_rfl
theorem en_63 : Ent Try.prog 63 := by unfold Ent; kernel_rfl
theorem en_64 : Ent Try.prog 64 := by unfold Ent; kernel_rfl
theorem en_65 : Ent Try.prog 65 := by unfold Ent; kernel_rfl
theorem en_66 : Ent Try.prog 66 := by unfold Ent; kernel_rfl
theorem en_67 : Ent Try.prog 67 := by unfold Ent; kernel_rfl
theorem en_68 : Ent Try.prog 68 := by unfold Ent; kernel_rfl
theorem en_69 : Ent Try.prog 69 := by unfold Ent; kernel_rfl
theorem en_70 : Ent Try.prog 70 := by unfold Ent; kernel_rfl
theorem en_71 : Ent Try.prog 71 := by unfold Ent; kernel_rfl
theorem en_72 : Ent Try.prog 72 := by unfold Ent; kernel_rfl
theorem en_73 : Ent Try.prog 73 := by unfold Ent; kernel_rfl
theorem en_74 : Ent Try.prog 74 := by unfold Ent; kernel_rfl
theorem en_75 : Ent Try.prog 75 := by unfold Ent; kernel_rfl
theorem en_76 : Ent Try.prog 76 := by unfold Ent; kernel_rfl
theorem en_77 : Ent Try.prog 77 := by unfold Ent; kernel_rfl
theorem en_78 : Ent Try.prog 78 := by unfold Ent; kernel_rfl
theorem en_79 : Ent Try.prog 79 := by unfold Ent; kernel_rfl
theorem en_80 : Ent Try.prog 80 := by unfold Ent; kernel_rfl
theorem en_81 : Ent Try.prog 81 := by unfold Ent; kernel_rfl
theorem en_82 : Ent Try.prog 82 := by unfold Ent; kernel_rfl
theorem en_83 : Ent Try.prog 83 := by unfold Ent; kernel_rfl
theorem en_84 : Ent Try.prog 84 := by unfold Ent; kernel_rfl
theorem en_85 : Ent Try.prog 85 := by unfold Ent; kernel_rfl
theorem en_86 : Ent Try.prog 86 := by unfold Ent; kernel_rfl
theorem en_87 : Ent Try.prog 87 := by unfold Ent; kernel_rfl
theorem en_88 : Ent Try.prog 88 := by unfold Ent; kernel_rfl
theorem en_89 : Ent Try.prog 89 := by unfold Ent; kernel_rfl
theorem en_90 : Ent Try.prog 90 := by unfold Ent; kernel_rfl
theorem en_91 : Ent Try.prog 91 := by unfold Ent; kernel_rfl
theorem en_92 : Ent Try.prog 92 := by unfold Ent; kernel_rfl
theorem en_93 : Ent Try.prog 93 := by unfold Ent; kernel_rfl
theorem en_94 : Ent Try.prog 94 := by unfold Ent; kernel_rfl
theorem en_95 : Ent Try.prog 95 := by unfold Ent; kernel_rfl
theorem en_96 : Ent Try.prog 96 := by unfold Ent; kernel_rfl
theorem en_97 : Ent Try.prog 97 := by unfold Ent; kernel_rfl
theorem en_98 : Ent Try.prog 98 := by unfold Ent; kernel_rfl
theorem en_99 : Ent Try.prog 99 := by unfold Ent; kernel_rfl
theorem en_100 : Ent Try.prog 100 := by unfold Ent; kernel_rfl
theorem en_101 : Ent Try.prog 101 := by unfold Ent; kernel_rfl
theorem en_102 : Ent Try.prog 102 := by unfold Ent; kernel_rfl
theorem en_103 : Ent Try.prog 103 := by unfold Ent; kernel_rfl
theorem en_104 : Ent Try.prog 104 := by unfold Ent; kernel_rfl
theorem en_105 : Ent Try.prog 105 := by unfold Ent; kernel_rfl
theorem en_106 : Ent Try.prog 106 := by unfold Ent; kernel_rfl
theorem en_107 : Ent Try.prog 107 := by unfold Ent; kernel_rfl
theorem en_108 : Ent Try.prog 108 := by unfold Ent; kernel_rfl
theorem en_109 : Ent Try.prog 109 := by unfold Ent; kernel_rfl
theorem en_110 : Ent Try.prog 110 := by unfold Ent; kernel_rfl
theorem en_111 : Ent Try.prog 111 := by unfold Ent; kernel_rfl
theorem en_112 : Ent Try.prog 112 := by unfold Ent; kernel_rfl
theorem en_113 : Ent Try.prog 113 := by unfold Ent; kernel_rfl
theorem en_114 : Ent Try.prog 114 := by unfold Ent; kernel_rfl
theorem en_115 : Ent Try.prog 115 := by unfold Ent; kernel_rfl
theorem en_116 : Ent Try.prog 116 := by unfold Ent; kernel_rfl
theorem en_117 : Ent Try.prog 117 := by unfold Ent; kernel_rfl
theorem en_118 : Ent Try.prog 118 := by unfold Ent; kernel_rfl
theorem en_119 : Ent Try.prog 119 := by unfold Ent; kernel_rfl
theorem en_120 : Ent Try.prog 120 := by unfold Ent; kernel_rfl
theorem en_137 : Ent Try.prog 137 := by unfold Ent; kernel_rfl
theorem en_138 : Ent Try.prog 138 := by unfold Ent; kernel_rfl
theorem en_139 : Ent Try.prog 139 := by unfold Ent; kernel_rfl
theorem en_140 : Ent Try.prog 140 := by unfold Ent; kernel_rfl
theorem en_141 : Ent Try.prog 141 := by unfold Ent; kernel_rfl
end Go.Proofs.Ytmiieppcoknmfaa.H
