/-
  Facts on the types and functions of this seat, for the logic of YtkipdkkpifnboaaHoa.
-/
import Derived.Test.YtkipdkkpifnboaaHoaF
namespace Go.Proofs.Ytkipdkkpifnboaa.H
open Go.RowKit Go.Proofs.Ytkipdkkpifnboaa
theorem mixed : Try.prog.follows .mixedOrders = true := by kernel_rfl
theorem sc_2 : Scal Try.prog 2 := Scal.of Try.underlying2 rfl
theorem is_2 : (Try.prog.underlying 2).isSome = true := by rw [Try.underlying2]; rfl
theorem sz_2 : Siz Try.prog 2 1 := Siz.of (by kernel_rfl)
theorem zr_2 : Zer Try.prog 2 [.int .i64 (0)] := Zer.of (by kernel_rfl)
theorem el_2 : Elm Try.prog 2 (.int .i64 (0)) 1 8 := Elm.of (by kernel_rfl) rfl (by decide)
theorem sc_3 : Scal Try.prog 3 := Scal.of Try.underlying3 rfl
theorem is_3 : (Try.prog.underlying 3).isSome = true := by rw [Try.underlying3]; rfl
theorem sz_3 : Siz Try.prog 3 1 := Siz.of (by kernel_rfl)
theorem zr_3 : Zer Try.prog 3 [.int .i64 (0)] := Zer.of (by kernel_rfl)
theorem el_3 : Elm Try.prog 3 (.int .i64 (0)) 1 8 := Elm.of (by kernel_rfl) rfl (by decide)
theorem sc_4 : Scal Try.prog 4 := Scal.of Try.underlying4 rfl
theorem is_4 : (Try.prog.underlying 4).isSome = true := by rw [Try.underlying4]; rfl
theorem sz_4 : Siz Try.prog 4 1 := Siz.of (by kernel_rfl)
theorem zr_4 : Zer Try.prog 4 [.bool false] := Zer.of (by kernel_rfl)
theorem el_4 : Elm Try.prog 4 (.bool false) 1 1 := Elm.of (by kernel_rfl) rfl (by decide)
theorem sc_5 : Scal Try.prog 5 := Scal.of Try.underlying5 rfl
theorem is_5 : (Try.prog.underlying 5).isSome = true := by rw [Try.underlying5]; rfl
theorem sz_5 : Siz Try.prog 5 1 := Siz.of (by kernel_rfl)
theorem zr_5 : Zer Try.prog 5 [.int .u8 (0)] := Zer.of (by kernel_rfl)
theorem el_5 : Elm Try.prog 5 (.int .u8 (0)) 1 1 := Elm.of (by kernel_rfl) rfl (by decide)
theorem sc_6 : Scal Try.prog 6 := Scal.of Try.underlying6 rfl
theorem is_6 : (Try.prog.underlying 6).isSome = true := by rw [Try.underlying6]; rfl
theorem sz_6 : Siz Try.prog 6 1 := Siz.of (by kernel_rfl)
theorem zr_6 : Zer Try.prog 6 [.int .u8 (0)] := Zer.of (by kernel_rfl)
theorem el_6 : Elm Try.prog 6 (.int .u8 (0)) 1 1 := Elm.of (by kernel_rfl) rfl (by decide)
theorem is_7 : (Try.prog.underlying 7).isSome = true := by rw [Try.underlying7]; rfl
theorem sz_7 : Siz Try.prog 7 4 := Siz.of (by kernel_rfl)
theorem zr_7 : Zer Try.prog 7 [.int .i64 (0), .int .i64 (0), .bool false, .int .u8 (0)] := Zer.of (by kernel_rfl)
theorem el_7 : Elm Try.prog 7 (.agg #[.int .i64 (0), .int .i64 (0), .bool false, .int .u8 (0)]) 4 24 := Elm.of (by kernel_rfl) rfl (by decide)
theorem bp_7 {fs : Array Field} (h : Try.prog.underlying 7 = some (.struct fs)) : Plc Try.prog fs [(0, 1), (1, 1), (2, 1), (3, 1)] := by
  have e := h.symm.trans Try.underlying7
  injection e with e
  injection e with e
  subst e
  unfold Plc
  intro w
  kernel_rfl
theorem is_8 : (Try.prog.underlying 8).isSome = true := by rw [Try.underlying8]; rfl
theorem sz_8 : Siz Try.prog 8 4 := Siz.of (by kernel_rfl)
theorem zr_8 : Zer Try.prog 8 [.int .i64 (0), .int .i64 (0), .bool false, .int .u8 (0)] := Zer.of (by kernel_rfl)
theorem el_8 : Elm Try.prog 8 (.agg #[.int .i64 (0), .int .i64 (0), .bool false, .int .u8 (0)]) 4 24 := Elm.of (by kernel_rfl) rfl (by decide)
theorem bp_8 {fs : Array Field} (h : Try.prog.underlying 8 = some (.struct fs)) : Plc Try.prog fs [(0, 1), (1, 1), (2, 1), (3, 1)] := by
  have e := h.symm.trans Try.underlying8
  injection e with e
  injection e with e
  subst e
  unfold Plc
  intro w
  kernel_rfl
theorem sc_9 : Scal Try.prog 9 := Scal.of Try.underlying9 rfl
theorem is_9 : (Try.prog.underlying 9).isSome = true := by rw [Try.underlying9]; rfl
theorem sz_9 : Siz Try.prog 9 1 := Siz.of (by kernel_rfl)
theorem zr_9 : Zer Try.prog 9 [.string ⟨#[]⟩] := Zer.of (by kernel_rfl)
theorem el_9 : Elm Try.prog 9 (.string ⟨#[]⟩) 1 16 := Elm.of (by kernel_rfl) rfl (by decide)
theorem sc_10 : Scal Try.prog 10 := Scal.of Try.underlying10 rfl
theorem is_10 : (Try.prog.underlying 10).isSome = true := by rw [Try.underlying10]; rfl
theorem sz_10 : Siz Try.prog 10 1 := Siz.of (by kernel_rfl)
theorem zr_10 : Zer Try.prog 10 [.string ⟨#[]⟩] := Zer.of (by kernel_rfl)
theorem el_10 : Elm Try.prog 10 (.string ⟨#[]⟩) 1 16 := Elm.of (by kernel_rfl) rfl (by decide)
theorem sc_11 : Scal Try.prog 11 := Scal.of Try.underlying11 rfl
theorem is_11 : (Try.prog.underlying 11).isSome = true := by rw [Try.underlying11]; rfl
theorem sz_11 : Siz Try.prog 11 1 := Siz.of (by kernel_rfl)
theorem zr_11 : Zer Try.prog 11 [.string ⟨#[]⟩] := Zer.of (by kernel_rfl)
theorem el_11 : Elm Try.prog 11 (.string ⟨#[]⟩) 1 16 := Elm.of (by kernel_rfl) rfl (by decide)
theorem sc_12 : Scal Try.prog 12 := Scal.of Try.underlying12 rfl
theorem is_12 : (Try.prog.underlying 12).isSome = true := by rw [Try.underlying12]; rfl
theorem sz_12 : Siz Try.prog 12 1 := Siz.of (by kernel_rfl)
theorem zr_12 : Zer Try.prog 12 [.int .u64 (0)] := Zer.of (by kernel_rfl)
theorem el_12 : Elm Try.prog 12 (.int .u64 (0)) 1 8 := Elm.of (by kernel_rfl) rfl (by decide)
theorem is_13 : (Try.prog.underlying 13).isSome = true := by rw [Try.underlying13]; rfl
theorem sz_13 : Siz Try.prog 13 2 := Siz.of (by kernel_rfl)
theorem zr_13 : Zer Try.prog 13 [.string ⟨#[]⟩, .int .u64 (0)] := Zer.of (by kernel_rfl)
theorem el_13 : Elm Try.prog 13 (.agg #[.string ⟨#[]⟩, .int .u64 (0)]) 2 24 := Elm.of (by kernel_rfl) rfl (by decide)
theorem bp_13 {fs : Array Field} (h : Try.prog.underlying 13 = some (.struct fs)) : Plc Try.prog fs [(0, 1), (1, 1)] := by
  have e := h.symm.trans Try.underlying13
  injection e with e
  injection e with e
  subst e
  unfold Plc
  intro w
  kernel_rfl
theorem is_14 : (Try.prog.underlying 14).isSome = true := by rw [Try.underlying14]; rfl
theorem sz_14 : Siz Try.prog 14 2 := Siz.of (by kernel_rfl)
theorem zr_14 : Zer Try.prog 14 [.string ⟨#[]⟩, .int .u64 (0)] := Zer.of (by kernel_rfl)
theorem el_14 : Elm Try.prog 14 (.agg #[.string ⟨#[]⟩, .int .u64 (0)]) 2 24 := Elm.of (by kernel_rfl) rfl (by decide)
theorem bp_14 {fs : Array Field} (h : Try.prog.underlying 14 = some (.struct fs)) : Plc Try.prog fs [(0, 1), (1, 1)] := by
  have e := h.symm.trans Try.underlying14
  injection e with e
  injection e with e
  subst e
  unfold Plc
  intro w
  kernel_rfl
theorem sc_15 : Scal Try.prog 15 := Scal.of Try.underlying15 rfl
theorem is_15 : (Try.prog.underlying 15).isSome = true := by rw [Try.underlying15]; rfl
theorem sz_15 : Siz Try.prog 15 1 := Siz.of (by kernel_rfl)
theorem zr_15 : Zer Try.prog 15 [.pointer none] := Zer.of (by kernel_rfl)
theorem el_15 : Elm Try.prog 15 (.pointer none) 1 8 := Elm.of (by kernel_rfl) rfl (by decide)
theorem sc_16 : Scal Try.prog 16 := Scal.of Try.underlying16 rfl
theorem is_16 : (Try.prog.underlying 16).isSome = true := by rw [Try.underlying16]; rfl
theorem sz_16 : Siz Try.prog 16 1 := Siz.of (by kernel_rfl)
theorem zr_16 : Zer Try.prog 16 [.pointer none] := Zer.of (by kernel_rfl)
theorem el_16 : Elm Try.prog 16 (.pointer none) 1 8 := Elm.of (by kernel_rfl) rfl (by decide)
theorem sc_17 : Scal Try.prog 17 := Scal.of Try.underlying17 rfl
theorem is_17 : (Try.prog.underlying 17).isSome = true := by rw [Try.underlying17]; rfl
theorem sz_17 : Siz Try.prog 17 1 := Siz.of (by kernel_rfl)
theorem zr_17 : Zer Try.prog 17 [.pointer none] := Zer.of (by kernel_rfl)
theorem el_17 : Elm Try.prog 17 (.pointer none) 1 8 := Elm.of (by kernel_rfl) rfl (by decide)
theorem is_18 : (Try.prog.underlying 18).isSome = true := by rw [Try.underlying18]; rfl
theorem sz_18 : Siz Try.prog 18 1 := Siz.of (by kernel_rfl)
theorem zr_18 : Zer Try.prog 18 [.pointer none] := Zer.of (by kernel_rfl)
theorem el_18 : Elm Try.prog 18 (.agg #[.pointer none]) 1 8 := Elm.of (by kernel_rfl) rfl (by decide)
theorem bp_18 {fs : Array Field} (h : Try.prog.underlying 18 = some (.struct fs)) : Plc Try.prog fs [(0, 1)] := by
  have e := h.symm.trans Try.underlying18
  injection e with e
  injection e with e
  subst e
  unfold Plc
  intro w
  kernel_rfl
theorem is_19 : (Try.prog.underlying 19).isSome = true := by rw [Try.underlying19]; rfl
theorem sz_19 : Siz Try.prog 19 1 := Siz.of (by kernel_rfl)
theorem zr_19 : Zer Try.prog 19 [.pointer none] := Zer.of (by kernel_rfl)
theorem el_19 : Elm Try.prog 19 (.agg #[.pointer none]) 1 8 := Elm.of (by kernel_rfl) rfl (by decide)
theorem bp_19 {fs : Array Field} (h : Try.prog.underlying 19 = some (.struct fs)) : Plc Try.prog fs [(0, 1)] := by
  have e := h.symm.trans Try.underlying19
  injection e with e
  injection e with e
  subst e
  unfold Plc
  intro w
  kernel_rfl
theorem sc_21 : Scal Try.prog 21 := Scal.of Try.underlying21 rfl
theorem is_21 : (Try.prog.underlying 21).isSome = true := by rw [Try.underlying21]; rfl
theorem sz_21 : Siz Try.prog 21 1 := Siz.of (by kernel_rfl)
theorem zr_21 : Zer Try.prog 21 [.int .i32 (0)] := Zer.of (by kernel_rfl)
theorem el_21 : Elm Try.prog 21 (.int .i32 (0)) 1 4 := Elm.of (by kernel_rfl) rfl (by decide)
theorem sc_22 : Scal Try.prog 22 := Scal.of Try.underlying22 rfl
theorem is_22 : (Try.prog.underlying 22).isSome = true := by rw [Try.underlying22]; rfl
theorem sz_22 : Siz Try.prog 22 1 := Siz.of (by kernel_rfl)
theorem zr_22 : Zer Try.prog 22 [.slice none 0 0] := Zer.of (by kernel_rfl)
theorem el_22 : Elm Try.prog 22 (.slice none 0 0) 1 24 := Elm.of (by kernel_rfl) rfl (by decide)
theorem sc_23 : Scal Try.prog 23 := Scal.of Try.underlying23 rfl
theorem is_23 : (Try.prog.underlying 23).isSome = true := by rw [Try.underlying23]; rfl
theorem sz_23 : Siz Try.prog 23 1 := Siz.of (by kernel_rfl)
theorem zr_23 : Zer Try.prog 23 [.slice none 0 0] := Zer.of (by kernel_rfl)
theorem el_23 : Elm Try.prog 23 (.slice none 0 0) 1 24 := Elm.of (by kernel_rfl) rfl (by decide)
theorem sc_25 : Scal Try.prog 25 := Scal.of Try.underlying25 rfl
theorem is_25 : (Try.prog.underlying 25).isSome = true := by rw [Try.underlying25]; rfl
theorem sz_25 : Siz Try.prog 25 1 := Siz.of (by kernel_rfl)
theorem zr_25 : Zer Try.prog 25 [.int .i64 (0)] := Zer.of (by kernel_rfl)
theorem el_25 : Elm Try.prog 25 (.int .i64 (0)) 1 8 := Elm.of (by kernel_rfl) rfl (by decide)
theorem sc_29 : Scal Try.prog 29 := Scal.of Try.underlying29 rfl
theorem is_29 : (Try.prog.underlying 29).isSome = true := by rw [Try.underlying29]; rfl
theorem sz_29 : Siz Try.prog 29 1 := Siz.of (by kernel_rfl)
theorem zr_29 : Zer Try.prog 29 [.int .u32 (0)] := Zer.of (by kernel_rfl)
theorem el_29 : Elm Try.prog 29 (.int .u32 (0)) 1 4 := Elm.of (by kernel_rfl) rfl (by decide)
theorem is_37 : (Try.prog.underlying 37).isSome = true := by rw [Try.underlying37]; rfl
theorem sz_37 : Siz Try.prog 37 3 := Siz.of (by kernel_rfl)
theorem zr_37 : Zer Try.prog 37 [.int .u32 (0), .int .u32 (0), .int .u32 (0)] := Zer.of (by kernel_rfl)
theorem el_37 : Elm Try.prog 37 (.agg #[.int .u32 (0), .int .u32 (0), .int .u32 (0)]) 3 12 := Elm.of (by kernel_rfl) rfl (by decide)
theorem sc_39 : Scal Try.prog 39 := Scal.of Try.underlying39 rfl
theorem is_39 : (Try.prog.underlying 39).isSome = true := by rw [Try.underlying39]; rfl
theorem sz_39 : Siz Try.prog 39 1 := Siz.of (by kernel_rfl)
theorem zr_39 : Zer Try.prog 39 [.slice none 0 0] := Zer.of (by kernel_rfl)
theorem el_39 : Elm Try.prog 39 (.slice none 0 0) 1 24 := Elm.of (by kernel_rfl) rfl (by decide)
theorem sc_40 : Scal Try.prog 40 := Scal.of Try.underlying40 rfl
theorem is_40 : (Try.prog.underlying 40).isSome = true := by rw [Try.underlying40]; rfl
theorem sz_40 : Siz Try.prog 40 1 := Siz.of (by kernel_rfl)
theorem zr_40 : Zer Try.prog 40 [.slice none 0 0] := Zer.of (by kernel_rfl)
theorem el_40 : Elm Try.prog 40 (.slice none 0 0) 1 24 := Elm.of (by kernel_rfl) rfl (by decide)
theorem is_41 : (Try.prog.underlying 41).isSome = true := by rw [Try.underlying41]; rfl
theorem sz_41 : Siz Try.prog 41 4 := Siz.of (by kernel_rfl)
theorem zr_41 : Zer Try.prog 41 [.slice none 0 0, .slice none 0 0, .slice none 0 0, .slice none 0 0] := Zer.of (by kernel_rfl)
theorem el_41 : Elm Try.prog 41 (.agg #[.slice none 0 0, .slice none 0 0, .slice none 0 0, .slice none 0 0]) 4 96 := Elm.of (by kernel_rfl) rfl (by decide)
theorem bp_41 {fs : Array Field} (h : Try.prog.underlying 41 = some (.struct fs)) : Plc Try.prog fs [(0, 1), (1, 1), (2, 1), (3, 1)] := by
  have e := h.symm.trans Try.underlying41
  injection e with e
  injection e with e
  subst e
  unfold Plc
  intro w
  kernel_rfl
theorem is_42 : (Try.prog.underlying 42).isSome = true := by rw [Try.underlying42]; rfl
theorem sz_42 : Siz Try.prog 42 4 := Siz.of (by kernel_rfl)
theorem zr_42 : Zer Try.prog 42 [.slice none 0 0, .slice none 0 0, .slice none 0 0, .slice none 0 0] := Zer.of (by kernel_rfl)
theorem el_42 : Elm Try.prog 42 (.agg #[.slice none 0 0, .slice none 0 0, .slice none 0 0, .slice none 0 0]) 4 96 := Elm.of (by kernel_rfl) rfl (by decide)
theorem bp_42 {fs : Array Field} (h : Try.prog.underlying 42 = some (.struct fs)) : Plc Try.prog fs [(0, 1), (1, 1), (2, 1), (3, 1)] := by
  have e := h.symm.trans Try.underlying42
  injection e with e
  injection e with e
  subst e
  unfold Plc
  intro w
  kernel_rfl
theorem sc_44 : Scal Try.prog 44 := Scal.of Try.underlying44 rfl
theorem is_44 : (Try.prog.underlying 44).isSome = true := by rw [Try.underlying44]; rfl
theorem sz_44 : Siz Try.prog 44 1 := Siz.of (by kernel_rfl)
theorem zr_44 : Zer Try.prog 44 [.int .u64 (0)] := Zer.of (by kernel_rfl)
theorem el_44 : Elm Try.prog 44 (.int .u64 (0)) 1 8 := Elm.of (by kernel_rfl) rfl (by decide)
theorem sc_54 : Scal Try.prog 54 := Scal.of Try.underlying54 rfl
theorem is_54 : (Try.prog.underlying 54).isSome = true := by rw [Try.underlying54]; rfl
theorem sz_54 : Siz Try.prog 54 1 := Siz.of (by kernel_rfl)
theorem zr_54 : Zer Try.prog 54 [.slice none 0 0] := Zer.of (by kernel_rfl)
theorem el_54 : Elm Try.prog 54 (.slice none 0 0) 1 24 := Elm.of (by kernel_rfl) rfl (by decide)
theorem sc_56 : Scal Try.prog 56 := Scal.of Try.underlying56 rfl
theorem is_56 : (Try.prog.underlying 56).isSome = true := by rw [Try.underlying56]; rfl
theorem sz_56 : Siz Try.prog 56 1 := Siz.of (by kernel_rfl)
theorem zr_56 : Zer Try.prog 56 [.slice none 0 0] := Zer.of (by kernel_rfl)
theorem el_56 : Elm Try.prog 56 (.slice none 0 0) 1 24 := Elm.of (by kernel_rfl) rfl (by decide)
theorem sc_61 : Scal Try.prog 61 := Scal.of Try.underlying61 rfl
theorem is_61 : (Try.prog.underlying 61).isSome = true := by rw [Try.underlying61]; rfl
theorem sz_61 : Siz Try.prog 61 1 := Siz.of (by kernel_rfl)
theorem zr_61 : Zer Try.prog 61 [.slice none 0 0] := Zer.of (by kernel_rfl)
theorem el_61 : Elm Try.prog 61 (.slice none 0 0) 1 24 := Elm.of (by kernel_rfl) rfl (by decide)
theorem sc_62 : Scal Try.prog 62 := Scal.of Try.underlying62 rfl
theorem is_62 : (Try.prog.underlying 62).isSome = true := by rw [Try.underlying62]; rfl
theorem sz_62 : Siz Try.prog 62 1 := Siz.of (by kernel_rfl)
theorem zr_62 : Zer Try.prog 62 [.slice none 0 0] := Zer.of (by kernel_rfl)
theorem el_62 : Elm Try.prog 62 (.slice none 0 0) 1 24 := Elm.of (by kernel_rfl) rfl (by decide)
theorem sc_64 : Scal Try.prog 64 := Scal.of Try.underlying64 rfl
theorem is_64 : (Try.prog.underlying 64).isSome = true := by rw [Try.underlying64]; rfl
theorem sz_64 : Siz Try.prog 64 1 := Siz.of (by kernel_rfl)
theorem zr_64 : Zer Try.prog 64 [.pointer none] := Zer.of (by kernel_rfl)
theorem el_64 : Elm Try.prog 64 (.pointer none) 1 8 := Elm.of (by kernel_rfl) rfl (by decide)
theorem sc_67 : Scal Try.prog 67 := Scal.of Try.underlying67 rfl
theorem is_67 : (Try.prog.underlying 67).isSome = true := by rw [Try.underlying67]; rfl
theorem sz_67 : Siz Try.prog 67 1 := Siz.of (by kernel_rfl)
theorem zr_67 : Zer Try.prog 67 [.slice none 0 0] := Zer.of (by kernel_rfl)
theorem el_67 : Elm Try.prog 67 (.slice none 0 0) 1 24 := Elm.of (by kernel_rfl) rfl (by decide)
theorem is_70 : (Try.prog.underlying 70).isSome = true := by rw [Try.underlying70]; rfl
theorem sz_70 : Siz Try.prog 70 5 := Siz.of (by kernel_rfl)
theorem zr_70 : Zer Try.prog 70 [.int .i64 (0), .int .i64 (0), .slice none 0 0, .bool false, .slice none 0 0] := Zer.of (by kernel_rfl)
theorem el_70 : Elm Try.prog 70 (.agg #[.int .i64 (0), .int .i64 (0), .slice none 0 0, .bool false, .slice none 0 0]) 5 72 := Elm.of (by kernel_rfl) rfl (by decide)
theorem bp_70 {fs : Array Field} (h : Try.prog.underlying 70 = some (.struct fs)) : Plc Try.prog fs [(0, 1), (1, 1), (2, 1), (3, 1), (4, 1)] := by
  have e := h.symm.trans Try.underlying70
  injection e with e
  injection e with e
  subst e
  unfold Plc
  intro w
  kernel_rfl
theorem is_71 : (Try.prog.underlying 71).isSome = true := by rw [Try.underlying71]; rfl
theorem sz_71 : Siz Try.prog 71 5 := Siz.of (by kernel_rfl)
theorem zr_71 : Zer Try.prog 71 [.int .i64 (0), .int .i64 (0), .slice none 0 0, .bool false, .slice none 0 0] := Zer.of (by kernel_rfl)
theorem el_71 : Elm Try.prog 71 (.agg #[.int .i64 (0), .int .i64 (0), .slice none 0 0, .bool false, .slice none 0 0]) 5 72 := Elm.of (by kernel_rfl) rfl (by decide)
theorem bp_71 {fs : Array Field} (h : Try.prog.underlying 71 = some (.struct fs)) : Plc Try.prog fs [(0, 1), (1, 1), (2, 1), (3, 1), (4, 1)] := by
  have e := h.symm.trans Try.underlying71
  injection e with e
  injection e with e
  subst e
  unfold Plc
  intro w
  kernel_rfl
theorem sc_81 : Scal Try.prog 81 := Scal.of Try.underlying81 rfl
theorem is_81 : (Try.prog.underlying 81).isSome = true := by rw [Try.underlying81]; rfl
theorem sz_81 : Siz Try.prog 81 1 := Siz.of (by kernel_rfl)
theorem zr_81 : Zer Try.prog 81 [.slice none 0 0] := Zer.of (by kernel_rfl)
theorem el_81 : Elm Try.prog 81 (.slice none 0 0) 1 24 := Elm.of (by kernel_rfl) rfl (by decide)
theorem sc_82 : Scal Try.prog 82 := Scal.of Try.underlying82 rfl
theorem is_82 : (Try.prog.underlying 82).isSome = true := by rw [Try.underlying82]; rfl
theorem sz_82 : Siz Try.prog 82 1 := Siz.of (by kernel_rfl)
theorem zr_82 : Zer Try.prog 82 [.slice none 0 0] := Zer.of (by kernel_rfl)
theorem el_82 : Elm Try.prog 82 (.slice none 0 0) 1 24 := Elm.of (by kernel_rfl) rfl (by decide)
theorem is_83 : (Try.prog.underlying 83).isSome = true := by rw [Try.underlying83]; rfl
theorem sz_83 : Siz Try.prog 83 7 := Siz.of (by kernel_rfl)
theorem zr_83 : Zer Try.prog 83 [.slice none 0 0, .slice none 0 0, .bool false, .int .i64 (0), .int .i64 (0), .int .i64 (0), .int .i64 (0)] := Zer.of (by kernel_rfl)
theorem el_83 : Elm Try.prog 83 (.agg #[.slice none 0 0, .slice none 0 0, .bool false, .int .i64 (0), .int .i64 (0), .int .i64 (0), .int .i64 (0)]) 7 88 := Elm.of (by kernel_rfl) rfl (by decide)
theorem bp_83 {fs : Array Field} (h : Try.prog.underlying 83 = some (.struct fs)) : Plc Try.prog fs [(0, 1), (1, 1), (2, 1), (3, 1), (4, 1), (5, 1), (6, 1)] := by
  have e := h.symm.trans Try.underlying83
  injection e with e
  injection e with e
  subst e
  unfold Plc
  intro w
  kernel_rfl
theorem is_84 : (Try.prog.underlying 84).isSome = true := by rw [Try.underlying84]; rfl
theorem sz_84 : Siz Try.prog 84 7 := Siz.of (by kernel_rfl)
theorem zr_84 : Zer Try.prog 84 [.slice none 0 0, .slice none 0 0, .bool false, .int .i64 (0), .int .i64 (0), .int .i64 (0), .int .i64 (0)] := Zer.of (by kernel_rfl)
theorem el_84 : Elm Try.prog 84 (.agg #[.slice none 0 0, .slice none 0 0, .bool false, .int .i64 (0), .int .i64 (0), .int .i64 (0), .int .i64 (0)]) 7 88 := Elm.of (by kernel_rfl) rfl (by decide)
theorem bp_84 {fs : Array Field} (h : Try.prog.underlying 84 = some (.struct fs)) : Plc Try.prog fs [(0, 1), (1, 1), (2, 1), (3, 1), (4, 1), (5, 1), (6, 1)] := by
  have e := h.symm.trans Try.underlying84
  injection e with e
  injection e with e
  subst e
  unfold Plc
  intro w
  kernel_rfl
theorem sc_92 : Scal Try.prog 92 := Scal.of Try.underlying92 rfl
theorem is_92 : (Try.prog.underlying 92).isSome = true := by rw [Try.underlying92]; rfl
theorem sz_92 : Siz Try.prog 92 1 := Siz.of (by kernel_rfl)
theorem zr_92 : Zer Try.prog 92 [.pointer none] := Zer.of (by kernel_rfl)
theorem el_92 : Elm Try.prog 92 (.pointer none) 1 8 := Elm.of (by kernel_rfl) rfl (by decide)
theorem is_100 : (Try.prog.underlying 100).isSome = true := by rw [Try.underlying100]; rfl
theorem sz_100 : Siz Try.prog 100 2 := Siz.of (by kernel_rfl)
theorem zr_100 : Zer Try.prog 100 [.bool false, .int .i64 (0)] := Zer.of (by kernel_rfl)
theorem el_100 : Elm Try.prog 100 (.agg #[.bool false, .int .i64 (0)]) 2 16 := Elm.of (by kernel_rfl) rfl (by decide)
theorem bp_100 {fs : Array Field} (h : Try.prog.underlying 100 = some (.struct fs)) : Plc Try.prog fs [(0, 1), (1, 1)] := by
  have e := h.symm.trans Try.underlying100
  injection e with e
  injection e with e
  subst e
  unfold Plc
  intro w
  kernel_rfl
theorem is_101 : (Try.prog.underlying 101).isSome = true := by rw [Try.underlying101]; rfl
theorem sz_101 : Siz Try.prog 101 2 := Siz.of (by kernel_rfl)
theorem zr_101 : Zer Try.prog 101 [.bool false, .int .i64 (0)] := Zer.of (by kernel_rfl)
theorem el_101 : Elm Try.prog 101 (.agg #[.bool false, .int .i64 (0)]) 2 16 := Elm.of (by kernel_rfl) rfl (by decide)
theorem bp_101 {fs : Array Field} (h : Try.prog.underlying 101 = some (.struct fs)) : Plc Try.prog fs [(0, 1), (1, 1)] := by
  have e := h.symm.trans Try.underlying101
  injection e with e
  injection e with e
  subst e
  unfold Plc
  intro w
  kernel_rfl
theorem sc_102 : Scal Try.prog 102 := Scal.of Try.underlying102 rfl
theorem is_102 : (Try.prog.underlying 102).isSome = true := by rw [Try.underlying102]; rfl
theorem sz_102 : Siz Try.prog 102 1 := Siz.of (by kernel_rfl)
theorem zr_102 : Zer Try.prog 102 [.slice none 0 0] := Zer.of (by kernel_rfl)
theorem el_102 : Elm Try.prog 102 (.slice none 0 0) 1 24 := Elm.of (by kernel_rfl) rfl (by decide)
theorem is_103 : (Try.prog.underlying 103).isSome = true := by rw [Try.underlying103]; rfl
theorem sz_103 : Siz Try.prog 103 8 := Siz.of (by kernel_rfl)
theorem zr_103 : Zer Try.prog 103 [.bool false, .int .i64 (0), .bool false, .slice none 0 0, .slice none 0 0, .int .i64 (0), .int .i64 (0), .int .i64 (0)] := Zer.of (by kernel_rfl)
theorem el_103 : Elm Try.prog 103 (.agg #[.bool false, .int .i64 (0), .bool false, .slice none 0 0, .slice none 0 0, .int .i64 (0), .int .i64 (0), .int .i64 (0)]) 8 96 := Elm.of (by kernel_rfl) rfl (by decide)
theorem bp_103 {fs : Array Field} (h : Try.prog.underlying 103 = some (.struct fs)) : Plc Try.prog fs [(0, 2), (2, 1), (3, 1), (4, 1), (5, 1), (6, 1), (7, 1)] := by
  have e := h.symm.trans Try.underlying103
  injection e with e
  injection e with e
  subst e
  unfold Plc
  intro w
  kernel_rfl
theorem is_104 : (Try.prog.underlying 104).isSome = true := by rw [Try.underlying104]; rfl
theorem sz_104 : Siz Try.prog 104 8 := Siz.of (by kernel_rfl)
theorem zr_104 : Zer Try.prog 104 [.bool false, .int .i64 (0), .bool false, .slice none 0 0, .slice none 0 0, .int .i64 (0), .int .i64 (0), .int .i64 (0)] := Zer.of (by kernel_rfl)
theorem el_104 : Elm Try.prog 104 (.agg #[.bool false, .int .i64 (0), .bool false, .slice none 0 0, .slice none 0 0, .int .i64 (0), .int .i64 (0), .int .i64 (0)]) 8 96 := Elm.of (by kernel_rfl) rfl (by decide)
theorem bp_104 {fs : Array Field} (h : Try.prog.underlying 104 = some (.struct fs)) : Plc Try.prog fs [(0, 2), (2, 1), (3, 1), (4, 1), (5, 1), (6, 1), (7, 1)] := by
  have e := h.symm.trans Try.underlying104
  injection e with e
  injection e with e
  subst e
  unfold Plc
  intro w
  kernel_rfl
theorem is_113 : (Try.prog.underlying 113).isSome = true := by rw [Try.underlying113]; rfl
theorem sz_113 : Siz Try.prog 113 2 := Siz.of (by kernel_rfl)
theorem zr_113 : Zer Try.prog 113 [.string ⟨#[]⟩, .int .i64 (0)] := Zer.of (by kernel_rfl)
theorem el_113 : Elm Try.prog 113 (.agg #[.string ⟨#[]⟩, .int .i64 (0)]) 2 24 := Elm.of (by kernel_rfl) rfl (by decide)
theorem bp_113 {fs : Array Field} (h : Try.prog.underlying 113 = some (.struct fs)) : Plc Try.prog fs [(0, 1), (1, 1)] := by
  have e := h.symm.trans Try.underlying113
  injection e with e
  injection e with e
  subst e
  unfold Plc
  intro w
  kernel_rfl
theorem is_114 : (Try.prog.underlying 114).isSome = true := by rw [Try.underlying114]; rfl
theorem sz_114 : Siz Try.prog 114 2 := Siz.of (by kernel_rfl)
theorem zr_114 : Zer Try.prog 114 [.string ⟨#[]⟩, .int .i64 (0)] := Zer.of (by kernel_rfl)
theorem el_114 : Elm Try.prog 114 (.agg #[.string ⟨#[]⟩, .int .i64 (0)]) 2 24 := Elm.of (by kernel_rfl) rfl (by decide)
theorem bp_114 {fs : Array Field} (h : Try.prog.underlying 114 = some (.struct fs)) : Plc Try.prog fs [(0, 1), (1, 1)] := by
  have e := h.symm.trans Try.underlying114
  injection e with e
  injection e with e
  subst e
  unfold Plc
  intro w
  kernel_rfl
theorem sc_118 : Scal Try.prog 118 := Scal.of Try.underlying118 rfl
theorem is_118 : (Try.prog.underlying 118).isSome = true := by rw [Try.underlying118]; rfl
theorem sz_118 : Siz Try.prog 118 1 := Siz.of (by kernel_rfl)
theorem zr_118 : Zer Try.prog 118 [.slice none 0 0] := Zer.of (by kernel_rfl)
theorem el_118 : Elm Try.prog 118 (.slice none 0 0) 1 24 := Elm.of (by kernel_rfl) rfl (by decide)
theorem is_119 : (Try.prog.underlying 119).isSome = true := by rw [Try.underlying119]; rfl
theorem sz_119 : Siz Try.prog 119 2 := Siz.of (by kernel_rfl)
theorem zr_119 : Zer Try.prog 119 [.slice none 0 0, .slice none 0 0] := Zer.of (by kernel_rfl)
theorem el_119 : Elm Try.prog 119 (.agg #[.slice none 0 0, .slice none 0 0]) 2 48 := Elm.of (by kernel_rfl) rfl (by decide)
theorem bp_119 {fs : Array Field} (h : Try.prog.underlying 119 = some (.struct fs)) : Plc Try.prog fs [(0, 1), (1, 1)] := by
  have e := h.symm.trans Try.underlying119
  injection e with e
  injection e with e
  subst e
  unfold Plc
  intro w
  kernel_rfl
theorem is_120 : (Try.prog.underlying 120).isSome = true := by rw [Try.underlying120]; rfl
theorem sz_120 : Siz Try.prog 120 2 := Siz.of (by kernel_rfl)
theorem zr_120 : Zer Try.prog 120 [.slice none 0 0, .slice none 0 0] := Zer.of (by kernel_rfl)
theorem el_120 : Elm Try.prog 120 (.agg #[.slice none 0 0, .slice none 0 0]) 2 48 := Elm.of (by kernel_rfl) rfl (by decide)
theorem bp_120 {fs : Array Field} (h : Try.prog.underlying 120 = some (.struct fs)) : Plc Try.prog fs [(0, 1), (1, 1)] := by
  have e := h.symm.trans Try.underlying120
  injection e with e
  injection e with e
  subst e
  unfold Plc
  intro w
  kernel_rfl
theorem sc_121 : Scal Try.prog 121 := Scal.of Try.underlying121 rfl
theorem is_121 : (Try.prog.underlying 121).isSome = true := by rw [Try.underlying121]; rfl
theorem sz_121 : Siz Try.prog 121 1 := Siz.of (by kernel_rfl)
theorem zr_121 : Zer Try.prog 121 [.slice none 0 0] := Zer.of (by kernel_rfl)
theorem el_121 : Elm Try.prog 121 (.slice none 0 0) 1 24 := Elm.of (by kernel_rfl) rfl (by decide)
theorem sc_122 : Scal Try.prog 122 := Scal.of Try.underlying122 rfl
theorem is_122 : (Try.prog.underlying 122).isSome = true := by rw [Try.underlying122]; rfl
theorem sz_122 : Siz Try.prog 122 1 := Siz.of (by kernel_rfl)
theorem zr_122 : Zer Try.prog 122 [.slice none 0 0] := Zer.of (by kernel_rfl)
theorem el_122 : Elm Try.prog 122 (.slice none 0 0) 1 24 := Elm.of (by kernel_rfl) rfl (by decide)
theorem is_123 : (Try.prog.underlying 123).isSome = true := by rw [Try.underlying123]; rfl
theorem sz_123 : Siz Try.prog 123 4 := Siz.of (by kernel_rfl)
theorem zr_123 : Zer Try.prog 123 [.int .u64 (0), .int .i64 (0), .slice none 0 0, .slice none 0 0] := Zer.of (by kernel_rfl)
theorem el_123 : Elm Try.prog 123 (.agg #[.int .u64 (0), .int .i64 (0), .slice none 0 0, .slice none 0 0]) 4 64 := Elm.of (by kernel_rfl) rfl (by decide)
theorem bp_123 {fs : Array Field} (h : Try.prog.underlying 123 = some (.struct fs)) : Plc Try.prog fs [(0, 1), (1, 1), (2, 1), (3, 1)] := by
  have e := h.symm.trans Try.underlying123
  injection e with e
  injection e with e
  subst e
  unfold Plc
  intro w
  kernel_rfl
theorem is_124 : (Try.prog.underlying 124).isSome = true := by rw [Try.underlying124]; rfl
theorem sz_124 : Siz Try.prog 124 4 := Siz.of (by kernel_rfl)
theorem zr_124 : Zer Try.prog 124 [.int .u64 (0), .int .i64 (0), .slice none 0 0, .slice none 0 0] := Zer.of (by kernel_rfl)
theorem el_124 : Elm Try.prog 124 (.agg #[.int .u64 (0), .int .i64 (0), .slice none 0 0, .slice none 0 0]) 4 64 := Elm.of (by kernel_rfl) rfl (by decide)
theorem bp_124 {fs : Array Field} (h : Try.prog.underlying 124 = some (.struct fs)) : Plc Try.prog fs [(0, 1), (1, 1), (2, 1), (3, 1)] := by
  have e := h.symm.trans Try.underlying124
  injection e with e
  injection e with e
  subst e
  unfold Plc
  intro w
  kernel_rfl
theorem sc_125 : Scal Try.prog 125 := Scal.of Try.underlying125 rfl
theorem is_125 : (Try.prog.underlying 125).isSome = true := by rw [Try.underlying125]; rfl
theorem sz_125 : Siz Try.prog 125 1 := Siz.of (by kernel_rfl)
theorem zr_125 : Zer Try.prog 125 [.slice none 0 0] := Zer.of (by kernel_rfl)
theorem el_125 : Elm Try.prog 125 (.slice none 0 0) 1 24 := Elm.of (by kernel_rfl) rfl (by decide)
theorem sc_126 : Scal Try.prog 126 := Scal.of Try.underlying126 rfl
theorem is_126 : (Try.prog.underlying 126).isSome = true := by rw [Try.underlying126]; rfl
theorem sz_126 : Siz Try.prog 126 1 := Siz.of (by kernel_rfl)
theorem zr_126 : Zer Try.prog 126 [.slice none 0 0] := Zer.of (by kernel_rfl)
theorem el_126 : Elm Try.prog 126 (.slice none 0 0) 1 24 := Elm.of (by kernel_rfl) rfl (by decide)
theorem is_129 : (Try.prog.underlying 129).isSome = true := by rw [Try.underlying129]; rfl
theorem sz_129 : Siz Try.prog 129 2 := Siz.of (by kernel_rfl)
theorem zr_129 : Zer Try.prog 129 [.int .u64 (0), .int .i64 (0)] := Zer.of (by kernel_rfl)
theorem el_129 : Elm Try.prog 129 (.agg #[.int .u64 (0), .int .i64 (0)]) 2 16 := Elm.of (by kernel_rfl) rfl (by decide)
theorem bp_129 {fs : Array Field} (h : Try.prog.underlying 129 = some (.struct fs)) : Plc Try.prog fs [(0, 1), (1, 1)] := by
  have e := h.symm.trans Try.underlying129
  injection e with e
  injection e with e
  subst e
  unfold Plc
  intro w
  kernel_rfl
theorem is_130 : (Try.prog.underlying 130).isSome = true := by rw [Try.underlying130]; rfl
theorem sz_130 : Siz Try.prog 130 2 := Siz.of (by kernel_rfl)
theorem zr_130 : Zer Try.prog 130 [.int .u64 (0), .int .i64 (0)] := Zer.of (by kernel_rfl)
theorem el_130 : Elm Try.prog 130 (.agg #[.int .u64 (0), .int .i64 (0)]) 2 16 := Elm.of (by kernel_rfl) rfl (by decide)
theorem bp_130 {fs : Array Field} (h : Try.prog.underlying 130 = some (.struct fs)) : Plc Try.prog fs [(0, 1), (1, 1)] := by
  have e := h.symm.trans Try.underlying130
  injection e with e
  injection e with e
  subst e
  unfold Plc
  intro w
  kernel_rfl
theorem is_136 : (Try.prog.underlying 136).isSome = true := by rw [Try.underlying136]; rfl
theorem sz_136 : Siz Try.prog 136 2 := Siz.of (by kernel_rfl)
theorem zr_136 : Zer Try.prog 136 [.int .i64 (0), .slice none 0 0] := Zer.of (by kernel_rfl)
theorem el_136 : Elm Try.prog 136 (.agg #[.int .i64 (0), .slice none 0 0]) 2 32 := Elm.of (by kernel_rfl) rfl (by decide)
theorem bp_136 {fs : Array Field} (h : Try.prog.underlying 136 = some (.struct fs)) : Plc Try.prog fs [(0, 1), (1, 1)] := by
  have e := h.symm.trans Try.underlying136
  injection e with e
  injection e with e
  subst e
  unfold Plc
  intro w
  kernel_rfl
theorem is_137 : (Try.prog.underlying 137).isSome = true := by rw [Try.underlying137]; rfl
theorem sz_137 : Siz Try.prog 137 2 := Siz.of (by kernel_rfl)
theorem zr_137 : Zer Try.prog 137 [.int .i64 (0), .slice none 0 0] := Zer.of (by kernel_rfl)
theorem el_137 : Elm Try.prog 137 (.agg #[.int .i64 (0), .slice none 0 0]) 2 32 := Elm.of (by kernel_rfl) rfl (by decide)
theorem bp_137 {fs : Array Field} (h : Try.prog.underlying 137 = some (.struct fs)) : Plc Try.prog fs [(0, 1), (1, 1)] := by
  have e := h.symm.trans Try.underlying137
  injection e with e
  injection e with e
  subst e
  unfold Plc
  intro w
  kernel_rfl
theorem sc_140 : Scal Try.prog 140 := Scal.of Try.underlying140 rfl
theorem is_140 : (Try.prog.underlying 140).isSome = true := by rw [Try.underlying140]; rfl
theorem sz_140 : Siz Try.prog 140 1 := Siz.of (by kernel_rfl)
theorem zr_140 : Zer Try.prog 140 [.slice none 0 0] := Zer.of (by kernel_rfl)
theorem el_140 : Elm Try.prog 140 (.slice none 0 0) 1 24 := Elm.of (by kernel_rfl) rfl (by decide)
theorem sc_142 : Scal Try.prog 142 := Scal.of Try.underlying142 rfl
theorem is_142 : (Try.prog.underlying 142).isSome = true := by rw [Try.underlying142]; rfl
theorem sz_142 : Siz Try.prog 142 1 := Siz.of (by kernel_rfl)
theorem zr_142 : Zer Try.prog 142 [.map none] := Zer.of (by kernel_rfl)
theorem el_142 : Elm Try.prog 142 (.map none) 1 8 := Elm.of (by kernel_rfl) rfl (by decide)
theorem sc_149 : Scal Try.prog 149 := Scal.of Try.underlying149 rfl
theorem is_149 : (Try.prog.underlying 149).isSome = true := by rw [Try.underlying149]; rfl
theorem sz_149 : Siz Try.prog 149 1 := Siz.of (by kernel_rfl)
theorem zr_149 : Zer Try.prog 149 [.slice none 0 0] := Zer.of (by kernel_rfl)
theorem el_149 : Elm Try.prog 149 (.slice none 0 0) 1 24 := Elm.of (by kernel_rfl) rfl (by decide)
theorem is_150 : (Try.prog.underlying 150).isSome = true := by rw [Try.underlying150]; rfl
theorem sz_150 : Siz Try.prog 150 2 := Siz.of (by kernel_rfl)
theorem zr_150 : Zer Try.prog 150 [.slice none 0 0, .slice none 0 0] := Zer.of (by kernel_rfl)
theorem el_150 : Elm Try.prog 150 (.agg #[.slice none 0 0, .slice none 0 0]) 2 48 := Elm.of (by kernel_rfl) rfl (by decide)
theorem bp_150 {fs : Array Field} (h : Try.prog.underlying 150 = some (.struct fs)) : Plc Try.prog fs [(0, 1), (1, 1)] := by
  have e := h.symm.trans Try.underlying150
  injection e with e
  injection e with e
  subst e
  unfold Plc
  intro w
  kernel_rfl
theorem is_151 : (Try.prog.underlying 151).isSome = true := by rw [Try.underlying151]; rfl
theorem sz_151 : Siz Try.prog 151 2 := Siz.of (by kernel_rfl)
theorem zr_151 : Zer Try.prog 151 [.slice none 0 0, .slice none 0 0] := Zer.of (by kernel_rfl)
theorem el_151 : Elm Try.prog 151 (.agg #[.slice none 0 0, .slice none 0 0]) 2 48 := Elm.of (by kernel_rfl) rfl (by decide)
theorem bp_151 {fs : Array Field} (h : Try.prog.underlying 151 = some (.struct fs)) : Plc Try.prog fs [(0, 1), (1, 1)] := by
  have e := h.symm.trans Try.underlying151
  injection e with e
  injection e with e
  subst e
  unfold Plc
  intro w
  kernel_rfl
theorem sc_153 : Scal Try.prog 153 := Scal.of Try.underlying153 rfl
theorem is_153 : (Try.prog.underlying 153).isSome = true := by rw [Try.underlying153]; rfl
theorem sz_153 : Siz Try.prog 153 1 := Siz.of (by kernel_rfl)
theorem zr_153 : Zer Try.prog 153 [.pointer none] := Zer.of (by kernel_rfl)
theorem el_153 : Elm Try.prog 153 (.pointer none) 1 8 := Elm.of (by kernel_rfl) rfl (by decide)
theorem sc_161 : Scal Try.prog 161 := Scal.of Try.underlying161 rfl
theorem is_161 : (Try.prog.underlying 161).isSome = true := by rw [Try.underlying161]; rfl
theorem sz_161 : Siz Try.prog 161 1 := Siz.of (by kernel_rfl)
theorem zr_161 : Zer Try.prog 161 [.float .f64 0] := Zer.of (by kernel_rfl)
theorem el_161 : Elm Try.prog 161 (.float .f64 0) 1 8 := Elm.of (by kernel_rfl) rfl (by decide)
theorem is_162 : (Try.prog.underlying 162).isSome = true := by rw [Try.underlying162]; rfl
theorem sz_162 : Siz Try.prog 162 3 := Siz.of (by kernel_rfl)
theorem zr_162 : Zer Try.prog 162 [.bool false, .int .i64 (0), .float .f64 0] := Zer.of (by kernel_rfl)
theorem el_162 : Elm Try.prog 162 (.agg #[.bool false, .int .i64 (0), .float .f64 0]) 3 24 := Elm.of (by kernel_rfl) rfl (by decide)
theorem bp_162 {fs : Array Field} (h : Try.prog.underlying 162 = some (.struct fs)) : Plc Try.prog fs [(0, 1), (1, 1), (2, 1)] := by
  have e := h.symm.trans Try.underlying162
  injection e with e
  injection e with e
  subst e
  unfold Plc
  intro w
  kernel_rfl
theorem is_163 : (Try.prog.underlying 163).isSome = true := by rw [Try.underlying163]; rfl
theorem sz_163 : Siz Try.prog 163 3 := Siz.of (by kernel_rfl)
theorem zr_163 : Zer Try.prog 163 [.bool false, .int .i64 (0), .float .f64 0] := Zer.of (by kernel_rfl)
theorem el_163 : Elm Try.prog 163 (.agg #[.bool false, .int .i64 (0), .float .f64 0]) 3 24 := Elm.of (by kernel_rfl) rfl (by decide)
theorem bp_163 {fs : Array Field} (h : Try.prog.underlying 163 = some (.struct fs)) : Plc Try.prog fs [(0, 1), (1, 1), (2, 1)] := by
  have e := h.symm.trans Try.underlying163
  injection e with e
  injection e with e
  subst e
  unfold Plc
  intro w
  kernel_rfl
theorem sc_165 : Scal Try.prog 165 := Scal.of Try.underlying165 rfl
theorem is_165 : (Try.prog.underlying 165).isSome = true := by rw [Try.underlying165]; rfl
theorem sz_165 : Siz Try.prog 165 1 := Siz.of (by kernel_rfl)
theorem zr_165 : Zer Try.prog 165 [.pointer none] := Zer.of (by kernel_rfl)
theorem el_165 : Elm Try.prog 165 (.pointer none) 1 8 := Elm.of (by kernel_rfl) rfl (by decide)
theorem sc_166 : Scal Try.prog 166 := Scal.of Try.underlying166 rfl
theorem is_166 : (Try.prog.underlying 166).isSome = true := by rw [Try.underlying166]; rfl
theorem sz_166 : Siz Try.prog 166 1 := Siz.of (by kernel_rfl)
theorem zr_166 : Zer Try.prog 166 [.map none] := Zer.of (by kernel_rfl)
theorem el_166 : Elm Try.prog 166 (.map none) 1 8 := Elm.of (by kernel_rfl) rfl (by decide)
theorem is_167 : (Try.prog.underlying 167).isSome = true := by rw [Try.underlying167]; rfl
theorem sz_167 : Siz Try.prog 167 2 := Siz.of (by kernel_rfl)
theorem zr_167 : Zer Try.prog 167 [.string ⟨#[]⟩, .int .i64 (0)] := Zer.of (by kernel_rfl)
theorem el_167 : Elm Try.prog 167 (.agg #[.string ⟨#[]⟩, .int .i64 (0)]) 2 24 := Elm.of (by kernel_rfl) rfl (by decide)
theorem bp_167 {fs : Array Field} (h : Try.prog.underlying 167 = some (.struct fs)) : Plc Try.prog fs [(0, 1), (1, 1)] := by
  have e := h.symm.trans Try.underlying167
  injection e with e
  injection e with e
  subst e
  unfold Plc
  intro w
  kernel_rfl
theorem is_168 : (Try.prog.underlying 168).isSome = true := by rw [Try.underlying168]; rfl
theorem sz_168 : Siz Try.prog 168 2 := Siz.of (by kernel_rfl)
theorem zr_168 : Zer Try.prog 168 [.string ⟨#[]⟩, .int .i64 (0)] := Zer.of (by kernel_rfl)
theorem el_168 : Elm Try.prog 168 (.agg #[.string ⟨#[]⟩, .int .i64 (0)]) 2 24 := Elm.of (by kernel_rfl) rfl (by decide)
theorem bp_168 {fs : Array Field} (h : Try.prog.underlying 168 = some (.struct fs)) : Plc Try.prog fs [(0, 1), (1, 1)] := by
  have e := h.symm.trans Try.underlying168
  injection e with e
  injection e with e
  subst e
  unfold Plc
  intro w
  kernel_rfl
theorem is_172 : (Try.prog.underlying 172).isSome = true := by rw [Try.underlying172]; rfl
theorem sz_172 : Siz Try.prog 172 2 := Siz.of (by kernel_rfl)
theorem zr_172 : Zer Try.prog 172 [.int .i64 (0), .slice none 0 0] := Zer.of (by kernel_rfl)
theorem el_172 : Elm Try.prog 172 (.agg #[.int .i64 (0), .slice none 0 0]) 2 32 := Elm.of (by kernel_rfl) rfl (by decide)
theorem bp_172 {fs : Array Field} (h : Try.prog.underlying 172 = some (.struct fs)) : Plc Try.prog fs [(0, 1), (1, 1)] := by
  have e := h.symm.trans Try.underlying172
  injection e with e
  injection e with e
  subst e
  unfold Plc
  intro w
  kernel_rfl
theorem is_173 : (Try.prog.underlying 173).isSome = true := by rw [Try.underlying173]; rfl
theorem sz_173 : Siz Try.prog 173 2 := Siz.of (by kernel_rfl)
theorem zr_173 : Zer Try.prog 173 [.int .i64 (0), .slice none 0 0] := Zer.of (by kernel_rfl)
theorem el_173 : Elm Try.prog 173 (.agg #[.int .i64 (0), .slice none 0 0]) 2 32 := Elm.of (by kernel_rfl) rfl (by decide)
theorem bp_173 {fs : Array Field} (h : Try.prog.underlying 173 = some (.struct fs)) : Plc Try.prog fs [(0, 1), (1, 1)] := by
  have e := h.symm.trans Try.underlying173
  injection e with e
  injection e with e
  subst e
  unfold Plc
  intro w
  kernel_rfl
theorem is_184 : (Try.prog.underlying 184).isSome = true := by rw [Try.underlying184]; rfl
theorem sz_184 : Siz Try.prog 184 5 := Siz.of (by kernel_rfl)
theorem zr_184 : Zer Try.prog 184 [.int .i64 (0), .int .i64 (0), .slice none 0 0, .int .i64 (0), .int .i64 (0)] := Zer.of (by kernel_rfl)
theorem el_184 : Elm Try.prog 184 (.agg #[.int .i64 (0), .int .i64 (0), .slice none 0 0, .int .i64 (0), .int .i64 (0)]) 5 56 := Elm.of (by kernel_rfl) rfl (by decide)
theorem bp_184 {fs : Array Field} (h : Try.prog.underlying 184 = some (.struct fs)) : Plc Try.prog fs [(0, 1), (1, 1), (2, 1), (3, 1), (4, 1)] := by
  have e := h.symm.trans Try.underlying184
  injection e with e
  injection e with e
  subst e
  unfold Plc
  intro w
  kernel_rfl
theorem is_185 : (Try.prog.underlying 185).isSome = true := by rw [Try.underlying185]; rfl
theorem sz_185 : Siz Try.prog 185 5 := Siz.of (by kernel_rfl)
theorem zr_185 : Zer Try.prog 185 [.int .i64 (0), .int .i64 (0), .slice none 0 0, .int .i64 (0), .int .i64 (0)] := Zer.of (by kernel_rfl)
theorem el_185 : Elm Try.prog 185 (.agg #[.int .i64 (0), .int .i64 (0), .slice none 0 0, .int .i64 (0), .int .i64 (0)]) 5 56 := Elm.of (by kernel_rfl) rfl (by decide)
theorem bp_185 {fs : Array Field} (h : Try.prog.underlying 185 = some (.struct fs)) : Plc Try.prog fs [(0, 1), (1, 1), (2, 1), (3, 1), (4, 1)] := by
  have e := h.symm.trans Try.underlying185
  injection e with e
  injection e with e
  subst e
  unfold Plc
  intro w
  kernel_rfl
theorem is_188 : (Try.prog.underlying 188).isSome = true := by rw [Try.underlying188]; rfl
theorem sz_188 : Siz Try.prog 188 3 := Siz.of (by kernel_rfl)
theorem zr_188 : Zer Try.prog 188 [.slice none 0 0, .float .f64 0, .float .f64 0] := Zer.of (by kernel_rfl)
theorem el_188 : Elm Try.prog 188 (.agg #[.slice none 0 0, .float .f64 0, .float .f64 0]) 3 40 := Elm.of (by kernel_rfl) rfl (by decide)
theorem bp_188 {fs : Array Field} (h : Try.prog.underlying 188 = some (.struct fs)) : Plc Try.prog fs [(0, 1), (1, 1), (2, 1)] := by
  have e := h.symm.trans Try.underlying188
  injection e with e
  injection e with e
  subst e
  unfold Plc
  intro w
  kernel_rfl
theorem is_189 : (Try.prog.underlying 189).isSome = true := by rw [Try.underlying189]; rfl
theorem sz_189 : Siz Try.prog 189 3 := Siz.of (by kernel_rfl)
theorem zr_189 : Zer Try.prog 189 [.slice none 0 0, .float .f64 0, .float .f64 0] := Zer.of (by kernel_rfl)
theorem el_189 : Elm Try.prog 189 (.agg #[.slice none 0 0, .float .f64 0, .float .f64 0]) 3 40 := Elm.of (by kernel_rfl) rfl (by decide)
theorem bp_189 {fs : Array Field} (h : Try.prog.underlying 189 = some (.struct fs)) : Plc Try.prog fs [(0, 1), (1, 1), (2, 1)] := by
  have e := h.symm.trans Try.underlying189
  injection e with e
  injection e with e
  subst e
  unfold Plc
  intro w
  kernel_rfl
theorem sc_197 : Scal Try.prog 197 := Scal.of Try.underlying197 rfl
theorem is_197 : (Try.prog.underlying 197).isSome = true := by rw [Try.underlying197]; rfl
theorem sz_197 : Siz Try.prog 197 1 := Siz.of (by kernel_rfl)
theorem zr_197 : Zer Try.prog 197 [.int .u64 (0)] := Zer.of (by kernel_rfl)
theorem el_197 : Elm Try.prog 197 (.int .u64 (0)) 1 8 := Elm.of (by kernel_rfl) rfl (by decide)
theorem is_199 : (Try.prog.underlying 199).isSome = true := by rw [Try.underlying199]; rfl
theorem sz_199 : Siz Try.prog 199 4 := Siz.of (by kernel_rfl)
theorem zr_199 : Zer Try.prog 199 [.pointer none, .pointer none, .pointer none, .string ⟨#[]⟩] := Zer.of (by kernel_rfl)
theorem el_199 : Elm Try.prog 199 (.agg #[.pointer none, .pointer none, .pointer none, .string ⟨#[]⟩]) 4 40 := Elm.of (by kernel_rfl) rfl (by decide)
theorem bp_199 {fs : Array Field} (h : Try.prog.underlying 199 = some (.struct fs)) : Plc Try.prog fs [(0, 1), (1, 1), (2, 1), (3, 1)] := by
  have e := h.symm.trans Try.underlying199
  injection e with e
  injection e with e
  subst e
  unfold Plc
  intro w
  kernel_rfl
theorem is_200 : (Try.prog.underlying 200).isSome = true := by rw [Try.underlying200]; rfl
theorem sz_200 : Siz Try.prog 200 4 := Siz.of (by kernel_rfl)
theorem zr_200 : Zer Try.prog 200 [.pointer none, .pointer none, .pointer none, .string ⟨#[]⟩] := Zer.of (by kernel_rfl)
theorem el_200 : Elm Try.prog 200 (.agg #[.pointer none, .pointer none, .pointer none, .string ⟨#[]⟩]) 4 40 := Elm.of (by kernel_rfl) rfl (by decide)
theorem bp_200 {fs : Array Field} (h : Try.prog.underlying 200 = some (.struct fs)) : Plc Try.prog fs [(0, 1), (1, 1), (2, 1), (3, 1)] := by
  have e := h.symm.trans Try.underlying200
  injection e with e
  injection e with e
  subst e
  unfold Plc
  intro w
  kernel_rfl
theorem is_201 : (Try.prog.underlying 201).isSome = true := by rw [Try.underlying201]; rfl
theorem is_202 : (Try.prog.underlying 202).isSome = true := by rw [Try.underlying202]; rfl
theorem is_203 : (Try.prog.underlying 203).isSome = true := by rw [Try.underlying203]; rfl
theorem sc_204 : Scal Try.prog 204 := Scal.of Try.underlying204 rfl
theorem is_204 : (Try.prog.underlying 204).isSome = true := by rw [Try.underlying204]; rfl
theorem sz_204 : Siz Try.prog 204 1 := Siz.of (by kernel_rfl)
theorem zr_204 : Zer Try.prog 204 [.int .u8 (0)] := Zer.of (by kernel_rfl)
theorem el_204 : Elm Try.prog 204 (.int .u8 (0)) 1 1 := Elm.of (by kernel_rfl) rfl (by decide)
theorem sc_205 : Scal Try.prog 205 := Scal.of Try.underlying205 rfl
theorem is_205 : (Try.prog.underlying 205).isSome = true := by rw [Try.underlying205]; rfl
theorem sz_205 : Siz Try.prog 205 1 := Siz.of (by kernel_rfl)
theorem zr_205 : Zer Try.prog 205 [.int .u8 (0)] := Zer.of (by kernel_rfl)
theorem el_205 : Elm Try.prog 205 (.int .u8 (0)) 1 1 := Elm.of (by kernel_rfl) rfl (by decide)
theorem sc_207 : Scal Try.prog 207 := Scal.of Try.underlying207 rfl
theorem is_207 : (Try.prog.underlying 207).isSome = true := by rw [Try.underlying207]; rfl
theorem sz_207 : Siz Try.prog 207 1 := Siz.of (by kernel_rfl)
theorem zr_207 : Zer Try.prog 207 [.pointer none] := Zer.of (by kernel_rfl)
theorem el_207 : Elm Try.prog 207 (.pointer none) 1 8 := Elm.of (by kernel_rfl) rfl (by decide)
theorem sc_208 : Scal Try.prog 208 := Scal.of Try.underlying208 rfl
theorem is_208 : (Try.prog.underlying 208).isSome = true := by rw [Try.underlying208]; rfl
theorem sz_208 : Siz Try.prog 208 1 := Siz.of (by kernel_rfl)
theorem zr_208 : Zer Try.prog 208 [.int .i32 (0)] := Zer.of (by kernel_rfl)
theorem el_208 : Elm Try.prog 208 (.int .i32 (0)) 1 4 := Elm.of (by kernel_rfl) rfl (by decide)
theorem sc_209 : Scal Try.prog 209 := Scal.of Try.underlying209 rfl
theorem is_209 : (Try.prog.underlying 209).isSome = true := by rw [Try.underlying209]; rfl
theorem sz_209 : Siz Try.prog 209 1 := Siz.of (by kernel_rfl)
theorem zr_209 : Zer Try.prog 209 [.int .i32 (0)] := Zer.of (by kernel_rfl)
theorem el_209 : Elm Try.prog 209 (.int .i32 (0)) 1 4 := Elm.of (by kernel_rfl) rfl (by decide)
theorem is_210 : (Try.prog.underlying 210).isSome = true := by rw [Try.underlying210]; rfl
theorem sz_210 : Siz Try.prog 210 11 := Siz.of (by kernel_rfl)
theorem zr_210 : Zer Try.prog 210 [.int .u64 (0), .int .u64 (0), .int .u32 (0), .int .u8 (0), .int .u8 (0), .int .u8 (0), .int .u8 (0), .nilFunc, .pointer none, .int .i32 (0), .int .i32 (0)] := Zer.of (by kernel_rfl)
theorem el_210 : Elm Try.prog 210 (.agg #[.int .u64 (0), .int .u64 (0), .int .u32 (0), .int .u8 (0), .int .u8 (0), .int .u8 (0), .int .u8 (0), .nilFunc, .pointer none, .int .i32 (0), .int .i32 (0)]) 11 48 := Elm.of (by kernel_rfl) rfl (by decide)
theorem bp_210 {fs : Array Field} (h : Try.prog.underlying 210 = some (.struct fs)) : Plc Try.prog fs [(0, 1), (1, 1), (2, 1), (3, 1), (4, 1), (5, 1), (6, 1), (7, 1), (8, 1), (9, 1), (10, 1)] := by
  have e := h.symm.trans Try.underlying210
  injection e with e
  injection e with e
  subst e
  unfold Plc
  intro w
  kernel_rfl
theorem is_211 : (Try.prog.underlying 211).isSome = true := by rw [Try.underlying211]; rfl
theorem sz_211 : Siz Try.prog 211 11 := Siz.of (by kernel_rfl)
theorem zr_211 : Zer Try.prog 211 [.int .u64 (0), .int .u64 (0), .int .u32 (0), .int .u8 (0), .int .u8 (0), .int .u8 (0), .int .u8 (0), .nilFunc, .pointer none, .int .i32 (0), .int .i32 (0)] := Zer.of (by kernel_rfl)
theorem el_211 : Elm Try.prog 211 (.agg #[.int .u64 (0), .int .u64 (0), .int .u32 (0), .int .u8 (0), .int .u8 (0), .int .u8 (0), .int .u8 (0), .nilFunc, .pointer none, .int .i32 (0), .int .i32 (0)]) 11 48 := Elm.of (by kernel_rfl) rfl (by decide)
theorem bp_211 {fs : Array Field} (h : Try.prog.underlying 211 = some (.struct fs)) : Plc Try.prog fs [(0, 1), (1, 1), (2, 1), (3, 1), (4, 1), (5, 1), (6, 1), (7, 1), (8, 1), (9, 1), (10, 1)] := by
  have e := h.symm.trans Try.underlying211
  injection e with e
  injection e with e
  subst e
  unfold Plc
  intro w
  kernel_rfl
theorem sc_213 : Scal Try.prog 213 := Scal.of Try.underlying213 rfl
theorem is_213 : (Try.prog.underlying 213).isSome = true := by rw [Try.underlying213]; rfl
theorem sz_213 : Siz Try.prog 213 1 := Siz.of (by kernel_rfl)
theorem zr_213 : Zer Try.prog 213 [.pointer none] := Zer.of (by kernel_rfl)
theorem el_213 : Elm Try.prog 213 (.pointer none) 1 8 := Elm.of (by kernel_rfl) rfl (by decide)
theorem en_2 : Ent Try.prog 2 := by unfold Ent; kernel_rfl
theorem en_3 : Ent Try.prog 3 := by unfold Ent; kernel_rfl
theorem en_4 : Ent Try.prog 4 := by unfold Ent; kernel_rfl
theorem en_5 : Ent Try.prog 5 := by unfold Ent; kernel_rfl
theorem en_6 : Ent Try.prog 6 := by unfold Ent; kernel_rfl
theorem en_7 : Ent Try.prog 7 := by unfold Ent; kernel_rfl
theorem en_8 : Ent Try.prog 8 := by unfold Ent; kernel_rfl
theorem en_9 : Ent Try.prog 9 := by unfold Ent; kernel_rfl
theorem en_10 : Ent Try.prog 10 := by unfold Ent; kernel_rfl
theorem en_11 : Ent Try.prog 11 := by unfold Ent; kernel_rfl
theorem en_12 : Ent Try.prog 12 := by unfold Ent; kernel_rfl
theorem en_13 : Ent Try.prog 13 := by unfold Ent; kernel_rfl
theorem en_14 : Ent Try.prog 14 := by unfold Ent; kernel_rfl
theorem en_15 : Ent Try.prog 15 := by unfold Ent; kernel_rfl
theorem en_16 : Ent Try.prog 16 := by unfold Ent; kernel_rfl
theorem en_17 : Ent Try.prog 17 := by unfold Ent; kernel_rfl
theorem en_18 : Ent Try.prog 18 := by unfold Ent; kernel_rfl
theorem en_19 : Ent Try.prog 19 := by unfold Ent; kernel_rfl
theorem en_20 : Ent Try.prog 20 := by unfold Ent; kernel_rfl
theorem en_21 : Ent Try.prog 21 := by unfold Ent; kernel_rfl
theorem en_22 : Ent Try.prog 22 := by unfold Ent; kernel_rfl
theorem en_23 : Ent Try.prog 23 := by unfold Ent; kernel_rfl
theorem en_24 : Ent Try.prog 24 := by unfold Ent; kernel_rfl
theorem en_25 : Ent Try.prog 25 := by unfold Ent; kernel_rfl
theorem en_26 : Ent Try.prog 26 := by unfold Ent; kernel_rfl
theorem en_27 : Ent Try.prog 27 := by unfold Ent; kernel_rfl
theorem en_28 : Ent Try.prog 28 := by unfold Ent; kernel_rfl
theorem en_29 : Ent Try.prog 29 := by unfold Ent; kernel_rfl
theorem en_30 : Ent Try.prog 30 := by unfold Ent; kernel_rfl
theorem en_31 : Ent Try.prog 31 := by unfold Ent; kernel_rfl
theorem en_32 : Ent Try.prog 32 := by unfold Ent; kernel_rfl
theorem en_33 : Ent Try.prog 33 := by unfold Ent; kernel_rfl
theorem en_34 : Ent Try.prog 34 := by unfold Ent; kernel_rfl
theorem en_35 : Ent Try.prog 35 := by unfold Ent; kernel_rfl
theorem en_36 : Ent Try.prog 36 := by unfold Ent; kernel_rfl
theorem en_37 : Ent Try.prog 37 := by unfold Ent; kernel_rfl
theorem en_38 : Ent Try.prog 38 := by unfold Ent; kernel_rfl
theorem en_39 : Ent Try.prog 39 := by unfold Ent; kernel_rfl
theorem en_40 : Ent Try.prog 40 := by unfold Ent; kernel_rfl
theorem en_41 : Ent Try.prog 41 := by unfold Ent; kernel_rfl
theorem en_42 : Ent Try.prog 42 := by unfold Ent; kernel_rfl
theorem en_43 : Ent Try.prog 43 := by unfold Ent; kernel_rfl
theorem en_44 : Ent Try.prog 44 := by unfold Ent; kernel_rfl
theorem en_45 : Ent Try.prog 45 := by unfold Ent; kernel_rfl
theorem en_46 : Ent Try.prog 46 := by unfold Ent; kernel_rfl
theorem en_47 : Ent Try.prog 47 := by unfold Ent; kernel_rfl
theorem en_48 : Ent Try.prog 48 := by unfold Ent; kernel_rfl
theorem en_49 : Ent Try.prog 49 := by unfold Ent; kernel_rfl
theorem en_50 : Ent Try.prog 50 := by unfold Ent; kernel_rfl
theorem en_51 : Ent Try.prog 51 := by unfold Ent; kernel_rfl
theorem en_52 : Ent Try.prog 52 := by unfold Ent; kernel_rfl
theorem en_53 : Ent Try.prog 53 := by unfold Ent; kernel_rfl
theorem en_54 : Ent Try.prog 54 := by unfold Ent; kernel_rfl
theorem en_55 : Ent Try.prog 55 := by unfold Ent; kernel_rfl
theorem en_56 : Ent Try.prog 56 := by unfold Ent; kernel_rfl
theorem en_57 : Ent Try.prog 57 := by unfold Ent; kernel_rfl
theorem en_58 : Ent Try.prog 58 := by unfold Ent; kernel_rfl
theorem en_59 : Ent Try.prog 59 := by unfold Ent; kernel_rfl
theorem en_60 : Ent Try.prog 60 := by unfold Ent; kernel_rfl
theorem en_61 : Ent Try.prog 61 := by unfold Ent; kernel_rfl
theorem en_62 : Ent Try.prog 62 := by unfold Ent; kernel_rfl
theorem en_63 : Ent Try.prog 63 := by unfold Ent; kernel_rfl
theorem en_64 : Ent Try.prog 64 := by unfold Ent; kernel_rfl
theorem en_65 : Ent Try.prog 65 := by unfold Ent; kernel_rfl
theorem en_66 : Ent Try.prog 66 := by unfold Ent; kernel_rfl
theorem en_67 : Ent Try.prog 67 := by unfold Ent; kernel_rfl
theorem en_68 : Ent Try.prog 68 := by unfold Ent; kernel_rfl
theorem en_69 : Ent Try.prog 69 := by unfold Ent; kernel_rfl
theorem en_70 : Ent Try.prog 70 := by unfold Ent; kernel_rfl
theorem en_71 : Ent Try.prog 71 := by unfold Ent; kernel_rfl
theorem en_72 : Ent Try.prog 72 := by unfold Ent; kernel_rfl
theorem en_73 : Ent Try.prog 73 := by unfold Ent; kernel_rfl
theorem en_74 : Ent Try.prog 74 := by unfold Ent; kernel_rfl
theorem en_75 : Ent Try.prog 75 := by unfold Ent; kernel_rfl
theorem en_76 : Ent Try.prog 76 := by unfold Ent; kernel_rfl
theorem en_77 : Ent Try.prog 77 := by unfold Ent; kernel_rfl
theorem en_78 : Ent Try.prog 78 := by unfold Ent; kernel_rfl
theorem en_79 : Ent Try.prog 79 := by unfold Ent; kernel_rfl
theorem en_80 : Ent Try.prog 80 := by unfold Ent; kernel_rfl
theorem en_81 : Ent Try.prog 81 := by unfold Ent; kernel_rfl
theorem en_82 : Ent Try.prog 82 := by unfold Ent; kernel_rfl
theorem en_83 : Ent Try.prog 83 := by unfold Ent; kernel_rfl
theorem en_84 : Ent Try.prog 84 := by unfold Ent; kernel_rfl
theorem en_85 : Ent Try.prog 85 := by unfold Ent; kernel_rfl
theorem en_86 : Ent Try.prog 86 := by unfold Ent; kernel_rfl
theorem en_87 : Ent Try.prog 87 := by unfold Ent; kernel_rfl
theorem en_88 : Ent Try.prog 88 := by unfold Ent; kernel_rfl
theorem en_89 : Ent Try.prog 89 := by unfold Ent; kernel_rfl
theorem en_90 : Ent Try.prog 90 := by unfold Ent; kernel_rfl
theorem en_91 : Ent Try.prog 91 := by unfold Ent; kernel_rfl
theorem en_92 : Ent Try.prog 92 := by unfold Ent; kernel_rfl
theorem en_93 : Ent Try.prog 93 := by unfold Ent; kernel_rfl
theorem en_94 : Ent Try.prog 94 := by unfold Ent; kernel_rfl
theorem en_95 : Ent Try.prog 95 := by unfold Ent; kernel_rfl
theorem en_96 : Ent Try.prog 96 := by unfold Ent; kernel_rfl
theorem en_97 : Ent Try.prog 97 := by unfold Ent; kernel_rfl
theorem en_98 : Ent Try.prog 98 := by unfold Ent; kernel_rfl
theorem en_99 : Ent Try.prog 99 := by unfold Ent; kernel_rfl
theorem en_100 : Ent Try.prog 100 := by unfold Ent; kernel_rfl
theorem en_101 : Ent Try.prog 101 := by unfold Ent; kernel_rfl
theorem en_102 : Ent Try.prog 102 := by unfold Ent; kernel_rfl
theorem en_103 : Ent Try.prog 103 := by unfold Ent; kernel_rfl
theorem en_104 : Ent Try.prog 104 := by unfold Ent; kernel_rfl
theorem en_105 : Ent Try.prog 105 := by unfold Ent; kernel_rfl
theorem en_106 : Ent Try.prog 106 := by unfold Ent; kernel_rfl
theorem en_107 : Ent Try.prog 107 := by unfold Ent; kernel_rfl
theorem en_108 : Ent Try.prog 108 := by unfold Ent; kernel_rfl
theorem en_109 : Ent Try.prog 109 := by unfold Ent; kernel_rfl
theorem en_110 : Ent Try.prog 110 := by unfold Ent; kernel_rfl
theorem en_111 : Ent Try.prog 111 := by unfold Ent; kernel_rfl
theorem en_112 : Ent Try.prog 112 := by unfold Ent; kernel_rfl
theorem en_113 : Ent Try.prog 113 := by unfold Ent; kernel_rfl
theorem en_114 : Ent Try.prog 114 := by unfold Ent; kernel_rfl
theorem en_115 : Ent Try.prog 115 := by unfold Ent; kernel_rfl
theorem en_116 : Ent Try.prog 116 := by unfold Ent; kernel_rfl
theorem en_117 : Ent Try.prog 117 := by unfold Ent; kernel_rfl
theorem en_118 : Ent Try.prog 118 := by unfold Ent; kernel_rfl
theorem en_119 : Ent Try.prog 119 := by unfold Ent; kernel_rfl
theorem en_120 : Ent Try.prog 120 := by unfold Ent; kernel_rfl
theorem en_121 : Ent Try.prog 121 := by unfold Ent; kernel_rfl
theorem en_122 : Ent Try.prog 122 := by unfold Ent; kernel_rfl
theorem en_123 : Ent Try.prog 123 := by unfold Ent; kernel_rfl
theorem en_124 : Ent Try.prog 124 := by unfold Ent; kernel_rfl
theorem en_125 : Ent Try.prog 125 := by unfold Ent; kernel_rfl
theorem en_126 : Ent Try.prog 126 := by unfold Ent; kernel_rfl
theorem en_127 : Ent Try.prog 127 := by unfold Ent; kernel_rfl
theorem en_128 : Ent Try.prog 128 := by unfold Ent; kernel_rfl
theorem en_147 : Ent Try.prog 147 := by unfold Ent; kernel_rfl
theorem en_148 : Ent Try.prog 148 := by unfold Ent; kernel_rfl
theorem en_149 : Ent Try.prog 149 := by unfold Ent; kernel_rfl
theorem en_150 : Ent Try.prog 150 := by unfold Ent; kernel_rfl
end Go.Proofs.Ytkipdkkpifnboaa.H
