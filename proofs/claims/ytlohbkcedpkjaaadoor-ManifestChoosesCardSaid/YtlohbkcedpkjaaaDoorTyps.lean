/-
  Facts on the types and functions of this seat, for the logic of YtlohbkcedpkjaaaDoorHoa.
-/
import Derived.Test.YtlohbkcedpkjaaaDoorLogic
namespace Go.Proofs.YtlohbkcedpkjaaaDoor.H
open Go.RowKit Go.Proofs.YtlohbkcedpkjaaaDoor
theorem mixed : Tryd.prog.follows .mixedOrders = true := by kernel_rfl
theorem sc_2 : Scal Tryd.prog 2 := Scal.of Tryd.underlying2 rfl
theorem is_2 : (Tryd.prog.underlying 2).isSome = true := by rw [Tryd.underlying2]; rfl
theorem sz_2 : Siz Tryd.prog 2 1 := Siz.of (by kernel_rfl)
theorem zr_2 : Zer Tryd.prog 2 [.int .i64 (0)] := Zer.of (by kernel_rfl)
theorem el_2 : Elm Tryd.prog 2 (.int .i64 (0)) 1 8 := Elm.of (by kernel_rfl) rfl (by decide)
theorem sc_3 : Scal Tryd.prog 3 := Scal.of Tryd.underlying3 rfl
theorem is_3 : (Tryd.prog.underlying 3).isSome = true := by rw [Tryd.underlying3]; rfl
theorem sz_3 : Siz Tryd.prog 3 1 := Siz.of (by kernel_rfl)
theorem zr_3 : Zer Tryd.prog 3 [.int .i64 (0)] := Zer.of (by kernel_rfl)
theorem el_3 : Elm Tryd.prog 3 (.int .i64 (0)) 1 8 := Elm.of (by kernel_rfl) rfl (by decide)
theorem sc_4 : Scal Tryd.prog 4 := Scal.of Tryd.underlying4 rfl
theorem is_4 : (Tryd.prog.underlying 4).isSome = true := by rw [Tryd.underlying4]; rfl
theorem sz_4 : Siz Tryd.prog 4 1 := Siz.of (by kernel_rfl)
theorem zr_4 : Zer Tryd.prog 4 [.bool false] := Zer.of (by kernel_rfl)
theorem el_4 : Elm Tryd.prog 4 (.bool false) 1 1 := Elm.of (by kernel_rfl) rfl (by decide)
theorem sc_5 : Scal Tryd.prog 5 := Scal.of Tryd.underlying5 rfl
theorem is_5 : (Tryd.prog.underlying 5).isSome = true := by rw [Tryd.underlying5]; rfl
theorem sz_5 : Siz Tryd.prog 5 1 := Siz.of (by kernel_rfl)
theorem zr_5 : Zer Tryd.prog 5 [.int .u8 (0)] := Zer.of (by kernel_rfl)
theorem el_5 : Elm Tryd.prog 5 (.int .u8 (0)) 1 1 := Elm.of (by kernel_rfl) rfl (by decide)
theorem sc_6 : Scal Tryd.prog 6 := Scal.of Tryd.underlying6 rfl
theorem is_6 : (Tryd.prog.underlying 6).isSome = true := by rw [Tryd.underlying6]; rfl
theorem sz_6 : Siz Tryd.prog 6 1 := Siz.of (by kernel_rfl)
theorem zr_6 : Zer Tryd.prog 6 [.int .u8 (0)] := Zer.of (by kernel_rfl)
theorem el_6 : Elm Tryd.prog 6 (.int .u8 (0)) 1 1 := Elm.of (by kernel_rfl) rfl (by decide)
theorem is_7 : (Tryd.prog.underlying 7).isSome = true := by rw [Tryd.underlying7]; rfl
theorem sz_7 : Siz Tryd.prog 7 4 := Siz.of (by kernel_rfl)
theorem zr_7 : Zer Tryd.prog 7 [.int .i64 (0), .int .i64 (0), .bool false, .int .u8 (0)] := Zer.of (by kernel_rfl)
theorem el_7 : Elm Tryd.prog 7 (.agg #[.int .i64 (0), .int .i64 (0), .bool false, .int .u8 (0)]) 4 24 := Elm.of (by kernel_rfl) rfl (by decide)
theorem bp_7 {fs : Array Field} (h : Tryd.prog.underlying 7 = some (.struct fs)) : Plc Tryd.prog fs [(0, 1), (1, 1), (2, 1), (3, 1)] := by
  have e := h.symm.trans Tryd.underlying7
  injection e with e
  injection e with e
  subst e
  unfold Plc
  intro w
  kernel_rfl
theorem is_8 : (Tryd.prog.underlying 8).isSome = true := by rw [Tryd.underlying8]; rfl
theorem sz_8 : Siz Tryd.prog 8 4 := Siz.of (by kernel_rfl)
theorem zr_8 : Zer Tryd.prog 8 [.int .i64 (0), .int .i64 (0), .bool false, .int .u8 (0)] := Zer.of (by kernel_rfl)
theorem el_8 : Elm Tryd.prog 8 (.agg #[.int .i64 (0), .int .i64 (0), .bool false, .int .u8 (0)]) 4 24 := Elm.of (by kernel_rfl) rfl (by decide)
theorem bp_8 {fs : Array Field} (h : Tryd.prog.underlying 8 = some (.struct fs)) : Plc Tryd.prog fs [(0, 1), (1, 1), (2, 1), (3, 1)] := by
  have e := h.symm.trans Tryd.underlying8
  injection e with e
  injection e with e
  subst e
  unfold Plc
  intro w
  kernel_rfl
theorem sc_9 : Scal Tryd.prog 9 := Scal.of Tryd.underlying9 rfl
theorem is_9 : (Tryd.prog.underlying 9).isSome = true := by rw [Tryd.underlying9]; rfl
theorem sz_9 : Siz Tryd.prog 9 1 := Siz.of (by kernel_rfl)
theorem zr_9 : Zer Tryd.prog 9 [.string ⟨#[]⟩] := Zer.of (by kernel_rfl)
theorem el_9 : Elm Tryd.prog 9 (.string ⟨#[]⟩) 1 16 := Elm.of (by kernel_rfl) rfl (by decide)
theorem sc_10 : Scal Tryd.prog 10 := Scal.of Tryd.underlying10 rfl
theorem is_10 : (Tryd.prog.underlying 10).isSome = true := by rw [Tryd.underlying10]; rfl
theorem sz_10 : Siz Tryd.prog 10 1 := Siz.of (by kernel_rfl)
theorem zr_10 : Zer Tryd.prog 10 [.string ⟨#[]⟩] := Zer.of (by kernel_rfl)
theorem el_10 : Elm Tryd.prog 10 (.string ⟨#[]⟩) 1 16 := Elm.of (by kernel_rfl) rfl (by decide)
theorem sc_11 : Scal Tryd.prog 11 := Scal.of Tryd.underlying11 rfl
theorem is_11 : (Tryd.prog.underlying 11).isSome = true := by rw [Tryd.underlying11]; rfl
theorem sz_11 : Siz Tryd.prog 11 1 := Siz.of (by kernel_rfl)
theorem zr_11 : Zer Tryd.prog 11 [.string ⟨#[]⟩] := Zer.of (by kernel_rfl)
theorem el_11 : Elm Tryd.prog 11 (.string ⟨#[]⟩) 1 16 := Elm.of (by kernel_rfl) rfl (by decide)
theorem sc_12 : Scal Tryd.prog 12 := Scal.of Tryd.underlying12 rfl
theorem is_12 : (Tryd.prog.underlying 12).isSome = true := by rw [Tryd.underlying12]; rfl
theorem sz_12 : Siz Tryd.prog 12 1 := Siz.of (by kernel_rfl)
theorem zr_12 : Zer Tryd.prog 12 [.int .u64 (0)] := Zer.of (by kernel_rfl)
theorem el_12 : Elm Tryd.prog 12 (.int .u64 (0)) 1 8 := Elm.of (by kernel_rfl) rfl (by decide)
theorem is_13 : (Tryd.prog.underlying 13).isSome = true := by rw [Tryd.underlying13]; rfl
theorem sz_13 : Siz Tryd.prog 13 2 := Siz.of (by kernel_rfl)
theorem zr_13 : Zer Tryd.prog 13 [.string ⟨#[]⟩, .int .u64 (0)] := Zer.of (by kernel_rfl)
theorem el_13 : Elm Tryd.prog 13 (.agg #[.string ⟨#[]⟩, .int .u64 (0)]) 2 24 := Elm.of (by kernel_rfl) rfl (by decide)
theorem bp_13 {fs : Array Field} (h : Tryd.prog.underlying 13 = some (.struct fs)) : Plc Tryd.prog fs [(0, 1), (1, 1)] := by
  have e := h.symm.trans Tryd.underlying13
  injection e with e
  injection e with e
  subst e
  unfold Plc
  intro w
  kernel_rfl
theorem is_14 : (Tryd.prog.underlying 14).isSome = true := by rw [Tryd.underlying14]; rfl
theorem sz_14 : Siz Tryd.prog 14 2 := Siz.of (by kernel_rfl)
theorem zr_14 : Zer Tryd.prog 14 [.string ⟨#[]⟩, .int .u64 (0)] := Zer.of (by kernel_rfl)
theorem el_14 : Elm Tryd.prog 14 (.agg #[.string ⟨#[]⟩, .int .u64 (0)]) 2 24 := Elm.of (by kernel_rfl) rfl (by decide)
theorem bp_14 {fs : Array Field} (h : Tryd.prog.underlying 14 = some (.struct fs)) : Plc Tryd.prog fs [(0, 1), (1, 1)] := by
  have e := h.symm.trans Tryd.underlying14
  injection e with e
  injection e with e
  subst e
  unfold Plc
  intro w
  kernel_rfl
theorem sc_15 : Scal Tryd.prog 15 := Scal.of Tryd.underlying15 rfl
theorem is_15 : (Tryd.prog.underlying 15).isSome = true := by rw [Tryd.underlying15]; rfl
theorem sz_15 : Siz Tryd.prog 15 1 := Siz.of (by kernel_rfl)
theorem zr_15 : Zer Tryd.prog 15 [.pointer none] := Zer.of (by kernel_rfl)
theorem el_15 : Elm Tryd.prog 15 (.pointer none) 1 8 := Elm.of (by kernel_rfl) rfl (by decide)
theorem sc_16 : Scal Tryd.prog 16 := Scal.of Tryd.underlying16 rfl
theorem is_16 : (Tryd.prog.underlying 16).isSome = true := by rw [Tryd.underlying16]; rfl
theorem sz_16 : Siz Tryd.prog 16 1 := Siz.of (by kernel_rfl)
theorem zr_16 : Zer Tryd.prog 16 [.pointer none] := Zer.of (by kernel_rfl)
theorem el_16 : Elm Tryd.prog 16 (.pointer none) 1 8 := Elm.of (by kernel_rfl) rfl (by decide)
theorem sc_17 : Scal Tryd.prog 17 := Scal.of Tryd.underlying17 rfl
theorem is_17 : (Tryd.prog.underlying 17).isSome = true := by rw [Tryd.underlying17]; rfl
theorem sz_17 : Siz Tryd.prog 17 1 := Siz.of (by kernel_rfl)
theorem zr_17 : Zer Tryd.prog 17 [.pointer none] := Zer.of (by kernel_rfl)
theorem el_17 : Elm Tryd.prog 17 (.pointer none) 1 8 := Elm.of (by kernel_rfl) rfl (by decide)
theorem is_18 : (Tryd.prog.underlying 18).isSome = true := by rw [Tryd.underlying18]; rfl
theorem sz_18 : Siz Tryd.prog 18 1 := Siz.of (by kernel_rfl)
theorem zr_18 : Zer Tryd.prog 18 [.pointer none] := Zer.of (by kernel_rfl)
theorem el_18 : Elm Tryd.prog 18 (.agg #[.pointer none]) 1 8 := Elm.of (by kernel_rfl) rfl (by decide)
theorem bp_18 {fs : Array Field} (h : Tryd.prog.underlying 18 = some (.struct fs)) : Plc Tryd.prog fs [(0, 1)] := by
  have e := h.symm.trans Tryd.underlying18
  injection e with e
  injection e with e
  subst e
  unfold Plc
  intro w
  kernel_rfl
theorem is_19 : (Tryd.prog.underlying 19).isSome = true := by rw [Tryd.underlying19]; rfl
theorem sz_19 : Siz Tryd.prog 19 1 := Siz.of (by kernel_rfl)
theorem zr_19 : Zer Tryd.prog 19 [.pointer none] := Zer.of (by kernel_rfl)
theorem el_19 : Elm Tryd.prog 19 (.agg #[.pointer none]) 1 8 := Elm.of (by kernel_rfl) rfl (by decide)
theorem bp_19 {fs : Array Field} (h : Tryd.prog.underlying 19 = some (.struct fs)) : Plc Tryd.prog fs [(0, 1)] := by
  have e := h.symm.trans Tryd.underlying19
  injection e with e
  injection e with e
  subst e
  unfold Plc
  intro w
  kernel_rfl
theorem sc_21 : Scal Tryd.prog 21 := Scal.of Tryd.underlying21 rfl
theorem is_21 : (Tryd.prog.underlying 21).isSome = true := by rw [Tryd.underlying21]; rfl
theorem sz_21 : Siz Tryd.prog 21 1 := Siz.of (by kernel_rfl)
theorem zr_21 : Zer Tryd.prog 21 [.int .i32 (0)] := Zer.of (by kernel_rfl)
theorem el_21 : Elm Tryd.prog 21 (.int .i32 (0)) 1 4 := Elm.of (by kernel_rfl) rfl (by decide)
theorem sc_22 : Scal Tryd.prog 22 := Scal.of Tryd.underlying22 rfl
theorem is_22 : (Tryd.prog.underlying 22).isSome = true := by rw [Tryd.underlying22]; rfl
theorem sz_22 : Siz Tryd.prog 22 1 := Siz.of (by kernel_rfl)
theorem zr_22 : Zer Tryd.prog 22 [.int .u64 (0)] := Zer.of (by kernel_rfl)
theorem el_22 : Elm Tryd.prog 22 (.int .u64 (0)) 1 8 := Elm.of (by kernel_rfl) rfl (by decide)
theorem sc_23 : Scal Tryd.prog 23 := Scal.of Tryd.underlying23 rfl
theorem is_23 : (Tryd.prog.underlying 23).isSome = true := by rw [Tryd.underlying23]; rfl
theorem sz_23 : Siz Tryd.prog 23 1 := Siz.of (by kernel_rfl)
theorem zr_23 : Zer Tryd.prog 23 [.slice none 0 0] := Zer.of (by kernel_rfl)
theorem el_23 : Elm Tryd.prog 23 (.slice none 0 0) 1 24 := Elm.of (by kernel_rfl) rfl (by decide)
theorem is_24 : (Tryd.prog.underlying 24).isSome = true := by rw [Tryd.underlying24]; rfl
theorem sz_24 : Siz Tryd.prog 24 4 := Siz.of (by kernel_rfl)
theorem zr_24 : Zer Tryd.prog 24 [.int .i64 (0), .int .u64 (0), .int .u64 (0), .slice none 0 0] := Zer.of (by kernel_rfl)
theorem el_24 : Elm Tryd.prog 24 (.agg #[.int .i64 (0), .int .u64 (0), .int .u64 (0), .slice none 0 0]) 4 48 := Elm.of (by kernel_rfl) rfl (by decide)
theorem bp_24 {fs : Array Field} (h : Tryd.prog.underlying 24 = some (.struct fs)) : Plc Tryd.prog fs [(0, 1), (1, 1), (2, 1), (3, 1)] := by
  have e := h.symm.trans Tryd.underlying24
  injection e with e
  injection e with e
  subst e
  unfold Plc
  intro w
  kernel_rfl
theorem is_25 : (Tryd.prog.underlying 25).isSome = true := by rw [Tryd.underlying25]; rfl
theorem sz_25 : Siz Tryd.prog 25 4 := Siz.of (by kernel_rfl)
theorem zr_25 : Zer Tryd.prog 25 [.int .i64 (0), .int .u64 (0), .int .u64 (0), .slice none 0 0] := Zer.of (by kernel_rfl)
theorem el_25 : Elm Tryd.prog 25 (.agg #[.int .i64 (0), .int .u64 (0), .int .u64 (0), .slice none 0 0]) 4 48 := Elm.of (by kernel_rfl) rfl (by decide)
theorem bp_25 {fs : Array Field} (h : Tryd.prog.underlying 25 = some (.struct fs)) : Plc Tryd.prog fs [(0, 1), (1, 1), (2, 1), (3, 1)] := by
  have e := h.symm.trans Tryd.underlying25
  injection e with e
  injection e with e
  subst e
  unfold Plc
  intro w
  kernel_rfl
theorem sc_28 : Scal Tryd.prog 28 := Scal.of Tryd.underlying28 rfl
theorem is_28 : (Tryd.prog.underlying 28).isSome = true := by rw [Tryd.underlying28]; rfl
theorem sz_28 : Siz Tryd.prog 28 1 := Siz.of (by kernel_rfl)
theorem zr_28 : Zer Tryd.prog 28 [.slice none 0 0] := Zer.of (by kernel_rfl)
theorem el_28 : Elm Tryd.prog 28 (.slice none 0 0) 1 24 := Elm.of (by kernel_rfl) rfl (by decide)
theorem is_29 : (Tryd.prog.underlying 29).isSome = true := by rw [Tryd.underlying29]; rfl
theorem sz_29 : Siz Tryd.prog 29 5 := Siz.of (by kernel_rfl)
theorem zr_29 : Zer Tryd.prog 29 [.int .u64 (0), .int .u64 (0), .int .u64 (0), .int .i64 (0), .slice none 0 0] := Zer.of (by kernel_rfl)
theorem el_29 : Elm Tryd.prog 29 (.agg #[.int .u64 (0), .int .u64 (0), .int .u64 (0), .int .i64 (0), .slice none 0 0]) 5 56 := Elm.of (by kernel_rfl) rfl (by decide)
theorem bp_29 {fs : Array Field} (h : Tryd.prog.underlying 29 = some (.struct fs)) : Plc Tryd.prog fs [(0, 1), (1, 1), (2, 1), (3, 1), (4, 1)] := by
  have e := h.symm.trans Tryd.underlying29
  injection e with e
  injection e with e
  subst e
  unfold Plc
  intro w
  kernel_rfl
theorem is_30 : (Tryd.prog.underlying 30).isSome = true := by rw [Tryd.underlying30]; rfl
theorem sz_30 : Siz Tryd.prog 30 5 := Siz.of (by kernel_rfl)
theorem zr_30 : Zer Tryd.prog 30 [.int .u64 (0), .int .u64 (0), .int .u64 (0), .int .i64 (0), .slice none 0 0] := Zer.of (by kernel_rfl)
theorem el_30 : Elm Tryd.prog 30 (.agg #[.int .u64 (0), .int .u64 (0), .int .u64 (0), .int .i64 (0), .slice none 0 0]) 5 56 := Elm.of (by kernel_rfl) rfl (by decide)
theorem bp_30 {fs : Array Field} (h : Tryd.prog.underlying 30 = some (.struct fs)) : Plc Tryd.prog fs [(0, 1), (1, 1), (2, 1), (3, 1), (4, 1)] := by
  have e := h.symm.trans Tryd.underlying30
  injection e with e
  injection e with e
  subst e
  unfold Plc
  intro w
  kernel_rfl
theorem sc_31 : Scal Tryd.prog 31 := Scal.of Tryd.underlying31 rfl
theorem is_31 : (Tryd.prog.underlying 31).isSome = true := by rw [Tryd.underlying31]; rfl
theorem sz_31 : Siz Tryd.prog 31 1 := Siz.of (by kernel_rfl)
theorem zr_31 : Zer Tryd.prog 31 [.int .i64 (0)] := Zer.of (by kernel_rfl)
theorem el_31 : Elm Tryd.prog 31 (.int .i64 (0)) 1 8 := Elm.of (by kernel_rfl) rfl (by decide)
theorem is_38 : (Tryd.prog.underlying 38).isSome = true := by rw [Tryd.underlying38]; rfl
theorem sz_38 : Siz Tryd.prog 38 10 := Siz.of (by kernel_rfl)
theorem zr_38 : Zer Tryd.prog 38 [.int .u64 (0), .int .u64 (0), .int .u64 (0), .int .i64 (0), .slice none 0 0, .int .u64 (0), .int .u64 (0), .int .u64 (0), .int .i64 (0), .slice none 0 0] := Zer.of (by kernel_rfl)
theorem el_38 : Elm Tryd.prog 38 (.agg #[.int .u64 (0), .int .u64 (0), .int .u64 (0), .int .i64 (0), .slice none 0 0, .int .u64 (0), .int .u64 (0), .int .u64 (0), .int .i64 (0), .slice none 0 0]) 10 112 := Elm.of (by kernel_rfl) rfl (by decide)
theorem sc_52 : Scal Tryd.prog 52 := Scal.of Tryd.underlying52 rfl
theorem is_52 : (Tryd.prog.underlying 52).isSome = true := by rw [Tryd.underlying52]; rfl
theorem sz_52 : Siz Tryd.prog 52 1 := Siz.of (by kernel_rfl)
theorem zr_52 : Zer Tryd.prog 52 [.slice none 0 0] := Zer.of (by kernel_rfl)
theorem el_52 : Elm Tryd.prog 52 (.slice none 0 0) 1 24 := Elm.of (by kernel_rfl) rfl (by decide)
theorem is_58 : (Tryd.prog.underlying 58).isSome = true := by rw [Tryd.underlying58]; rfl
theorem sz_58 : Siz Tryd.prog 58 2 := Siz.of (by kernel_rfl)
theorem zr_58 : Zer Tryd.prog 58 [.int .i64 (0), .int .i64 (0)] := Zer.of (by kernel_rfl)
theorem el_58 : Elm Tryd.prog 58 (.agg #[.int .i64 (0), .int .i64 (0)]) 2 16 := Elm.of (by kernel_rfl) rfl (by decide)
theorem bp_58 {fs : Array Field} (h : Tryd.prog.underlying 58 = some (.struct fs)) : Plc Tryd.prog fs [(0, 1), (1, 1)] := by
  have e := h.symm.trans Tryd.underlying58
  injection e with e
  injection e with e
  subst e
  unfold Plc
  intro w
  kernel_rfl
theorem is_59 : (Tryd.prog.underlying 59).isSome = true := by rw [Tryd.underlying59]; rfl
theorem sz_59 : Siz Tryd.prog 59 2 := Siz.of (by kernel_rfl)
theorem zr_59 : Zer Tryd.prog 59 [.int .i64 (0), .int .i64 (0)] := Zer.of (by kernel_rfl)
theorem el_59 : Elm Tryd.prog 59 (.agg #[.int .i64 (0), .int .i64 (0)]) 2 16 := Elm.of (by kernel_rfl) rfl (by decide)
theorem bp_59 {fs : Array Field} (h : Tryd.prog.underlying 59 = some (.struct fs)) : Plc Tryd.prog fs [(0, 1), (1, 1)] := by
  have e := h.symm.trans Tryd.underlying59
  injection e with e
  injection e with e
  subst e
  unfold Plc
  intro w
  kernel_rfl
theorem sc_61 : Scal Tryd.prog 61 := Scal.of Tryd.underlying61 rfl
theorem is_61 : (Tryd.prog.underlying 61).isSome = true := by rw [Tryd.underlying61]; rfl
theorem sz_61 : Siz Tryd.prog 61 1 := Siz.of (by kernel_rfl)
theorem zr_61 : Zer Tryd.prog 61 [.int .u32 (0)] := Zer.of (by kernel_rfl)
theorem el_61 : Elm Tryd.prog 61 (.int .u32 (0)) 1 4 := Elm.of (by kernel_rfl) rfl (by decide)
theorem sc_65 : Scal Tryd.prog 65 := Scal.of Tryd.underlying65 rfl
theorem is_65 : (Tryd.prog.underlying 65).isSome = true := by rw [Tryd.underlying65]; rfl
theorem sz_65 : Siz Tryd.prog 65 1 := Siz.of (by kernel_rfl)
theorem zr_65 : Zer Tryd.prog 65 [.pointer none] := Zer.of (by kernel_rfl)
theorem el_65 : Elm Tryd.prog 65 (.pointer none) 1 8 := Elm.of (by kernel_rfl) rfl (by decide)
theorem sc_71 : Scal Tryd.prog 71 := Scal.of Tryd.underlying71 rfl
theorem is_71 : (Tryd.prog.underlying 71).isSome = true := by rw [Tryd.underlying71]; rfl
theorem sz_71 : Siz Tryd.prog 71 1 := Siz.of (by kernel_rfl)
theorem zr_71 : Zer Tryd.prog 71 [.pointer none] := Zer.of (by kernel_rfl)
theorem el_71 : Elm Tryd.prog 71 (.pointer none) 1 8 := Elm.of (by kernel_rfl) rfl (by decide)
theorem is_72 : (Tryd.prog.underlying 72).isSome = true := by rw [Tryd.underlying72]; rfl
theorem sz_72 : Siz Tryd.prog 72 3 := Siz.of (by kernel_rfl)
theorem zr_72 : Zer Tryd.prog 72 [.slice none 0 0, .int .i64 (0), .int .i64 (0)] := Zer.of (by kernel_rfl)
theorem el_72 : Elm Tryd.prog 72 (.agg #[.slice none 0 0, .int .i64 (0), .int .i64 (0)]) 3 40 := Elm.of (by kernel_rfl) rfl (by decide)
theorem bp_72 {fs : Array Field} (h : Tryd.prog.underlying 72 = some (.struct fs)) : Plc Tryd.prog fs [(0, 1), (1, 1), (2, 1)] := by
  have e := h.symm.trans Tryd.underlying72
  injection e with e
  injection e with e
  subst e
  unfold Plc
  intro w
  kernel_rfl
theorem is_73 : (Tryd.prog.underlying 73).isSome = true := by rw [Tryd.underlying73]; rfl
theorem sz_73 : Siz Tryd.prog 73 3 := Siz.of (by kernel_rfl)
theorem zr_73 : Zer Tryd.prog 73 [.slice none 0 0, .int .i64 (0), .int .i64 (0)] := Zer.of (by kernel_rfl)
theorem el_73 : Elm Tryd.prog 73 (.agg #[.slice none 0 0, .int .i64 (0), .int .i64 (0)]) 3 40 := Elm.of (by kernel_rfl) rfl (by decide)
theorem bp_73 {fs : Array Field} (h : Tryd.prog.underlying 73 = some (.struct fs)) : Plc Tryd.prog fs [(0, 1), (1, 1), (2, 1)] := by
  have e := h.symm.trans Tryd.underlying73
  injection e with e
  injection e with e
  subst e
  unfold Plc
  intro w
  kernel_rfl
theorem sc_76 : Scal Tryd.prog 76 := Scal.of Tryd.underlying76 rfl
theorem is_76 : (Tryd.prog.underlying 76).isSome = true := by rw [Tryd.underlying76]; rfl
theorem sz_76 : Siz Tryd.prog 76 1 := Siz.of (by kernel_rfl)
theorem zr_76 : Zer Tryd.prog 76 [.pointer none] := Zer.of (by kernel_rfl)
theorem el_76 : Elm Tryd.prog 76 (.pointer none) 1 8 := Elm.of (by kernel_rfl) rfl (by decide)
theorem sc_90 : Scal Tryd.prog 90 := Scal.of Tryd.underlying90 rfl
theorem is_90 : (Tryd.prog.underlying 90).isSome = true := by rw [Tryd.underlying90]; rfl
theorem sz_90 : Siz Tryd.prog 90 1 := Siz.of (by kernel_rfl)
theorem zr_90 : Zer Tryd.prog 90 [.pointer none] := Zer.of (by kernel_rfl)
theorem el_90 : Elm Tryd.prog 90 (.pointer none) 1 8 := Elm.of (by kernel_rfl) rfl (by decide)
theorem is_93 : (Tryd.prog.underlying 93).isSome = true := by rw [Tryd.underlying93]; rfl
theorem sz_93 : Siz Tryd.prog 93 4 := Siz.of (by kernel_rfl)
theorem zr_93 : Zer Tryd.prog 93 [.bool false, .slice none 0 0, .int .i64 (0), .int .i64 (0)] := Zer.of (by kernel_rfl)
theorem el_93 : Elm Tryd.prog 93 (.agg #[.bool false, .slice none 0 0, .int .i64 (0), .int .i64 (0)]) 4 48 := Elm.of (by kernel_rfl) rfl (by decide)
theorem bp_93 {fs : Array Field} (h : Tryd.prog.underlying 93 = some (.struct fs)) : Plc Tryd.prog fs [(0, 1), (1, 1), (2, 1), (3, 1)] := by
  have e := h.symm.trans Tryd.underlying93
  injection e with e
  injection e with e
  subst e
  unfold Plc
  intro w
  kernel_rfl
theorem is_94 : (Tryd.prog.underlying 94).isSome = true := by rw [Tryd.underlying94]; rfl
theorem sz_94 : Siz Tryd.prog 94 4 := Siz.of (by kernel_rfl)
theorem zr_94 : Zer Tryd.prog 94 [.bool false, .slice none 0 0, .int .i64 (0), .int .i64 (0)] := Zer.of (by kernel_rfl)
theorem el_94 : Elm Tryd.prog 94 (.agg #[.bool false, .slice none 0 0, .int .i64 (0), .int .i64 (0)]) 4 48 := Elm.of (by kernel_rfl) rfl (by decide)
theorem bp_94 {fs : Array Field} (h : Tryd.prog.underlying 94 = some (.struct fs)) : Plc Tryd.prog fs [(0, 1), (1, 1), (2, 1), (3, 1)] := by
  have e := h.symm.trans Tryd.underlying94
  injection e with e
  injection e with e
  subst e
  unfold Plc
  intro w
  kernel_rfl
theorem is_100 : (Tryd.prog.underlying 100).isSome = true := by rw [Tryd.underlying100]; rfl
theorem sz_100 : Siz Tryd.prog 100 5 := Siz.of (by kernel_rfl)
theorem zr_100 : Zer Tryd.prog 100 [.int .u64 (0), .int .i64 (0), .string ⟨#[]⟩, .int .i64 (0), .int .i64 (0)] := Zer.of (by kernel_rfl)
theorem el_100 : Elm Tryd.prog 100 (.agg #[.int .u64 (0), .int .i64 (0), .string ⟨#[]⟩, .int .i64 (0), .int .i64 (0)]) 5 48 := Elm.of (by kernel_rfl) rfl (by decide)
theorem bp_100 {fs : Array Field} (h : Tryd.prog.underlying 100 = some (.struct fs)) : Plc Tryd.prog fs [(0, 1), (1, 1), (2, 1), (3, 1), (4, 1)] := by
  have e := h.symm.trans Tryd.underlying100
  injection e with e
  injection e with e
  subst e
  unfold Plc
  intro w
  kernel_rfl
theorem is_101 : (Tryd.prog.underlying 101).isSome = true := by rw [Tryd.underlying101]; rfl
theorem sz_101 : Siz Tryd.prog 101 5 := Siz.of (by kernel_rfl)
theorem zr_101 : Zer Tryd.prog 101 [.int .u64 (0), .int .i64 (0), .string ⟨#[]⟩, .int .i64 (0), .int .i64 (0)] := Zer.of (by kernel_rfl)
theorem el_101 : Elm Tryd.prog 101 (.agg #[.int .u64 (0), .int .i64 (0), .string ⟨#[]⟩, .int .i64 (0), .int .i64 (0)]) 5 48 := Elm.of (by kernel_rfl) rfl (by decide)
theorem bp_101 {fs : Array Field} (h : Tryd.prog.underlying 101 = some (.struct fs)) : Plc Tryd.prog fs [(0, 1), (1, 1), (2, 1), (3, 1), (4, 1)] := by
  have e := h.symm.trans Tryd.underlying101
  injection e with e
  injection e with e
  subst e
  unfold Plc
  intro w
  kernel_rfl
theorem sc_103 : Scal Tryd.prog 103 := Scal.of Tryd.underlying103 rfl
theorem is_103 : (Tryd.prog.underlying 103).isSome = true := by rw [Tryd.underlying103]; rfl
theorem sz_103 : Siz Tryd.prog 103 1 := Siz.of (by kernel_rfl)
theorem zr_103 : Zer Tryd.prog 103 [.float .f64 0] := Zer.of (by kernel_rfl)
theorem el_103 : Elm Tryd.prog 103 (.float .f64 0) 1 8 := Elm.of (by kernel_rfl) rfl (by decide)
theorem is_104 : (Tryd.prog.underlying 104).isSome = true := by rw [Tryd.underlying104]; rfl
theorem sz_104 : Siz Tryd.prog 104 6 := Siz.of (by kernel_rfl)
theorem zr_104 : Zer Tryd.prog 104 [.int .i64 (0), .int .u64 (0), .int .i64 (0), .float .f64 0, .string ⟨#[]⟩, .int .i64 (0)] := Zer.of (by kernel_rfl)
theorem el_104 : Elm Tryd.prog 104 (.agg #[.int .i64 (0), .int .u64 (0), .int .i64 (0), .float .f64 0, .string ⟨#[]⟩, .int .i64 (0)]) 6 56 := Elm.of (by kernel_rfl) rfl (by decide)
theorem bp_104 {fs : Array Field} (h : Tryd.prog.underlying 104 = some (.struct fs)) : Plc Tryd.prog fs [(0, 1), (1, 1), (2, 1), (3, 1), (4, 1), (5, 1)] := by
  have e := h.symm.trans Tryd.underlying104
  injection e with e
  injection e with e
  subst e
  unfold Plc
  intro w
  kernel_rfl
theorem is_105 : (Tryd.prog.underlying 105).isSome = true := by rw [Tryd.underlying105]; rfl
theorem sz_105 : Siz Tryd.prog 105 6 := Siz.of (by kernel_rfl)
theorem zr_105 : Zer Tryd.prog 105 [.int .i64 (0), .int .u64 (0), .int .i64 (0), .float .f64 0, .string ⟨#[]⟩, .int .i64 (0)] := Zer.of (by kernel_rfl)
theorem el_105 : Elm Tryd.prog 105 (.agg #[.int .i64 (0), .int .u64 (0), .int .i64 (0), .float .f64 0, .string ⟨#[]⟩, .int .i64 (0)]) 6 56 := Elm.of (by kernel_rfl) rfl (by decide)
theorem bp_105 {fs : Array Field} (h : Tryd.prog.underlying 105 = some (.struct fs)) : Plc Tryd.prog fs [(0, 1), (1, 1), (2, 1), (3, 1), (4, 1), (5, 1)] := by
  have e := h.symm.trans Tryd.underlying105
  injection e with e
  injection e with e
  subst e
  unfold Plc
  intro w
  kernel_rfl
theorem is_106 : (Tryd.prog.underlying 106).isSome = true := by rw [Tryd.underlying106]; rfl
theorem sz_106 : Siz Tryd.prog 106 2 := Siz.of (by kernel_rfl)
theorem zr_106 : Zer Tryd.prog 106 [.bool false, .slice none 0 0] := Zer.of (by kernel_rfl)
theorem el_106 : Elm Tryd.prog 106 (.agg #[.bool false, .slice none 0 0]) 2 32 := Elm.of (by kernel_rfl) rfl (by decide)
theorem bp_106 {fs : Array Field} (h : Tryd.prog.underlying 106 = some (.struct fs)) : Plc Tryd.prog fs [(0, 1), (1, 1)] := by
  have e := h.symm.trans Tryd.underlying106
  injection e with e
  injection e with e
  subst e
  unfold Plc
  intro w
  kernel_rfl
theorem is_107 : (Tryd.prog.underlying 107).isSome = true := by rw [Tryd.underlying107]; rfl
theorem sz_107 : Siz Tryd.prog 107 2 := Siz.of (by kernel_rfl)
theorem zr_107 : Zer Tryd.prog 107 [.bool false, .slice none 0 0] := Zer.of (by kernel_rfl)
theorem el_107 : Elm Tryd.prog 107 (.agg #[.bool false, .slice none 0 0]) 2 32 := Elm.of (by kernel_rfl) rfl (by decide)
theorem bp_107 {fs : Array Field} (h : Tryd.prog.underlying 107 = some (.struct fs)) : Plc Tryd.prog fs [(0, 1), (1, 1)] := by
  have e := h.symm.trans Tryd.underlying107
  injection e with e
  injection e with e
  subst e
  unfold Plc
  intro w
  kernel_rfl
theorem sc_110 : Scal Tryd.prog 110 := Scal.of Tryd.underlying110 rfl
theorem is_110 : (Tryd.prog.underlying 110).isSome = true := by rw [Tryd.underlying110]; rfl
theorem sz_110 : Siz Tryd.prog 110 1 := Siz.of (by kernel_rfl)
theorem zr_110 : Zer Tryd.prog 110 [.int .u64 (0)] := Zer.of (by kernel_rfl)
theorem el_110 : Elm Tryd.prog 110 (.int .u64 (0)) 1 8 := Elm.of (by kernel_rfl) rfl (by decide)
theorem is_120 : (Tryd.prog.underlying 120).isSome = true := by rw [Tryd.underlying120]; rfl
theorem sz_120 : Siz Tryd.prog 120 16 := Siz.of (by kernel_rfl)
theorem zr_120 : Zer Tryd.prog 120 [.int .u32 (0), .int .u32 (0), .int .u32 (0), .int .u32 (0), .int .u32 (0), .int .u32 (0), .int .u32 (0), .int .u32 (0), .int .u32 (0), .int .u32 (0), .int .u32 (0), .int .u32 (0), .int .u32 (0), .int .u32 (0), .int .u32 (0), .int .u32 (0)] := Zer.of (by kernel_rfl)
theorem el_120 : Elm Tryd.prog 120 (.agg #[.int .u32 (0), .int .u32 (0), .int .u32 (0), .int .u32 (0), .int .u32 (0), .int .u32 (0), .int .u32 (0), .int .u32 (0), .int .u32 (0), .int .u32 (0), .int .u32 (0), .int .u32 (0), .int .u32 (0), .int .u32 (0), .int .u32 (0), .int .u32 (0)]) 16 64 := Elm.of (by kernel_rfl) rfl (by decide)
theorem is_131 : (Tryd.prog.underlying 131).isSome = true := by rw [Tryd.underlying131]; rfl
theorem sz_131 : Siz Tryd.prog 131 4 := Siz.of (by kernel_rfl)
theorem zr_131 : Zer Tryd.prog 131 [.pointer none, .pointer none, .pointer none, .string ⟨#[]⟩] := Zer.of (by kernel_rfl)
theorem el_131 : Elm Tryd.prog 131 (.agg #[.pointer none, .pointer none, .pointer none, .string ⟨#[]⟩]) 4 40 := Elm.of (by kernel_rfl) rfl (by decide)
theorem bp_131 {fs : Array Field} (h : Tryd.prog.underlying 131 = some (.struct fs)) : Plc Tryd.prog fs [(0, 1), (1, 1), (2, 1), (3, 1)] := by
  have e := h.symm.trans Tryd.underlying131
  injection e with e
  injection e with e
  subst e
  unfold Plc
  intro w
  kernel_rfl
theorem is_132 : (Tryd.prog.underlying 132).isSome = true := by rw [Tryd.underlying132]; rfl
theorem sz_132 : Siz Tryd.prog 132 4 := Siz.of (by kernel_rfl)
theorem zr_132 : Zer Tryd.prog 132 [.pointer none, .pointer none, .pointer none, .string ⟨#[]⟩] := Zer.of (by kernel_rfl)
theorem el_132 : Elm Tryd.prog 132 (.agg #[.pointer none, .pointer none, .pointer none, .string ⟨#[]⟩]) 4 40 := Elm.of (by kernel_rfl) rfl (by decide)
theorem bp_132 {fs : Array Field} (h : Tryd.prog.underlying 132 = some (.struct fs)) : Plc Tryd.prog fs [(0, 1), (1, 1), (2, 1), (3, 1)] := by
  have e := h.symm.trans Tryd.underlying132
  injection e with e
  injection e with e
  subst e
  unfold Plc
  intro w
  kernel_rfl
theorem is_133 : (Tryd.prog.underlying 133).isSome = true := by rw [Tryd.underlying133]; rfl
theorem is_134 : (Tryd.prog.underlying 134).isSome = true := by rw [Tryd.underlying134]; rfl
theorem is_135 : (Tryd.prog.underlying 135).isSome = true := by rw [Tryd.underlying135]; rfl
theorem sc_136 : Scal Tryd.prog 136 := Scal.of Tryd.underlying136 rfl
theorem is_136 : (Tryd.prog.underlying 136).isSome = true := by rw [Tryd.underlying136]; rfl
theorem sz_136 : Siz Tryd.prog 136 1 := Siz.of (by kernel_rfl)
theorem zr_136 : Zer Tryd.prog 136 [.int .u8 (0)] := Zer.of (by kernel_rfl)
theorem el_136 : Elm Tryd.prog 136 (.int .u8 (0)) 1 1 := Elm.of (by kernel_rfl) rfl (by decide)
theorem sc_137 : Scal Tryd.prog 137 := Scal.of Tryd.underlying137 rfl
theorem is_137 : (Tryd.prog.underlying 137).isSome = true := by rw [Tryd.underlying137]; rfl
theorem sz_137 : Siz Tryd.prog 137 1 := Siz.of (by kernel_rfl)
theorem zr_137 : Zer Tryd.prog 137 [.int .u8 (0)] := Zer.of (by kernel_rfl)
theorem el_137 : Elm Tryd.prog 137 (.int .u8 (0)) 1 1 := Elm.of (by kernel_rfl) rfl (by decide)
theorem sc_139 : Scal Tryd.prog 139 := Scal.of Tryd.underlying139 rfl
theorem is_139 : (Tryd.prog.underlying 139).isSome = true := by rw [Tryd.underlying139]; rfl
theorem sz_139 : Siz Tryd.prog 139 1 := Siz.of (by kernel_rfl)
theorem zr_139 : Zer Tryd.prog 139 [.pointer none] := Zer.of (by kernel_rfl)
theorem el_139 : Elm Tryd.prog 139 (.pointer none) 1 8 := Elm.of (by kernel_rfl) rfl (by decide)
theorem sc_140 : Scal Tryd.prog 140 := Scal.of Tryd.underlying140 rfl
theorem is_140 : (Tryd.prog.underlying 140).isSome = true := by rw [Tryd.underlying140]; rfl
theorem sz_140 : Siz Tryd.prog 140 1 := Siz.of (by kernel_rfl)
theorem zr_140 : Zer Tryd.prog 140 [.int .i32 (0)] := Zer.of (by kernel_rfl)
theorem el_140 : Elm Tryd.prog 140 (.int .i32 (0)) 1 4 := Elm.of (by kernel_rfl) rfl (by decide)
theorem sc_141 : Scal Tryd.prog 141 := Scal.of Tryd.underlying141 rfl
theorem is_141 : (Tryd.prog.underlying 141).isSome = true := by rw [Tryd.underlying141]; rfl
theorem sz_141 : Siz Tryd.prog 141 1 := Siz.of (by kernel_rfl)
theorem zr_141 : Zer Tryd.prog 141 [.int .i32 (0)] := Zer.of (by kernel_rfl)
theorem el_141 : Elm Tryd.prog 141 (.int .i32 (0)) 1 4 := Elm.of (by kernel_rfl) rfl (by decide)
theorem is_142 : (Tryd.prog.underlying 142).isSome = true := by rw [Tryd.underlying142]; rfl
theorem sz_142 : Siz Tryd.prog 142 11 := Siz.of (by kernel_rfl)
theorem zr_142 : Zer Tryd.prog 142 [.int .u64 (0), .int .u64 (0), .int .u32 (0), .int .u8 (0), .int .u8 (0), .int .u8 (0), .int .u8 (0), .nilFunc, .pointer none, .int .i32 (0), .int .i32 (0)] := Zer.of (by kernel_rfl)
theorem el_142 : Elm Tryd.prog 142 (.agg #[.int .u64 (0), .int .u64 (0), .int .u32 (0), .int .u8 (0), .int .u8 (0), .int .u8 (0), .int .u8 (0), .nilFunc, .pointer none, .int .i32 (0), .int .i32 (0)]) 11 48 := Elm.of (by kernel_rfl) rfl (by decide)
theorem bp_142 {fs : Array Field} (h : Tryd.prog.underlying 142 = some (.struct fs)) : Plc Tryd.prog fs [(0, 1), (1, 1), (2, 1), (3, 1), (4, 1), (5, 1), (6, 1), (7, 1), (8, 1), (9, 1), (10, 1)] := by
  have e := h.symm.trans Tryd.underlying142
  injection e with e
  injection e with e
  subst e
  unfold Plc
  intro w
  kernel_rfl
theorem is_143 : (Tryd.prog.underlying 143).isSome = true := by rw [Tryd.underlying143]; rfl
theorem sz_143 : Siz Tryd.prog 143 11 := Siz.of (by kernel_rfl)
theorem zr_143 : Zer Tryd.prog 143 [.int .u64 (0), .int .u64 (0), .int .u32 (0), .int .u8 (0), .int .u8 (0), .int .u8 (0), .int .u8 (0), .nilFunc, .pointer none, .int .i32 (0), .int .i32 (0)] := Zer.of (by kernel_rfl)
theorem el_143 : Elm Tryd.prog 143 (.agg #[.int .u64 (0), .int .u64 (0), .int .u32 (0), .int .u8 (0), .int .u8 (0), .int .u8 (0), .int .u8 (0), .nilFunc, .pointer none, .int .i32 (0), .int .i32 (0)]) 11 48 := Elm.of (by kernel_rfl) rfl (by decide)
theorem bp_143 {fs : Array Field} (h : Tryd.prog.underlying 143 = some (.struct fs)) : Plc Tryd.prog fs [(0, 1), (1, 1), (2, 1), (3, 1), (4, 1), (5, 1), (6, 1), (7, 1), (8, 1), (9, 1), (10, 1)] := by
  have e := h.symm.trans Tryd.underlying143
  injection e with e
  injection e with e
  subst e
  unfold Plc
  intro w
  kernel_rfl
theorem sc_146 : Scal Tryd.prog 146 := Scal.of Tryd.underlying146 rfl
theorem is_146 : (Tryd.prog.underlying 146).isSome = true := by rw [Tryd.underlying146]; rfl
theorem sz_146 : Siz Tryd.prog 146 1 := Siz.of (by kernel_rfl)
theorem zr_146 : Zer Tryd.prog 146 [.pointer none] := Zer.of (by kernel_rfl)
theorem el_146 : Elm Tryd.prog 146 (.pointer none) 1 8 := Elm.of (by kernel_rfl) rfl (by decide)
theorem en_2 : Ent Tryd.prog 2 := by unfold Ent; kernel_rfl
theorem en_3 : Ent Tryd.prog 3 := by unfold Ent; kernel_rfl
theorem en_4 : Ent Tryd.prog 4 := by unfold Ent; kernel_rfl
theorem en_5 : Ent Tryd.prog 5 := by unfold Ent; kernel_rfl
theorem en_6 : Ent Tryd.prog 6 := by unfold Ent; kernel_rfl
theorem en_7 : Ent Tryd.prog 7 := by unfold Ent; kernel_rfl
theorem en_8 : Ent Tryd.prog 8 := by unfold Ent; kernel_rfl
theorem en_9 : Ent Tryd.prog 9 := by unfold Ent; kernel_rfl
theorem en_10 : Ent Tryd.prog 10 := by unfold Ent; kernel_rfl
theorem en_11 : Ent Tryd.prog 11 := by unfold Ent; kernel_rfl
theorem en_12 : Ent Tryd.prog 12 := by unfold Ent; kernel_rfl
theorem en_13 : Ent Tryd.prog 13 := by unfold Ent; kernel_rfl
theorem en_14 : Ent Tryd.prog 14 := by unfold Ent; kernel_rfl
theorem en_15 : Ent Tryd.prog 15 := by unfold Ent; kernel_rfl
theorem en_16 : Ent Tryd.prog 16 := by unfold Ent; kernel_rfl
theorem en_17 : Ent Tryd.prog 17 := by unfold Ent; kernel_rfl
theorem en_18 : Ent Tryd.prog 18 := by unfold Ent; kernel_rfl
theorem en_19 : Ent Tryd.prog 19 := by unfold Ent; kernel_rfl
theorem en_20 : Ent Tryd.prog 20 := by unfold Ent; kernel_rfl
theorem en_21 : Ent Tryd.prog 21 := by unfold Ent; kernel_rfl
theorem en_22 : Ent Tryd.prog 22 := by unfold Ent; kernel_rfl
theorem en_23 : Ent Tryd.prog 23 := by unfold Ent; kernel_rfl
theorem en_24 : Ent Tryd.prog 24 := by unfold Ent; kernel_rfl
theorem en_25 : Ent Tryd.prog 25 := by unfold Ent; kernel_rfl
theorem en_26 : Ent Tryd.prog 26 := by unfold Ent; kernel_rfl
theorem en_27 : Ent Tryd.prog 27 := by unfold Ent; kernel_rfl
theorem en_28 : Ent Tryd.prog 28 := by unfold Ent; kernel_rfl
theorem en_29 : Ent Tryd.prog 29 := by unfold Ent; kernel_rfl
theorem en_30 : Ent Tryd.prog 30 := by unfold Ent; kernel_rfl
theorem en_31 : Ent Tryd.prog 31 := by unfold Ent; kernel_rfl
theorem en_32 : Ent Tryd.prog 32 := by unfold Ent; kernel_rfl
theorem en_33 : Ent Tryd.prog 33 := by unfold Ent; kernel_rfl
theorem en_34 : Ent Tryd.prog 34 := by unfold Ent; kernel_rfl
theorem en_35 : Ent Tryd.prog 35 := by unfold Ent; kernel_rfl
theorem en_36 : Ent Tryd.prog 36 := by unfold Ent; kernel_rfl
theorem en_37 : Ent Tryd.prog 37 := by unfold Ent; kernel_rfl
theorem en_38 : Ent Tryd.prog 38 := by unfold Ent; kernel_rfl
theorem en_39 : Ent Tryd.prog 39 := by unfold Ent; kernel_rfl
theorem en_40 : Ent Tryd.prog 40 := by unfold Ent; kernel_rfl
theorem en_41 : Ent Tryd.prog 41 := by unfold Ent; kernel_rfl
theorem en_42 : Ent Tryd.prog 42 := by unfold Ent; kernel_rfl
theorem en_43 : Ent Tryd.prog 43 := by unfold Ent; kernel_rfl
theorem en_44 : Ent Tryd.prog 44 := by unfold Ent; kernel_rfl
theorem en_45 : Ent Tryd.prog 45 := by unfold Ent; kernel_rfl
theorem en_46 : Ent Tryd.prog 46 := by unfold Ent; kernel_rfl
theorem en_47 : Ent Tryd.prog 47 := by unfold Ent; kernel_rfl
theorem en_48 : Ent Tryd.prog 48 := by unfold Ent; kernel_rfl
theorem en_49 : Ent Tryd.prog 49 := by unfold Ent; kernel_rfl
theorem en_50 : Ent Tryd.prog 50 := by unfold Ent; kernel_rfl
theorem en_51 : Ent Tryd.prog 51 := by unfold Ent; kernel_rfl
theorem en_52 : Ent Tryd.prog 52 := by unfold Ent; kernel_rfl
theorem en_53 : Ent Tryd.prog 53 := by unfold Ent; kernel_rfl
theorem en_54 : Ent Tryd.prog 54 := by unfold Ent; kernel_rfl
theorem en_55 : Ent Tryd.prog 55 := by unfold Ent; kernel_rfl
theorem en_56 : Ent Tryd.prog 56 := by unfold Ent; kernel_rfl
theorem en_57 : Ent Tryd.prog 57 := by unfold Ent; kernel_rfl
theorem en_58 : Ent Tryd.prog 58 := by unfold Ent; kernel_rfl
theorem en_59 : Ent Tryd.prog 59 := by unfold Ent; kernel_rfl
theorem en_60 : Ent Tryd.prog 60 := by unfold Ent; kernel_rfl
theorem en_61 : Ent Tryd.prog 61 := by unfold Ent; kernel_rfl
theorem en_62 : Ent Tryd.prog 62 := by unfold Ent; kernel_rfl
theorem en_63 : Ent Tryd.prog 63 := by unfold Ent; kernel_rfl
theorem en_64 : Ent Tryd.prog 64 := by unfold Ent; kernel_rfl
theorem en_65 : Ent Tryd.prog 65 := by unfold Ent; kernel_rfl
theorem en_66 : Ent Tryd.prog 66 := by unfold Ent; kernel_rfl
theorem en_67 : Ent Tryd.prog 67 := by unfold Ent; kernel_rfl
theorem en_68 : Ent Tryd.prog 68 := by unfold Ent; kernel_rfl
theorem en_69 : Ent Tryd.prog 69 := by unfold Ent; kernel_rfl
theorem en_70 : Ent Tryd.prog 70 := by unfold Ent; kernel_rfl
theorem en_71 : Ent Tryd.prog 71 := by unfold Ent; kernel_rfl
theorem en_72 : Ent Tryd.prog 72 := by unfold Ent; kernel_rfl
theorem en_73 : Ent Tryd.prog 73 := by unfold Ent; kernel_rfl
theorem en_95 : Ent Tryd.prog 95 := by unfold Ent; kernel_rfl
end Go.Proofs.YtlohbkcedpkjaaaDoor.H
